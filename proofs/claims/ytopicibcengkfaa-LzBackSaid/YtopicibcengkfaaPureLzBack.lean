/- For every text of at most 600 bytes: what was packed is unpacked again, to its own size alone, and has at most one byte more for each 128 bytes begun. No condition. -/
import Derived.Test.YtopicibcengkfaaThLzBack
namespace Go.Proofs.Ytopicibcengkfaa.Pure
open Go.RowKit Go.Proofs.Ytopicibcengkfaa.PLzBack Go.Proofs.YtopicibcengkfaaW.PrintWords Go.Proofs.YtopicibcengkfaaW.PrintLast Go.Proofs.Ytopicibcengkfaa.PLzBackTh Go.Proofs.Ytopicibcengkfaa.Bs Go.Proofs.Ytopicibcengkfaa.Lz
set_option linter.unusedVariables false
set_option linter.unusedSimpArgs false

theorem LzBack : hogsheadlaw17_LzBack.Pure := by
  intro s more hs _
  refine ⟨1000000, ?_⟩
  unfold hogsheadlaw17_LzBack.f
  by_cases h : (s.size : Int) > 600
  · rw [if_pos h, awake_f _ (by omega)]; rfl
  · rw [if_neg h]
    have hl := PK_length (bytesOf s)
    have hB := bytesOf_strOfNums (PK_bytes _ (bytesOf_bytes s))
    have hsz : (strOfNums (PK (bytesOf s))).size = (PK (bytesOf s)).length := by rw [← bytesOf_length, hB]
    rw [bytesOf_length] at hl
    have hlow : ∀ n : Int, 1 ≤ n → n ≤ 1000 → hogsheadlaw0_Low.f more n = some ((more % 18446744073709551616) % n) := fun n h1 h2 => low_expr more n h1 (by omega)
    have r1 := low_range more 100 (by omega)
    have r2 := low_range more ((s.size : Int) + 1) (by omega)
    have hU : ∀ size : Int, lz_Unpack.f 1000000 (strOfNums (PK (bytesOf s))) size = some (if (s.size : Int) = size then (s, 0) else ((⟨#[]⟩ : ByteArray), 5)) := fun size => unpack_pack s (by omega) _ (by omega) size
    have u1 : lz_Unpack.f 1000000 (strOfNums (PK (bytesOf s))) (s.size : Int) = some (s, 0) := by rw [hU, if_pos rfl]
    have u2 : ∀ size : Int, size ≠ (s.size : Int) → lz_Unpack.f 1000000 (strOfNums (PK (bytesOf s))) size = some ((⟨#[]⟩ : ByteArray), 5) := fun size hne => by rw [hU, if_neg (fun e => hne e.symm)]
    clear hU
    rw [pack_f s (by omega) _ (by omega), some_bind, u1, some_bind, hlow 100 (by omega) (by omega), some_bind]
    generalize more % 18446744073709551616 % 100 = x at r1 ⊢
    rw [show wrap64 ((s.size : Int) + 1) = (s.size : Int) + 1 from wrap_in (by omega) (by omega), show wrap64 ((s.size : Int) + 1 + x) = (s.size : Int) + 1 + x from wrap_in (by omega) (by omega), u2 _ (by omega), some_bind, hlow _ (by omega) (by omega), some_bind]
    generalize more % 18446744073709551616 % ((s.size : Int) + 1) = y at r2 ⊢
    rw [show wrap64 (y - 1) = y - 1 from wrap_in (by omega) (by omega), u2 _ (by omega), some_bind]
    simp only
    rw [if_pos trivial, if_pos trivial, if_pos trivial, if_pos trivial, show wrap64 ((s.size : Int) + 127) = (s.size : Int) + 127 from wrap_in (by omega) (by omega)]
    rw [show wrap64 (Int.tdiv ((s.size : Int) + 127) 128) = ((s.size : Int) + 127) / 128 from by
      rw [Int.tdiv_eq_ediv_of_nonneg (by omega)]; exact wrap_in (by omega) (by omega)]
    rw [show wrap64 ((s.size : Int) + ((s.size : Int) + 127) / 128) = (s.size : Int) + ((s.size : Int) + 127) / 128 from wrap_in (by omega) (by omega), hsz, if_pos (by omega), awake_f _ (by omega)]
    rfl
end Go.Proofs.Ytopicibcengkfaa.Pure
