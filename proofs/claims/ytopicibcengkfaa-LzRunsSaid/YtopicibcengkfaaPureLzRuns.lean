/- For every text of one to eight bytes, put behind itself up to 100 times: it is unpacked again, and packed hardly anything is left. No condition. -/
import Derived.Test.YtopicibcengkfaaThLzRuns
namespace Go.Proofs.Ytopicibcengkfaa.Pure
open Go.RowKit Go.Proofs.Ytopicibcengkfaa.PLzRuns Go.Proofs.YtopicibcengkfaaW.PrintWords Go.Proofs.YtopicibcengkfaaW.PrintLast Go.Proofs.Ytopicibcengkfaa.PLzRunsTh Go.Proofs.Ytopicibcengkfaa.Bs Go.Proofs.Ytopicibcengkfaa.Lz
set_option linter.unusedVariables false
set_option linter.unusedSimpArgs false

def rep (s : List Int) : Nat → List Int
  | 0 => []
  | n + 1 => rep s n ++ s
theorem rep_length (s : List Int) : ∀ n, (rep s n).length = n * s.length := by
  intro n
  induction n with
  | zero => simp [rep]
  | succ n ih => rw [rep, List.length_append, ih, Nat.succ_mul]
theorem rep_front (s : List Int) : ∀ n, s ++ rep s n = rep s (n + 1) := by
  intro n
  induction n with
  | zero => simp [rep]
  | succ n ih => rw [rep, ← List.append_assoc, ih]; rfl
theorem rep_period (s : List Int) (n : Nat) (j : Nat) (h : s.length ≤ j) (h' : j < (rep s (n + 1)).length) : el (rep s (n + 1)) j = el (rep s (n + 1)) (j - s.length) := by
  rw [rep_length, Nat.succ_mul] at h'
  have h1 : el (rep s (n + 1)) j = el (rep s n) (j - s.length) := by rw [← rep_front, el_append_right h]
  have h2 : el (rep s (n + 1)) (j - s.length) = el (rep s n) (j - s.length) := by rw [rep, el_append_left (by rw [rep_length]; omega)]
  rw [h1, h2]
theorem runs_l0 (s : ByteArray) (h1 : 1 ≤ s.size) (h8 : s.size ≤ 8) (times : Int) (t : Nat) (ht : hogsheadlaw0_Low.f times 100 = some (t : Int)) (ht2 : t < 100) :
    ∀ (d i : Nat) (x : ByteArray) (k : Nat), d + i = t + 1 → bytesOf x = rep (bytesOf s) i → d + 2000000 ≤ k → hogsheadlaw17_LzRuns.l0 k s times x (i : Int) = some true := by
  intro d
  induction d with
  | zero =>
    intro i x k hi hx hk
    obtain ⟨k, rfl⟩ : ∃ m, k = m + 1 := ⟨k - 1, by omega⟩
    have hxl : x.size = i * s.size := by rw [← bytesOf_length, hx, rep_length, bytesOf_length]
    have hmul : i * s.size ≤ 800 := Nat.le_trans (Nat.mul_le_mul (show i ≤ 100 by omega) h8) (by omega)
    have hge : s.size ≤ x.size := by rw [hxl]; exact Nat.le_mul_of_pos_left _ (by omega)
    rw [hogsheadlaw17_LzRuns.l0, ht, some_bind, if_neg (by omega), pack_f x (by omega) _ (by omega), some_bind, unpack_pack x (by omega) _ (by omega) _, some_bind, if_pos rfl]
    simp only
    rw [if_pos trivial, if_pos trivial]
    have hB := bytesOf_strOfNums (PK_bytes _ (bytesOf_bytes x))
    have hsz : (strOfNums (PK (bytesOf x))).size = (PK (bytesOf x)).length := by rw [← bytesOf_length, hB]
    have hp : ∀ j, s.size ≤ j → j < (bytesOf x).length → el (bytesOf x) j = el (bytesOf x) (j - s.size) := by
      intro j hj hj'
      obtain ⟨n, rfl⟩ : ∃ n, i = n + 1 := ⟨i - 1, by omega⟩
      rw [hx] at hj' ⊢
      rw [← bytesOf_length s] at hj ⊢
      exact rep_period (bytesOf s) n j hj hj'
    have hr := PK_runs (bytesOf x) s.size h1 h8 hp (by rw [bytesOf_length]; exact hge)
    rw [bytesOf_length] at hr
    rw [show wrap64 (1 + (s.size : Int)) = 1 + (s.size : Int) from wrap_in (by omega) (by omega), show wrap64 ((x.size : Int) / 130) = (x.size : Int) / 130 from wrap_in (by omega) (by omega), show wrap64 ((x.size : Int) / 130 + 2) = (x.size : Int) / 130 + 2 from wrap_in (by omega) (by omega), show wrap64 (2 * ((x.size : Int) / 130 + 2)) = 2 * ((x.size : Int) / 130 + 2) from wrap_in (by omega) (by omega), show wrap64 (1 + (s.size : Int) + 2 * ((x.size : Int) / 130 + 2)) = 1 + (s.size : Int) + 2 * ((x.size : Int) / 130 + 2) from wrap_in (by omega) (by omega), hsz, if_pos (by omega), awake_f _ (by omega)]
    rfl
  | succ d ih =>
    intro i x k hi hx hk
    obtain ⟨k, rfl⟩ : ∃ m, k = m + 1 := ⟨k - 1, by omega⟩
    have hxl : x.size = i * s.size := by rw [← bytesOf_length, hx, rep_length, bytesOf_length]
    have hmul : i * s.size ≤ 800 := Nat.le_trans (Nat.mul_le_mul (show i ≤ 100 by omega) h8) (by omega)
    have hih := ih (i + 1) (x ++ s) k (by omega) (by rw [bytesOf_append, hx]; rfl) (by omega)
    rw [hogsheadlaw17_LzRuns.l0, ht, some_bind, if_pos (by omega), if_pos (by omega), show wrap64 ((i : Int) + 1) = ((i + 1 : Nat) : Int) from by rw [wrap_in (by omega) (by omega)]; omega]
    exact hih
theorem LzRuns : hogsheadlaw17_LzRuns.Pure := by
  intro s times hs _
  refine ⟨3000001, ?_⟩
  unfold hogsheadlaw17_LzRuns.f
  by_cases h8 : (s.size : Int) > 8
  · rw [if_pos h8, hogsheadlaw17_LzRuns.j0, if_pos rfl, awake_f _ (by omega)]; rfl
  · rw [if_neg h8]
    by_cases h0 : s.size = 0
    · rw [hogsheadlaw17_LzRuns.j0, if_pos (by simp [h0]), awake_f _ (by omega)]; rfl
    · rw [hogsheadlaw17_LzRuns.j0, if_neg (by simp [h0])]
      have r := low_range times 100 (by omega)
      have hl : hogsheadlaw0_Low.f times 100 = some ((times % 18446744073709551616) % 100) := low_expr times 100 (by omega) (by omega)
      generalize times % 18446744073709551616 % 100 = y at r hl
      obtain ⟨t, rfl⟩ := Int.eq_ofNat_of_zero_le r.1
      exact runs_l0 s (by omega) (by omega) times t hl (by omega) (t + 1) 0 ⟨#[]⟩ 3000000 rfl rfl (by omega)
end Go.Proofs.Ytopicibcengkfaa.Pure
