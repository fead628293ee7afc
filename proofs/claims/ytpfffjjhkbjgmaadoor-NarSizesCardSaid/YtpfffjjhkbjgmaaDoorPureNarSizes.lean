/- The plain law behind NarSizes. -/
import Derived.Test.YtpfffjjhkbjgmaaDoorNarTh
namespace Go.Proofs.YtpfffjjhkbjgmaaDoor.Pure
open Go.RowKit Go.Proofs.YtpfffjjhkbjgmaaDoorX Go.Proofs.YtpfffjjhkbjgmaaDoorW.PrintWords Go.Proofs.YtpfffjjhkbjgmaaDoorW.PrintLast Go.Proofs.YtpfffjjhkbjgmaaDoorW.PrintMore Go.Proofs.YtpfffjjhkbjgmaaDoor.P Go.Proofs.YtpfffjjhkbjgmaaDoor.Pa Go.Proofs.YtpfffjjhkbjgmaaDoor.PaTh Go.Proofs.YtpfffjjhkbjgmaaDoor.TreeTh Go.Proofs.YtpfffjjhkbjgmaaDoor.NarTh
set_option linter.unusedVariables false
set_option linter.unusedSimpArgs false
def want (t : List Nd) : Int := (t.map fun n => 24 + ((n.f0.size : Int) + 7) / 8 * 8 + ((n.f2.size : Int) + 7) / 8 * 8).sum
theorem want_flat (t : List Nd) : ((t.flatMap encN).length : Int) = want t := by
  unfold want
  induction t with
  | nil => rfl
  | cons x t ih =>
    rw [List.flatMap_cons, List.length_append, List.map_cons, List.sum_cons, ← ih]
    have a := encT_len x.f0
    have b := encT_len x.f2
    have c : (encN x).length = (encT x.f0).length + (8 + (encT x.f2).length) := by unfold encN; rw [List.length_append, List.length_append, enc8_len]
    push_cast
    rw [c]
    push_cast
    omega
theorem sizes_l0 (t : List Nd) (b : List Int) (ht : t.length ≤ 60) (hs : ∀ x ∈ t, (L x.f0).length ≤ 300 ∧ (L x.f2).length ≤ 500) (hb : (b.length : Int) = 24 + want t) : ∀ (f j k : Nat) (a : Int), j + f = t.length → f + 301 ≤ k → a + want (t.drop j) = 24 + want t → 0 ≤ a → a ≤ 24 + 1000 * j →
    hogsheadlaw5_NarSizes.l0 k t b a (j : Int) = some true := by
  intro f
  induction f with
  | zero =>
    intro j k a hj hk ha _ _
    obtain ⟨k, rfl⟩ : ∃ m, k = m + 1 := ⟨k - 1, by omega⟩
    rw [List.drop_of_length_le (by omega)] at ha
    have : want [] = 0 := rfl
    rw [hogsheadlaw5_NarSizes.l0, if_neg (by omega), if_pos (by omega), awake_f k (by omega), some_bind]
  | succ f ih =>
    intro j k a hj hk ha h0 h1
    obtain ⟨k, rfl⟩ : ∃ m, k = m + 1 := ⟨k - 1, by omega⟩
    have hjl : j < t.length := by omega
    obtain ⟨s0, s2⟩ := hs _ (List.getElem_mem hjl)
    rw [← at_lt t j hjl, ← size_L] at s0 s2
    rw [hogsheadlaw5_NarSizes.l0, if_pos (by omega), if_pos (by omega), rdN, w_one j (by omega)]
    have e1 : wrap64 (Int.tdiv (wrap64 (((at_ t j).f0.size : Int) + 7)) 8) = (((at_ t j).f0.size : Int) + 7) / 8 := by
      rw [wrap_in (a := ((at_ t j).f0.size : Int) + 7) (by omega) (by omega), Int.tdiv_eq_ediv_of_nonneg (by omega), wrap_in (by omega) (by omega)]
    have e2 : wrap64 (Int.tdiv (wrap64 (((at_ t j).f2.size : Int) + 7)) 8) = (((at_ t j).f2.size : Int) + 7) / 8 := by
      rw [wrap_in (a := ((at_ t j).f2.size : Int) + 7) (by omega) (by omega), Int.tdiv_eq_ediv_of_nonneg (by omega), wrap_in (by omega) (by omega)]
    rw [e1, e2, wrap_in (a := a + 24) (by omega) (by omega), wrap_in (a := (((at_ t j).f0.size : Int) + 7) / 8 * 8) (by omega) (by omega), wrap_in (a := (((at_ t j).f2.size : Int) + 7) / 8 * 8) (by omega) (by omega), wrap_in (a := a + 24 + (((at_ t j).f0.size : Int) + 7) / 8 * 8) (by omega) (by omega), wrap_in (by omega) (by omega)]
    have hw : want (t.drop j) = (24 + (((at_ t j).f0.size : Int) + 7) / 8 * 8 + (((at_ t j).f2.size : Int) + 7) / 8 * 8) + want (t.drop (j + 1)) := by
      unfold want
      rw [(List.drop_eq_getElem_cons hjl : t.drop j = _), List.map_cons, List.sum_cons, ← at_lt t j hjl]
    refine ih (j + 1) k _ (by omega) (by omega) ?_ (by omega) ?_
    · rw [hw] at ha; omega
    · push_cast; omega
theorem NarSizes : hogsheadlaw5_NarSizes.Pure := by
  intro t ⟨hl, _⟩
  have hl' : t.length ≤ 9223372036854775807 := by unfold maxLen at hl; exact hl
  refine ⟨3000, ?_⟩
  unfold hogsheadlaw5_NarSizes.f
  rw [show (60 : Int) = ((60 : Nat) : Int) from rfl, great_f t 60 (by omega) hl' 3000 (by omega), some_bind]
  by_cases hg : great t 60 = true
  · rw [if_pos hg, awake_f _ (by omega), some_bind]
  rw [if_neg hg]
  obtain ⟨h60, hs⟩ := great_not hg
  rw [lay_f t (by omega) _ (by omega), some_bind]
  by_cases hm : mayT t = true
  · rw [if_pos hm]
    show (if (0 : Int) = 0 then _ else _) = _
    rw [if_pos rfl]
    have hb : ((enc t).length : Int) = 24 + want t := by
      have a := encT_len NarTh.mark
      have hm : NarTh.mark.size = 5 := rfl
      have b := want_flat t
      unfold enc
      rw [List.length_append, List.length_append, enc8_len]
      push_cast
      rw [a, hm, b]
      omega
    exact sizes_l0 t (enc t) h60 hs hb t.length 0 3000 24 (by omega) (by omega) (by simp) (by omega) (by omega)
  · rw [if_neg hm]
    show (if (7 : Int) = 0 then _ else _) = _
    rw [if_neg (by omega), if_pos (by simp), awake_f _ (by omega), some_bind]
end Go.Proofs.YtpfffjjhkbjgmaaDoor.Pure
