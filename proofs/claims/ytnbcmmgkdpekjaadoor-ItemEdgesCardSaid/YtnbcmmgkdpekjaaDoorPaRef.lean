/- The printed functions of the plain reference of package path are the plain ones (over PaTh). -/
import Derived.Test.YtnbcmmgkdpekjaaDoorPaTh
namespace Go.Proofs.YtnbcmmgkdpekjaaDoor.PaTh
open Go.RowKit Go.Proofs.YtnbcmmgkdpekjaaDoorX Go.Proofs.YtnbcmmgkdpekjaaDoorW.PrintWords Go.Proofs.YtnbcmmgkdpekjaaDoorW.PrintLast Go.Proofs.YtnbcmmgkdpekjaaDoorW.PrintMore Go.Proofs.YtnbcmmgkdpekjaaDoor.P Go.Proofs.YtnbcmmgkdpekjaaDoor.Pa
set_option linter.unusedVariables false
set_option linter.unusedSimpArgs false
theorem J_le (a b : List (List UInt8)) : (J a).length ≤ (J (a ++ b)).length := by
  by_cases h : a = []
  · subst h; simp [J]
  · rw [J_append h]; simp
/-- Are texts more, or longer, than is gone through? -/
def greatX (t : List ByteArray) (m n : Nat) : Bool := decide (m < t.length) || t.any (fun x => decide (n < (L x).length))
theorem greatX_l0 (t : List ByteArray) (m n : Nat) (hm : t.length ≤ m) (hm' : m ≤ 1000000) : ∀ (f j k : Nat), j + f = t.length → 2 * f + 1 < k → hogsheadlaw0_GreatTexts.l0 k t (m : Int) (n : Int) (j : Int) = some ((t.drop j).any (fun x => decide (n < (L x).length))) := by
  intro f
  induction f with
  | zero =>
    intro j k hj hk
    obtain ⟨k, rfl⟩ : ∃ m, k = m + 2 := ⟨k - 2, by omega⟩
    rw [hogsheadlaw0_GreatTexts.l0, if_neg (by omega), hogsheadlaw0_GreatTexts.j1, if_neg (by simp), List.drop_of_length_le (by omega)]
    rw [decide_eq_false (by omega)]; rfl
  | succ f ih =>
    intro j k hj hk
    obtain ⟨k, rfl⟩ : ∃ m, k = m + 2 := ⟨k - 2, by omega⟩
    rw [hogsheadlaw0_GreatTexts.l0, if_pos (by omega), hogsheadlaw0_GreatTexts.j1, if_pos (decide_eq_true (by omega)), if_pos (by omega), if_pos (by omega), rd_L _ _ (by omega), w_one j (by omega), List.drop_eq_getElem_cons (show j < t.length by omega), List.any_cons]
    by_cases h1 : ((t[j]).size : Int) > n
    · rw [if_pos h1, decide_eq_true (show n < (L t[j]).length by rw [← size_L]; omega)]; rfl
    rw [if_neg h1, decide_eq_false (show ¬ n < (L t[j]).length by rw [← size_L]; omega), ih (j + 1) k (by omega) (by omega)]
    rfl
theorem greatX_f (t : List ByteArray) (m n : Nat) (hm' : m ≤ 1000) (k : Nat) (hk : 2100 ≤ k) : hogsheadlaw0_GreatTexts.f k t (m : Int) (n : Int) = some (greatX t m n) := by
  unfold hogsheadlaw0_GreatTexts.f greatX
  by_cases h : t.length ≤ m
  · rw [show (0 : Int) = ((0 : Nat) : Int) from rfl, greatX_l0 t m n h (by omega) t.length 0 k (by omega) (by omega), decide_eq_false (by omega)]; rfl
  · obtain ⟨k, rfl⟩ : ∃ m, k = m + 2 := ⟨k - 2, by omega⟩
    rw [hogsheadlaw0_GreatTexts.l0, if_pos (by omega), hogsheadlaw0_GreatTexts.j1, if_neg (by rw [decide_eq_false (by omega)]; simp), decide_eq_true (by omega), decide_eq_true (show m < t.length by omega)]; rfl
theorem greatX_not {t : List ByteArray} {m n : Nat} (h : ¬ greatX t m n = true) : t.length ≤ m ∧ ∀ x ∈ t, (L x).length ≤ n := by
  unfold greatX at h
  rw [Bool.or_eq_true, not_or, decide_eq_true_iff] at h
  refine ⟨by omega, fun x hx => ?_⟩
  have := h.2
  rw [Bool.not_eq_true, List.any_eq_false] at this
  have := this x hx
  rw [decide_eq_true_iff] at this
  omega
end Go.Proofs.YtnbcmmgkdpekjaaDoor.PaTh
