/- A tree's paths: each one behind the one ahead of it; where a path stands. -/
import Derived.Test.YtnbcmmgkdpekjaaDoorTreeTh
namespace Go.Proofs.YtnbcmmgkdpekjaaDoor.TreeUp
open Go.RowKit Go.Proofs.YtnbcmmgkdpekjaaDoorX Go.Proofs.YtnbcmmgkdpekjaaDoorW.PrintWords Go.Proofs.YtnbcmmgkdpekjaaDoorW.PrintLast Go.Proofs.YtnbcmmgkdpekjaaDoorW.PrintMore Go.Proofs.YtnbcmmgkdpekjaaDoor.P Go.Proofs.YtnbcmmgkdpekjaaDoor.Pa Go.Proofs.YtnbcmmgkdpekjaaDoor.PaTh Go.Proofs.YtnbcmmgkdpekjaaDoor.TreeTh
set_option linter.unusedVariables false
set_option linter.unusedSimpArgs false
/-- Strictly in order. -/
def up (t : List Nd) : Prop := ∀ i j, i < j → j < t.length → Op.bytesLess (L (at_ t i).f0) (L (at_ t j).f0) = true
theorem less_not {a b : List UInt8} (h : Op.bytesLess a b = true) : Op.bytesLess b a = false := by
  have := less_tri a b
  rw [h] at this
  rw [← this]
  rfl
theorem less_irr (a : List UInt8) : Op.bytesLess a a = false := by
  rw [← less_tri a a]; simp
theorem less_trans : ∀ {a b c : List UInt8}, Op.bytesLess a b = true → Op.bytesLess b c = true → Op.bytesLess a c = true := by
  intro a
  induction a with
  | nil =>
    intro b c h1 h2
    cases b with
    | nil => simp [Op.bytesLess] at h1
    | cons y b => cases c with
      | nil => simp [Op.bytesLess] at h2
      | cons z c => rfl
  | cons x a ih =>
    intro b c h1 h2
    cases b with
    | nil => simp [Op.bytesLess] at h1
    | cons y b =>
      cases c with
      | nil => simp [Op.bytesLess] at h2
      | cons z c =>
        simp only [Op.bytesLess, Bool.or_eq_true, Bool.and_eq_true, decide_eq_true_iff, beq_iff_eq, UInt8.lt_iff_toNat_lt] at h1 h2 ⊢
        rcases h1 with h1 | ⟨rfl, h1⟩
        · rcases h2 with h2 | ⟨rfl, h2⟩
          · exact .inl (by omega)
          · exact .inl h1
        · rcases h2 with h2 | ⟨rfl, h2⟩
          · exact .inl h2
          · exact .inr ⟨rfl, ih h1 h2⟩
theorem at_take (t : List Nd) (i j : Nat) (h : i < j) : at_ (t.take j) i = at_ t i := by
  unfold at_; rw [List.getD_eq_getElem?_getD, List.getD_eq_getElem?_getD, List.getElem?_take_of_lt h]
/-- What each node behind the first is. -/
theorem ok_fol {t : List Nd} {i : Nat} (h : okAt t i = true) (hi : 1 ≤ i) (hl : i < t.length) : i < 400 ∧ goodN (at_ t i) = true ∧ L (at_ t i).f0 ≠ [] ∧ may (L (at_ t i).f0) = true ∧ Op.bytesLess (L (at_ t (i - 1)).f0) (L (at_ t i).f0) = true ∧ dirOf (t.take i) (mkB (dir (L (at_ t i).f0))) = true := by
  unfold okAt at h
  rw [Bool.and_eq_true, Bool.and_eq_true, decide_eq_true_iff] at h
  obtain ⟨h1, h2, h3⟩ := h
  unfold fol at h3
  have hlen : (t.take i).length = i := by rw [List.length_take]; omega
  rw [hlen, if_neg (by omega), at_take t (i - 1) i (by omega), Bool.and_eq_true, Bool.and_eq_true, Bool.and_eq_true, decide_eq_true_iff] at h3
  exact ⟨h1, h2, h3.1.1, h3.1.2, h3.2.1, h3.2.2⟩
theorem up_may {t : List Nd} (h : mayT t = true) : up t := by
  obtain ⟨h0, h1⟩ := (mayT_iff t).1 h
  have hs : ∀ i d, i + d + 1 < t.length → Op.bytesLess (L (at_ t i).f0) (L (at_ t (i + d + 1)).f0) = true := by
    intro i d
    induction d with
    | zero =>
      intro hi
      exact (ok_fol (h1 (i + 0 + 1) hi) (by omega) hi).2.2.2.2.1
    | succ d ih =>
      intro hi
      exact less_trans (ih (by omega)) (ok_fol (h1 (i + (d + 1) + 1) hi) (by omega) hi).2.2.2.2.1
  intro i j hij hj
  obtain ⟨d, rfl⟩ : ∃ d, j = i + d + 1 := ⟨j - i - 1, by omega⟩
  exact hs i d hj
/-- No two nodes of a tree have one path. -/
theorem up_inj {t : List Nd} (hu : up t) {i j : Nat} (hi : i < t.length) (hj : j < t.length) (h : L (at_ t i).f0 = L (at_ t j).f0) : i = j := by
  rcases Nat.lt_trichotomy i j with e | e | e
  · have := hu i j e hj; rw [h, less_irr] at this; cases this
  · exact e
  · have := hu j i e hi; rw [h, less_irr] at this; cases this
theorem less_pre : ∀ (p a b : List UInt8), Op.bytesLess (p ++ a) (p ++ b) = Op.bytesLess a b
  | [], a, b => rfl
  | x :: p, a, b => by
    rw [List.cons_append, List.cons_append, Op.bytesLess, less_pre p a b]
    have : ¬ x < x := by simp only [UInt8.lt_iff_toNat_lt]; omega
    simp [this]
end Go.Proofs.YtnbcmmgkdpekjaaDoor.TreeUp
