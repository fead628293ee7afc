/- Trees in plain words: which nodes are good, which lists are trees; that the printed functions come to that; lists compared. -/
import Derived.Test.YtcijimdogddbeaaDoorPaTh
import Derived.Laws.Bits64b
namespace Go.Proofs.YtcijimdogddbeaaDoor.TreeTh
open Go.RowKit Go.Proofs.YtcijimdogddbeaaDoorX Go.Proofs.YtcijimdogddbeaaDoorW.PrintWords Go.Proofs.YtcijimdogddbeaaDoorW.PrintLast Go.Proofs.YtcijimdogddbeaaDoorW.PrintMore Go.Proofs.YtcijimdogddbeaaDoor.P Go.Proofs.YtcijimdogddbeaaDoor.Pa Go.Proofs.YtcijimdogddbeaaDoor.PaTh
set_option linter.unusedVariables false
set_option linter.unusedSimpArgs false
abbrev Nd := S46
def z0 : Nd := z46
def at_ (t : List Nd) (j : Nat) : Nd := t.getD j z0
theorem rdN (t : List Nd) (j : Nat) : rd_T46 t (j : Int) = at_ t j := by unfold rd_T46 at_; rw [Int.toNat_natCast]; rfl
theorem at_lt (t : List Nd) (j : Nat) (h : j < t.length) : at_ t j = t[j] := by unfold at_; rw [List.getD_eq_getElem?_getD, List.getElem?_eq_getElem h]; rfl
theorem Nd_ext {a b : Nd} (h0 : a.f0 = b.f0) (h1 : a.f1 = b.f1) (h2 : a.f2 = b.f2) : a = b := by cases a; cases b; simp_all
theorem beqD {α : Type} [BEq α] [LawfulBEq α] [DecidableEq α] (a b : α) : (a == b) = decide (a = b) := by rw [Bool.eq_iff_iff]; simp
theorem Nd_eta (a : Nd) : (⟨a.f0, a.f1, a.f2⟩ : Nd) = a := rfl
/-- May a node be? -/
def good (p : List UInt8) (kd : Int) (d : List UInt8) : Bool := may p && (decide (d.length ≤ 400) && (if kd = 1 then decide (d = []) else if kd = 2 then true else if kd = 3 then true else if kd = 4 then decide (d ≠ [] ∧ 0 ∉ d) else false))
def goodN (n : Nd) : Bool := good (L n.f0) n.f1 (L n.f2)
theorem good_f (a c : ByteArray) (b : Int) (k : Nat) (hk : 302 ≤ k) : tree_Good.f k a b c = some (good (L a) b (L c)) := by
  obtain ⟨k, rfl⟩ : ∃ m, k = m + 2 := ⟨k - 2, by omega⟩
  have ix : strings_IndexByte.f c 0 = some (Lib.indexByte (L c) 0) := rfl
  unfold tree_Good.f good
  rw [may_f a _ (by omega), some_bind]
  cases may (L a)
  · rw [if_neg (by simp), tree_Good.j0, if_pos rfl]; rfl
  · rw [if_pos rfl, tree_Good.j0]
    by_cases h : (L c).length ≤ 400
    · rw [decide_eq_false (show ¬ (c.size : Int) > 400 by rw [size_L]; omega), if_neg (by simp), decide_eq_true h]
      by_cases h1 : b = 1
      · rw [if_pos h1, if_pos h1, toL, beqD]; rfl
      rw [if_neg h1, if_neg h1]
      by_cases h2 : b = 2
      · rw [if_pos h2, if_pos h2, tree_Good.j1, if_pos (by rw [h2]; rfl)]; rfl
      rw [if_neg h2, if_neg h2, tree_Good.j1]
      by_cases h3 : b = 3
      · rw [if_pos (by rw [h3]; rfl), if_pos h3]; rfl
      rw [if_neg (by simpa using h3), if_neg h3]
      by_cases h4 : b = 4
      · rw [if_pos h4, if_pos h4, toL]
        by_cases h5 : L c = []
        · rw [if_pos h5]; simp [h5]
        · rw [if_neg h5, ix, some_bind]
          refine congrArg some ?_
          rw [Bool.true_and, Bool.true_and, decide_eq_decide, idx_neg]
          exact ⟨fun e => ⟨h5, e⟩, fun e => e.2⟩
      · rw [if_neg h4, if_neg h4]; rfl
    · rw [decide_eq_true (show (c.size : Int) > 400 by rw [size_L]; omega), if_pos rfl, decide_eq_false h]; rfl
/-- May a node's path stand behind others? -/
def fol (n : List UInt8) (l : List Nd) : Bool := if l.length = 0 then decide (n = []) else decide (n ≠ []) && may n && (Op.bytesLess (L (at_ l (l.length - 1)).f0) n && dirOf l (mkB (dir n)))
theorem fol_f (n : ByteArray) (l : List Nd) (hl : l.length ≤ 1000000) (k : Nat) (hk : 1100 ≤ k) : tree_follows.f k n l = some (fol (L n) l) := by
  unfold tree_follows.f fol
  by_cases h : l.length = 0
  · rw [if_pos h, if_pos h, toL, beqD]
  rw [if_neg h, if_neg h, parent_f n k hk, some_bind, show wrap64 ((l.length : Int) - 1) = ((l.length - 1 : Nat) : Int) by rw [wrap_in (by omega) (by omega)]; omega, rdN, toL, toL]
  by_cases h1 : L n = []
  · rw [if_pos h1, if_pos (by unfold maxLen; decide)]; simp [h1]
  rw [if_neg h1]
  cases hm : may (L n)
  · simp only [Bool.false_eq_true, if_false]
    rw [if_pos (show (mkB []).size ≤ maxLen by unfold maxLen; decide)]; simp
  · rw [if_pos rfl]
    have hd : (mkB (dir (L n))).size ≤ maxLen := by
      have := may_size hm
      obtain h' | ⟨a, b, h', hb⟩ := last_cases (L n)
      · rw [dir_none h']; unfold maxLen; decide
      · rw [h'] at this ⊢
        rw [dir_slash hb, size_L, L_mkB]
        simp only [List.length_append, List.length_cons] at this
        unfold maxLen; omega
    rw [if_pos hd]; simp [h1]
def badGo (t : List Nd) : Nat → Nat → Int
  | 0, _ => -1
  | f + 1, j => if 400 ≤ j then (j : Int) else if goodN (at_ t j) = true then (if fol (L (at_ t j).f0) (t.take j) = true then badGo t f (j + 1) else (j : Int)) else (j : Int)
def bad (t : List Nd) : Int := if t.length = 0 then 0 else badGo t t.length 0
def mayT (t : List Nd) : Bool := decide (bad t < 0)
theorem badGo_f (t : List Nd) (hl : t.length ≤ 1000000) (k : Nat) (hk : 1100 ≤ k) : ∀ f j, j + f ≤ 1000000 → tree_Bad.go k t f j = some (badGo t f j) := by
  intro f
  induction f with
  | zero => intro j _; rfl
  | succ f ih =>
    intro j hj
    rw [tree_Bad.go, badGo]
    by_cases h4 : 400 ≤ j
    · rw [if_pos h4, if_pos h4]
    rw [if_neg h4, if_neg h4, rdN, good_f _ _ _ k (by omega), some_bind]
    show (if goodN (at_ t j) = true then _ else _) = _
    cases hg : goodN (at_ t j)
    · rfl
    rw [if_pos rfl, if_pos rfl, fol_f _ _ (by rw [List.length_take]; omega) k hk, some_bind]
    cases fol (L (at_ t j).f0) (t.take j)
    · rfl
    rw [if_pos rfl, if_pos rfl]
    have hs : (at_ t j).f0.size ≤ maxLen := by
      unfold goodN good at hg
      rw [Bool.and_eq_true] at hg
      have := may_size hg.1
      rw [size_L]; unfold maxLen; omega
    rw [if_pos hs]
    exact ih (j + 1) (by omega)
theorem bad_f (t : List Nd) (hl : t.length ≤ 1000000) (k : Nat) (hk : 1100 ≤ k) : tree_Bad.f k t = some (bad t) := by
  unfold tree_Bad.f bad
  by_cases h : t.length = 0
  · rw [if_pos h, if_pos h]
  · rw [if_neg h, if_neg h, if_pos hl]
    exact badGo_f t hl k hk _ _ (by omega)
theorem mayT_f (t : List Nd) (hl : t.length ≤ 1000000) (k : Nat) (hk : 1100 ≤ k) : tree_May.f k t = some (mayT t) := by
  unfold tree_May.f mayT
  rw [bad_f t hl k hk, some_bind]
/-- What is asked of each place of a tree. -/
def okAt (t : List Nd) (j : Nat) : Bool := decide (j < 400) && (goodN (at_ t j) && fol (L (at_ t j).f0) (t.take j))
theorem badGo_neg (t : List Nd) : ∀ f j, (badGo t f j < 0 ↔ ∀ i, j ≤ i → i < j + f → okAt t i = true) := by
  intro f
  induction f with
  | zero => intro j; rw [badGo]; exact ⟨fun _ i h1 h2 => by omega, fun _ => by omega⟩
  | succ f ih =>
    intro j
    rw [badGo]
    have hj : okAt t j = (decide (j < 400) && (goodN (at_ t j) && fol (L (at_ t j).f0) (t.take j))) := rfl
    by_cases h4 : 400 ≤ j
    · rw [if_pos h4]
      refine ⟨fun h => by omega, fun h => ?_⟩
      have := h j (Nat.le_refl _) (by omega)
      rw [hj, decide_eq_false (by omega)] at this
      simp at this
    rw [if_neg h4]
    rw [decide_eq_true (show j < 400 by omega), Bool.true_and] at hj
    cases hg : goodN (at_ t j)
    · rw [if_neg (by simp)]
      refine ⟨fun h => by omega, fun h => ?_⟩
      have := h j (Nat.le_refl _) (by omega)
      rw [hj, hg] at this
      simp at this
    rw [if_pos rfl]
    cases hf : fol (L (at_ t j).f0) (t.take j)
    · rw [if_neg (by simp)]
      refine ⟨fun h => by omega, fun h => ?_⟩
      have := h j (Nat.le_refl _) (by omega)
      rw [hj, hg, hf] at this
      simp at this
    rw [if_pos rfl, ih (j + 1)]
    rw [hg, hf] at hj
    refine ⟨fun h i h1 h2 => ?_, fun h i h1 h2 => h i (by omega) (by omega)⟩
    by_cases e : i = j
    · subst e; exact hj
    · exact h i (by omega) (by omega)
theorem mayT_iff (t : List Nd) : mayT t = true ↔ t.length ≠ 0 ∧ ∀ i, i < t.length → okAt t i = true := by
  unfold mayT bad
  rw [decide_eq_true_iff]
  by_cases h : t.length = 0
  · rw [if_pos h]; exact ⟨fun e => by omega, fun e => absurd h e.1⟩
  · rw [if_neg h, badGo_neg]
    exact ⟨fun e => ⟨h, fun i hi => e i (Nat.zero_le _) (by omega)⟩, fun e i _ hi => e.2 i (by omega)⟩
theorem mayT_good {t : List Nd} (h : mayT t = true) : t ≠ [] ∧ t.length ≤ 400 ∧ ∀ n ∈ t, goodN n = true := by
  obtain ⟨h0, h1⟩ := (mayT_iff t).1 h
  refine ⟨fun e => h0 (by rw [e]; rfl), ?_, fun n hn => ?_⟩
  · have := h1 (t.length - 1) (by omega)
    unfold okAt at this
    rw [Bool.and_eq_true, decide_eq_true_iff] at this
    omega
  · obtain ⟨i, hi, rfl⟩ := List.mem_iff_getElem.1 hn
    have := h1 i hi
    unfold okAt at this
    rw [Bool.and_eq_true, Bool.and_eq_true, at_lt t i hi] at this
    exact this.2.1
theorem goodN_size {n : Nd} (h : goodN n = true) : (L n.f0).length ≤ 200 ∧ (L n.f2).length ≤ 400 ∧ 1 ≤ n.f1 ∧ n.f1 ≤ 4 := by
  unfold goodN good at h
  rw [Bool.and_eq_true, Bool.and_eq_true, decide_eq_true_iff] at h
  obtain ⟨h1, h2, h3⟩ := h
  refine ⟨may_size h1, h2, ?_⟩
  by_cases e1 : n.f1 = 1
  · omega
  rw [if_neg e1] at h3
  by_cases e2 : n.f1 = 2
  · omega
  rw [if_neg e2] at h3
  by_cases e3 : n.f1 = 3
  · omega
  rw [if_neg e3] at h3
  by_cases e4 : n.f1 = 4
  · omega
  rw [if_neg e4] at h3
  cases h3
/-- Are nodes more than is gone through? -/
def great (t : List Nd) (m : Nat) : Bool := decide (m < t.length) || t.any (fun x => decide (300 < (L x.f0).length) || decide (500 < (L x.f2).length))
theorem great_l0 (t : List Nd) (m : Nat) (hm : t.length ≤ m) (hm' : m ≤ 1000000) : ∀ (f j k : Nat), j + f = t.length → 2 * f + 1 < k → hogsheadlaw0_GreatNodes.l0 k t (m : Int) (j : Int) = some ((t.drop j).any (fun x => decide (300 < (L x.f0).length) || decide (500 < (L x.f2).length))) := by
  intro f
  induction f with
  | zero =>
    intro j k hj hk
    obtain ⟨k, rfl⟩ : ∃ m, k = m + 2 := ⟨k - 2, by omega⟩
    rw [hogsheadlaw0_GreatNodes.l0, if_neg (by omega), hogsheadlaw0_GreatNodes.j1, if_neg (by simp), List.drop_of_length_le (by omega)]
    rw [decide_eq_false (by omega)]; rfl
  | succ f ih =>
    intro j k hj hk
    obtain ⟨k, rfl⟩ : ∃ m, k = m + 2 := ⟨k - 2, by omega⟩
    rw [hogsheadlaw0_GreatNodes.l0, if_pos (by omega), hogsheadlaw0_GreatNodes.j1, if_pos (decide_eq_true (by omega)), if_pos (by omega), if_pos (by omega), rdN, w_one j (by omega), List.drop_eq_getElem_cons (show j < t.length by omega), List.any_cons, ← at_lt t j (by omega)]
    by_cases h1 : ((at_ t j).f0.size : Int) > 300
    · rw [if_pos h1, decide_eq_true (show 300 < (L (at_ t j).f0).length by rw [← size_L]; omega)]; rfl
    rw [if_neg h1, decide_eq_false (show ¬ 300 < (L (at_ t j).f0).length by rw [← size_L]; omega)]
    by_cases h2 : ((at_ t j).f2.size : Int) > 500
    · rw [if_pos h2, decide_eq_true (show 500 < (L (at_ t j).f2).length by rw [← size_L]; omega)]; rfl
    rw [if_neg h2, decide_eq_false (show ¬ 500 < (L (at_ t j).f2).length by rw [← size_L]; omega), ih (j + 1) k (by omega) (by omega)]
    rfl
theorem great_f (t : List Nd) (m : Nat) (hm' : m ≤ 1000) (ht : t.length ≤ 9223372036854775807) (k : Nat) (hk : 2100 ≤ k) : hogsheadlaw0_GreatNodes.f k t (m : Int) = some (great t m) := by
  unfold hogsheadlaw0_GreatNodes.f great
  by_cases h : t.length ≤ m
  · rw [show (0 : Int) = ((0 : Nat) : Int) from rfl, great_l0 t m h (by omega) t.length 0 k (by omega) (by omega), decide_eq_false (by omega)]; rfl
  · obtain ⟨k, rfl⟩ : ∃ m, k = m + 2 := ⟨k - 2, by omega⟩
    rw [hogsheadlaw0_GreatNodes.l0, if_pos (by omega), hogsheadlaw0_GreatNodes.j1, if_neg (by rw [decide_eq_false (by omega)]; simp), decide_eq_true (by omega), decide_eq_true (show m < t.length by omega)]; rfl
theorem great_not {t : List Nd} {m : Nat} (h : ¬ great t m = true) : t.length ≤ m ∧ ∀ x ∈ t, (L x.f0).length ≤ 300 ∧ (L x.f2).length ≤ 500 := by
  unfold great at h
  rw [Bool.or_eq_true, not_or, decide_eq_true_iff] at h
  refine ⟨by omega, fun x hx => ?_⟩
  have := h.2
  rw [Bool.not_eq_true, List.any_eq_false] at this
  have := this x hx
  rw [Bool.or_eq_true, not_or, decide_eq_true_iff, decide_eq_true_iff] at this
  omega
/-- Are two lists the same? -/
def eqN (a b : Nd) : Bool := decide (L a.f0 = L b.f0) && (decide (a.f1 = b.f1) && decide (L a.f2 = L b.f2))
theorem eqN_iff (a b : Nd) : eqN a b = true ↔ a = b := by
  unfold eqN
  rw [Bool.and_eq_true, Bool.and_eq_true, decide_eq_true_iff, decide_eq_true_iff, decide_eq_true_iff]
  exact ⟨fun h => Nd_ext (L_inj h.1) h.2.1 (L_inj h.2.2), fun h => by rw [h]; exact ⟨rfl, rfl, rfl⟩⟩
def sameN : List Nd → List Nd → Bool
  | [], [] => true
  | x :: a, y :: b => eqN x y && sameN a b
  | _, _ => false
theorem sameN_iff : ∀ (a b : List Nd), sameN a b = true ↔ a = b
  | [], [] => by simp [sameN]
  | [], y :: b => by simp [sameN]
  | x :: a, [] => by simp [sameN]
  | x :: a, y :: b => by rw [sameN, Bool.and_eq_true, eqN_iff, sameN_iff a b]; simp
theorem sameN_self (a : List Nd) : sameN a a = true := (sameN_iff a a).2 rfl
end Go.Proofs.YtcijimdogddbeaaDoor.TreeTh
/- A tree's paths: each one behind the one ahead of it; where a path stands. -/
namespace Go.Proofs.YtcijimdogddbeaaDoor.TreeUp
open Go.RowKit Go.Proofs.YtcijimdogddbeaaDoorX Go.Proofs.YtcijimdogddbeaaDoorW.PrintWords Go.Proofs.YtcijimdogddbeaaDoorW.PrintLast Go.Proofs.YtcijimdogddbeaaDoorW.PrintMore Go.Proofs.YtcijimdogddbeaaDoor.P Go.Proofs.YtcijimdogddbeaaDoor.Pa Go.Proofs.YtcijimdogddbeaaDoor.PaTh Go.Proofs.YtcijimdogddbeaaDoor.TreeTh
set_option linter.unusedVariables false
set_option linter.unusedSimpArgs false
/-- Strictly in order. -/
def up (t : List Nd) : Prop := ∀ i j, i < j → j < t.length → Op.bytesLess (L (at_ t i).f0) (L (at_ t j).f0) = true
theorem less_not {a b : List UInt8} (h : Op.bytesLess a b = true) : Op.bytesLess b a = false := by
  have := less_tri a b
  rw [h] at this
  rw [← this]
  rfl
theorem less_irr (a : List UInt8) : Op.bytesLess a a = false := by
  rw [← less_tri a a]; simp
theorem less_trans : ∀ {a b c : List UInt8}, Op.bytesLess a b = true → Op.bytesLess b c = true → Op.bytesLess a c = true := by
  intro a
  induction a with
  | nil =>
    intro b c h1 h2
    cases b with
    | nil => simp [Op.bytesLess] at h1
    | cons y b => cases c with
      | nil => simp [Op.bytesLess] at h2
      | cons z c => rfl
  | cons x a ih =>
    intro b c h1 h2
    cases b with
    | nil => simp [Op.bytesLess] at h1
    | cons y b =>
      cases c with
      | nil => simp [Op.bytesLess] at h2
      | cons z c =>
        simp only [Op.bytesLess, Bool.or_eq_true, Bool.and_eq_true, decide_eq_true_iff, beq_iff_eq, UInt8.lt_iff_toNat_lt] at h1 h2 ⊢
        rcases h1 with h1 | ⟨rfl, h1⟩
        · rcases h2 with h2 | ⟨rfl, h2⟩
          · exact .inl (by omega)
          · exact .inl h1
        · rcases h2 with h2 | ⟨rfl, h2⟩
          · exact .inl h2
          · exact .inr ⟨rfl, ih h1 h2⟩
theorem at_take (t : List Nd) (i j : Nat) (h : i < j) : at_ (t.take j) i = at_ t i := by
  unfold at_; rw [List.getD_eq_getElem?_getD, List.getD_eq_getElem?_getD, List.getElem?_take_of_lt h]
/-- What each node behind the first is. -/
theorem ok_fol {t : List Nd} {i : Nat} (h : okAt t i = true) (hi : 1 ≤ i) (hl : i < t.length) : i < 400 ∧ goodN (at_ t i) = true ∧ L (at_ t i).f0 ≠ [] ∧ may (L (at_ t i).f0) = true ∧ Op.bytesLess (L (at_ t (i - 1)).f0) (L (at_ t i).f0) = true ∧ dirOf (t.take i) (mkB (dir (L (at_ t i).f0))) = true := by
  unfold okAt at h
  rw [Bool.and_eq_true, Bool.and_eq_true, decide_eq_true_iff] at h
  obtain ⟨h1, h2, h3⟩ := h
  unfold fol at h3
  have hlen : (t.take i).length = i := by rw [List.length_take]; omega
  rw [hlen, if_neg (by omega), at_take t (i - 1) i (by omega), Bool.and_eq_true, Bool.and_eq_true, Bool.and_eq_true, decide_eq_true_iff] at h3
  exact ⟨h1, h2, h3.1.1, h3.1.2, h3.2.1, h3.2.2⟩
theorem up_may {t : List Nd} (h : mayT t = true) : up t := by
  obtain ⟨h0, h1⟩ := (mayT_iff t).1 h
  have hs : ∀ i d, i + d + 1 < t.length → Op.bytesLess (L (at_ t i).f0) (L (at_ t (i + d + 1)).f0) = true := by
    intro i d
    induction d with
    | zero =>
      intro hi
      exact (ok_fol (h1 (i + 0 + 1) hi) (by omega) hi).2.2.2.2.1
    | succ d ih =>
      intro hi
      exact less_trans (ih (by omega)) (ok_fol (h1 (i + (d + 1) + 1) hi) (by omega) hi).2.2.2.2.1
  intro i j hij hj
  obtain ⟨d, rfl⟩ : ∃ d, j = i + d + 1 := ⟨j - i - 1, by omega⟩
  exact hs i d hj
/-- No two nodes of a tree have one path. -/
theorem up_inj {t : List Nd} (hu : up t) {i j : Nat} (hi : i < t.length) (hj : j < t.length) (h : L (at_ t i).f0 = L (at_ t j).f0) : i = j := by
  rcases Nat.lt_trichotomy i j with e | e | e
  · have := hu i j e hj; rw [h, less_irr] at this; cases this
  · exact e
  · have := hu j i e hi; rw [h, less_irr] at this; cases this
theorem less_pre : ∀ (p a b : List UInt8), Op.bytesLess (p ++ a) (p ++ b) = Op.bytesLess a b
  | [], a, b => rfl
  | x :: p, a, b => by
    rw [List.cons_append, List.cons_append, Op.bytesLess, less_pre p a b]
    have : ¬ x < x := by simp only [UInt8.lt_iff_toNat_lt]; omega
    simp [this]
end Go.Proofs.YtcijimdogddbeaaDoor.TreeUp
/- A tree's bytes in plain words: how they are laid, how they are read, and that the one undoes the other. -/
namespace Go.Proofs.YtcijimdogddbeaaDoor.NarTh
open Go.RowKit Go.Proofs.YtcijimdogddbeaaDoorX Go.Proofs.YtcijimdogddbeaaDoorW.PrintWords Go.Proofs.YtcijimdogddbeaaDoorW.PrintLast Go.Proofs.YtcijimdogddbeaaDoorW.PrintMore Go.Proofs.YtcijimdogddbeaaDoor.P Go.Proofs.YtcijimdogddbeaaDoor.Pa Go.Proofs.YtcijimdogddbeaaDoor.PaTh Go.Proofs.YtcijimdogddbeaaDoor.TreeTh
open Go.Proofs.YtcijimdogddbeaaDoor.Bs (strOfNums_bytesOf)
set_option linter.unusedVariables false
set_option linter.unusedSimpArgs false
/-! ### numbers -/
def byteAt (n : Int) (i : Nat) : Int := (shr .u64 (IntKind.u64.wrap (n)) (IntKind.u64.wrap (wrap64 (8 * (wrap64 (7 - (i : Int))))))) % 256
def enc8 (n : Int) : List Int := (List.range 8).map (byteAt n)
theorem enc8_len (n : Int) : (enc8 n).length = 8 := by simp [enc8]
theorem clone_f (l : List Int) (h : l.length < 140737488355328) : slices_Clone_byte_byte.f l = some l := by
  unfold slices_Clone_byte_byte.f
  rw [some_bind, if_pos (by simpa using h)]; rfl
theorem u64_nonneg (x : Int) : 0 ≤ IntKind.u64.wrap x := by rw [Bs.u64_wrap]; omega
theorem num_l0 (n : Int) (l : List Int) (hl : l.length ≤ 1000000000000) : ∀ (f j k : Nat), j + f = 8 → f < k → nar_Num.l0 k n (l ++ ((List.range 8).take j).map (byteAt n)) (j : Int) = some (l ++ enc8 n) := by
  intro f
  induction f with
  | zero =>
    intro j k hj hk
    obtain ⟨k, rfl⟩ : ∃ m, k = m + 1 := ⟨k - 1, by omega⟩
    obtain rfl : j = 8 := by omega
    rw [nar_Num.l0, if_neg (by omega)]; rfl
  | succ f ih =>
    intro j k hj hk
    obtain ⟨k, rfl⟩ : ∃ m, k = m + 1 := ⟨k - 1, by omega⟩
    have hlen : (l ++ ((List.range 8).take j).map (byteAt n)).length < 140737488355328 := by simp; omega
    rw [nar_Num.l0, if_pos (by omega), if_pos (u64_nonneg _), if_pos hlen, w_one j (by omega)]
    have ht : ((List.range 8).take (j + 1)).map (byteAt n) = ((List.range 8).take j).map (byteAt n) ++ [byteAt n j] := by
      rw [List.take_add_one, List.getElem?_range (by omega)]; simp
    have := ih (j + 1) k (by omega) (by omega)
    rw [ht, ← List.append_assoc] at this
    exact this
theorem num_f (l : List Int) (hl : l.length ≤ 1000000000000) (n : Int) (k : Nat) (hk : 9 ≤ k) : nar_Num.f k l n = some (l ++ enc8 n) := by
  unfold nar_Num.f
  rw [clone_f l (by omega), some_bind]
  have := num_l0 n l hl 8 0 k (by omega) (by omega)
  simpa using this
theorem enc8_list (n : Int) (h0 : 0 ≤ n) (h1 : n < 4611686018427387904) : enc8 n = [n / 72057594037927936 % 256, n / 281474976710656 % 256, n / 1099511627776 % 256, n / 4294967296 % 256, n / 16777216 % 256, n / 65536 % 256, n / 256 % 256, n / 1 % 256] := by
  have e : IntKind.u64.wrap n = n := by rw [Bs.u64_wrap]; omega
  unfold enc8 byteAt
  rw [e]
  clear e h0 h1
  have w : ∀ i : Nat, i < 8 → IntKind.u64.wrap (wrap64 (8 * wrap64 (7 - (i : Int)))) = 8 * (7 - (i : Int)) := by decide +kernel
  have s : ∀ (y : Int) (p : Int), (2 : Int) ^ min y.toNat (IntKind.bits .u64) = p → shr .u64 n y = n / p := fun y p h => by unfold shr; rw [h]
  rw [show List.range 8 = [0, 1, 2, 3, 4, 5, 6, 7] from rfl]
  simp only [List.map_cons, List.map_nil]
  rw [w 0 (by omega), w 1 (by omega), w 2 (by omega), w 3 (by omega), w 4 (by omega), w 5 (by omega), w 6 (by omega), w 7 (by omega)]
  rw [s (8 * (7 - ((0 : Nat) : Int))) 72057594037927936 (by decide), s (8 * (7 - ((1 : Nat) : Int))) 281474976710656 (by decide), s (8 * (7 - ((2 : Nat) : Int))) 1099511627776 (by decide), s (8 * (7 - ((3 : Nat) : Int))) 4294967296 (by decide), s (8 * (7 - ((4 : Nat) : Int))) 16777216 (by decide), s (8 * (7 - ((5 : Nat) : Int))) 65536 (by decide), s (8 * (7 - ((6 : Nat) : Int))) 256 (by decide), s (8 * (7 - ((7 : Nat) : Int))) 1 (by decide)]
/-! ### texts -/
def padN (s : ByteArray) : List Int := List.replicate (((8 - ((s.size : Int) % 8)) % 8 : Int)).toNat 0
def encT (s : ByteArray) : List Int := enc8 (s.size : Int) ++ (bytesOf s ++ padN s)
theorem padN_len (s : ByteArray) : ((padN s).length : Int) = (8 - (s.size : Int) % 8) % 8 := by unfold padN; rw [List.length_replicate]; omega
theorem encT_len (s : ByteArray) : ((encT s).length : Int) = 8 + s.size + (8 - (s.size : Int) % 8) % 8 := by
  unfold encT
  rw [List.length_append, List.length_append, enc8_len, bytesOf_length]
  have := padN_len s
  push_cast
  omega
theorem text_f (l : List Int) (hl : l.length ≤ 100000000000) (s : ByteArray) (hs : s.size ≤ 1000000000) (k : Nat) (hk : 9 ≤ k) : nar_Text.f k l s = some (l ++ encT s) := by
  unfold nar_Text.f
  rw [num_f l (by omega) _ k hk, some_bind, if_pos (by rw [List.length_append, enc8_len]; omega), some_bind, if_pos (by omega), if_pos (by rw [List.length_append, List.length_append, enc8_len, bytesOf_length]; omega)]
  refine congrArg some ?_
  unfold encT padN
  rw [List.append_assoc, List.append_assoc]
end Go.Proofs.YtcijimdogddbeaaDoor.NarTh
