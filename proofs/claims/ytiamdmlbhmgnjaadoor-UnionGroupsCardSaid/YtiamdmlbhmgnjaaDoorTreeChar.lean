/- Trees in plain words: which nodes are good, which lists are trees; that the printed functions come to that; lists compared. -/
import Derived.Test.YtiamdmlbhmgnjaaDoorPartsTh
namespace Go.Proofs.YtiamdmlbhmgnjaaDoor.TreeTh
open Go.RowKit Go.Proofs.YtiamdmlbhmgnjaaDoorX Go.Proofs.YtiamdmlbhmgnjaaDoorW.PrintWords Go.Proofs.YtiamdmlbhmgnjaaDoorW.PrintLast Go.Proofs.YtiamdmlbhmgnjaaDoorW.PrintMore Go.Proofs.YtiamdmlbhmgnjaaDoor.P Go.Proofs.YtiamdmlbhmgnjaaDoor.Pa Go.Proofs.YtiamdmlbhmgnjaaDoor.PaTh
set_option linter.unusedVariables false
set_option linter.unusedSimpArgs false
abbrev Nd := S37
def z0 : Nd := z37
def at_ (t : List Nd) (j : Nat) : Nd := t.getD j z0
theorem rdN (t : List Nd) (j : Nat) : rd_T37 t (j : Int) = at_ t j := by unfold rd_T37 at_; rw [Int.toNat_natCast]; rfl
theorem at_lt (t : List Nd) (j : Nat) (h : j < t.length) : at_ t j = t[j] := by unfold at_; rw [List.getD_eq_getElem?_getD, List.getElem?_eq_getElem h]; rfl
theorem Nd_ext {a b : Nd} (h0 : a.f0 = b.f0) (h1 : a.f1 = b.f1) (h2 : a.f2 = b.f2) : a = b := by cases a; cases b; simp_all
theorem beqD {α : Type} [BEq α] [LawfulBEq α] [DecidableEq α] (a b : α) : (a == b) = decide (a = b) := by rw [Bool.eq_iff_iff]; simp
theorem Nd_eta (a : Nd) : (⟨a.f0, a.f1, a.f2⟩ : Nd) = a := rfl
/-- May a node be? -/
def good (p : List UInt8) (kd : Int) (d : List UInt8) : Bool := may p && (decide (d.length ≤ 400) && (if kd = 1 then decide (d = []) else if kd = 2 then true else if kd = 3 then true else if kd = 4 then decide (d ≠ [] ∧ 0 ∉ d) else false))
def goodN (n : Nd) : Bool := good (L n.f0) n.f1 (L n.f2)
theorem good_f (a c : ByteArray) (b : Int) (k : Nat) (hk : 302 ≤ k) : tree_Good.f k a b c = some (good (L a) b (L c)) := by
  obtain ⟨k, rfl⟩ : ∃ m, k = m + 2 := ⟨k - 2, by omega⟩
  have ix : strings_IndexByte.f c 0 = some (Lib.indexByte (L c) 0) := rfl
  unfold tree_Good.f good
  rw [may_f a _ (by omega), some_bind]
  cases may (L a)
  · rw [if_neg (by simp), tree_Good.j0, if_pos rfl]; rfl
  · rw [if_pos rfl, tree_Good.j0]
    by_cases h : (L c).length ≤ 400
    · rw [decide_eq_false (show ¬ (c.size : Int) > 400 by rw [size_L]; omega), if_neg (by simp), decide_eq_true h]
      by_cases h1 : b = 1
      · rw [if_pos h1, if_pos h1, toL, beqD]; rfl
      rw [if_neg h1, if_neg h1]
      by_cases h2 : b = 2
      · rw [if_pos h2, if_pos h2, tree_Good.j1, if_pos (by rw [h2]; rfl)]; rfl
      rw [if_neg h2, if_neg h2, tree_Good.j1]
      by_cases h3 : b = 3
      · rw [if_pos (by rw [h3]; rfl), if_pos h3]; rfl
      rw [if_neg (by simpa using h3), if_neg h3]
      by_cases h4 : b = 4
      · rw [if_pos h4, if_pos h4, toL]
        by_cases h5 : L c = []
        · rw [if_pos h5]; simp [h5]
        · rw [if_neg h5, ix, some_bind]
          refine congrArg some ?_
          rw [Bool.true_and, Bool.true_and, decide_eq_decide, idx_neg]
          exact ⟨fun e => ⟨h5, e⟩, fun e => e.2⟩
      · rw [if_neg h4, if_neg h4]; rfl
    · rw [decide_eq_true (show (c.size : Int) > 400 by rw [size_L]; omega), if_pos rfl, decide_eq_false h]; rfl
/-- May a node's path stand behind others? -/
def fol (n : List UInt8) (l : List Nd) : Bool := if l.length = 0 then decide (n = []) else decide (n ≠ []) && may n && (Op.bytesLess (L (at_ l (l.length - 1)).f0) n && dirOf l (mkB (dir n)))
theorem fol_f (n : ByteArray) (l : List Nd) (hl : l.length ≤ 1000000) (k : Nat) (hk : 1100 ≤ k) : tree_follows.f k n l = some (fol (L n) l) := by
  unfold tree_follows.f fol
  by_cases h : l.length = 0
  · rw [if_pos h, if_pos h, toL, beqD]
  rw [if_neg h, if_neg h, parent_f n k hk, some_bind, show wrap64 ((l.length : Int) - 1) = ((l.length - 1 : Nat) : Int) by rw [wrap_in (by omega) (by omega)]; omega, rdN, toL, toL]
  by_cases h1 : L n = []
  · rw [if_pos h1, if_pos (by unfold maxLen; decide)]; simp [h1]
  rw [if_neg h1]
  cases hm : may (L n)
  · simp only [Bool.false_eq_true, if_false]
    rw [if_pos (show (mkB []).size ≤ maxLen by unfold maxLen; decide)]; simp
  · rw [if_pos rfl]
    have hd : (mkB (dir (L n))).size ≤ maxLen := by
      have := may_size hm
      obtain h' | ⟨a, b, h', hb⟩ := last_cases (L n)
      · rw [dir_none h']; unfold maxLen; decide
      · rw [h'] at this ⊢
        rw [dir_slash hb, size_L, L_mkB]
        simp only [List.length_append, List.length_cons] at this
        unfold maxLen; omega
    rw [if_pos hd]; simp [h1]
def badGo (t : List Nd) : Nat → Nat → Int
  | 0, _ => -1
  | f + 1, j => if 400 ≤ j then (j : Int) else if goodN (at_ t j) = true then (if fol (L (at_ t j).f0) (t.take j) = true then badGo t f (j + 1) else (j : Int)) else (j : Int)
def bad (t : List Nd) : Int := if t.length = 0 then 0 else badGo t t.length 0
def mayT (t : List Nd) : Bool := decide (bad t < 0)
theorem badGo_f (t : List Nd) (hl : t.length ≤ 1000000) (k : Nat) (hk : 1100 ≤ k) : ∀ f j, j + f ≤ 1000000 → tree_Bad.go k t f j = some (badGo t f j) := by
  intro f
  induction f with
  | zero => intro j _; rfl
  | succ f ih =>
    intro j hj
    rw [tree_Bad.go, badGo]
    by_cases h4 : 400 ≤ j
    · rw [if_pos h4, if_pos h4]
    rw [if_neg h4, if_neg h4, rdN, good_f _ _ _ k (by omega), some_bind]
    show (if goodN (at_ t j) = true then _ else _) = _
    cases hg : goodN (at_ t j)
    · rfl
    rw [if_pos rfl, if_pos rfl, fol_f _ _ (by rw [List.length_take]; omega) k hk, some_bind]
    cases fol (L (at_ t j).f0) (t.take j)
    · rfl
    rw [if_pos rfl, if_pos rfl]
    have hs : (at_ t j).f0.size ≤ maxLen := by
      unfold goodN good at hg
      rw [Bool.and_eq_true] at hg
      have := may_size hg.1
      rw [size_L]; unfold maxLen; omega
    rw [if_pos hs]
    exact ih (j + 1) (by omega)
theorem bad_f (t : List Nd) (hl : t.length ≤ 1000000) (k : Nat) (hk : 1100 ≤ k) : tree_Bad.f k t = some (bad t) := by
  unfold tree_Bad.f bad
  by_cases h : t.length = 0
  · rw [if_pos h, if_pos h]
  · rw [if_neg h, if_neg h, if_pos hl]
    exact badGo_f t hl k hk _ _ (by omega)
theorem mayT_f (t : List Nd) (hl : t.length ≤ 1000000) (k : Nat) (hk : 1100 ≤ k) : tree_May.f k t = some (mayT t) := by
  unfold tree_May.f mayT
  rw [bad_f t hl k hk, some_bind]
/-- What is asked of each place of a tree. -/
def okAt (t : List Nd) (j : Nat) : Bool := decide (j < 400) && (goodN (at_ t j) && fol (L (at_ t j).f0) (t.take j))
theorem badGo_neg (t : List Nd) : ∀ f j, (badGo t f j < 0 ↔ ∀ i, j ≤ i → i < j + f → okAt t i = true) := by
  intro f
  induction f with
  | zero => intro j; rw [badGo]; exact ⟨fun _ i h1 h2 => by omega, fun _ => by omega⟩
  | succ f ih =>
    intro j
    rw [badGo]
    have hj : okAt t j = (decide (j < 400) && (goodN (at_ t j) && fol (L (at_ t j).f0) (t.take j))) := rfl
    by_cases h4 : 400 ≤ j
    · rw [if_pos h4]
      refine ⟨fun h => by omega, fun h => ?_⟩
      have := h j (Nat.le_refl _) (by omega)
      rw [hj, decide_eq_false (by omega)] at this
      simp at this
    rw [if_neg h4]
    rw [decide_eq_true (show j < 400 by omega), Bool.true_and] at hj
    cases hg : goodN (at_ t j)
    · rw [if_neg (by simp)]
      refine ⟨fun h => by omega, fun h => ?_⟩
      have := h j (Nat.le_refl _) (by omega)
      rw [hj, hg] at this
      simp at this
    rw [if_pos rfl]
    cases hf : fol (L (at_ t j).f0) (t.take j)
    · rw [if_neg (by simp)]
      refine ⟨fun h => by omega, fun h => ?_⟩
      have := h j (Nat.le_refl _) (by omega)
      rw [hj, hg, hf] at this
      simp at this
    rw [if_pos rfl, ih (j + 1)]
    rw [hg, hf] at hj
    refine ⟨fun h i h1 h2 => ?_, fun h i h1 h2 => h i (by omega) (by omega)⟩
    by_cases e : i = j
    · subst e; exact hj
    · exact h i (by omega) (by omega)
theorem mayT_iff (t : List Nd) : mayT t = true ↔ t.length ≠ 0 ∧ ∀ i, i < t.length → okAt t i = true := by
  unfold mayT bad
  rw [decide_eq_true_iff]
  by_cases h : t.length = 0
  · rw [if_pos h]; exact ⟨fun e => by omega, fun e => absurd h e.1⟩
  · rw [if_neg h, badGo_neg]
    exact ⟨fun e => ⟨h, fun i hi => e i (Nat.zero_le _) (by omega)⟩, fun e i _ hi => e.2 i (by omega)⟩
theorem mayT_good {t : List Nd} (h : mayT t = true) : t ≠ [] ∧ t.length ≤ 400 ∧ ∀ n ∈ t, goodN n = true := by
  obtain ⟨h0, h1⟩ := (mayT_iff t).1 h
  refine ⟨fun e => h0 (by rw [e]; rfl), ?_, fun n hn => ?_⟩
  · have := h1 (t.length - 1) (by omega)
    unfold okAt at this
    rw [Bool.and_eq_true, decide_eq_true_iff] at this
    omega
  · obtain ⟨i, hi, rfl⟩ := List.mem_iff_getElem.1 hn
    have := h1 i hi
    unfold okAt at this
    rw [Bool.and_eq_true, Bool.and_eq_true, at_lt t i hi] at this
    exact this.2.1
theorem goodN_size {n : Nd} (h : goodN n = true) : (L n.f0).length ≤ 200 ∧ (L n.f2).length ≤ 400 ∧ 1 ≤ n.f1 ∧ n.f1 ≤ 4 := by
  unfold goodN good at h
  rw [Bool.and_eq_true, Bool.and_eq_true, decide_eq_true_iff] at h
  obtain ⟨h1, h2, h3⟩ := h
  refine ⟨may_size h1, h2, ?_⟩
  by_cases e1 : n.f1 = 1
  · omega
  rw [if_neg e1] at h3
  by_cases e2 : n.f1 = 2
  · omega
  rw [if_neg e2] at h3
  by_cases e3 : n.f1 = 3
  · omega
  rw [if_neg e3] at h3
  by_cases e4 : n.f1 = 4
  · omega
  rw [if_neg e4] at h3
  cases h3
/-- Are nodes more than is gone through? -/
def great (t : List Nd) (m : Nat) : Bool := decide (m < t.length) || t.any (fun x => decide (300 < (L x.f0).length) || decide (500 < (L x.f2).length))
theorem great_l0 (t : List Nd) (m : Nat) (hm : t.length ≤ m) (hm' : m ≤ 1000000) : ∀ (f j k : Nat), j + f = t.length → 2 * f + 1 < k → hogsheadlaw0_GreatNodes.l0 k t (m : Int) (j : Int) = some ((t.drop j).any (fun x => decide (300 < (L x.f0).length) || decide (500 < (L x.f2).length))) := by
  intro f
  induction f with
  | zero =>
    intro j k hj hk
    obtain ⟨k, rfl⟩ : ∃ m, k = m + 2 := ⟨k - 2, by omega⟩
    rw [hogsheadlaw0_GreatNodes.l0, if_neg (by omega), hogsheadlaw0_GreatNodes.j1, if_neg (by simp), List.drop_of_length_le (by omega)]
    rw [decide_eq_false (by omega)]; rfl
  | succ f ih =>
    intro j k hj hk
    obtain ⟨k, rfl⟩ : ∃ m, k = m + 2 := ⟨k - 2, by omega⟩
    rw [hogsheadlaw0_GreatNodes.l0, if_pos (by omega), hogsheadlaw0_GreatNodes.j1, if_pos (decide_eq_true (by omega)), if_pos (by omega), if_pos (by omega), rdN, w_one j (by omega), List.drop_eq_getElem_cons (show j < t.length by omega), List.any_cons, ← at_lt t j (by omega)]
    by_cases h1 : ((at_ t j).f0.size : Int) > 300
    · rw [if_pos h1, decide_eq_true (show 300 < (L (at_ t j).f0).length by rw [← size_L]; omega)]; rfl
    rw [if_neg h1, decide_eq_false (show ¬ 300 < (L (at_ t j).f0).length by rw [← size_L]; omega)]
    by_cases h2 : ((at_ t j).f2.size : Int) > 500
    · rw [if_pos h2, decide_eq_true (show 500 < (L (at_ t j).f2).length by rw [← size_L]; omega)]; rfl
    rw [if_neg h2, decide_eq_false (show ¬ 500 < (L (at_ t j).f2).length by rw [← size_L]; omega), ih (j + 1) k (by omega) (by omega)]
    rfl
theorem great_f (t : List Nd) (m : Nat) (hm' : m ≤ 1000) (ht : t.length ≤ 9223372036854775807) (k : Nat) (hk : 2100 ≤ k) : hogsheadlaw0_GreatNodes.f k t (m : Int) = some (great t m) := by
  unfold hogsheadlaw0_GreatNodes.f great
  by_cases h : t.length ≤ m
  · rw [show (0 : Int) = ((0 : Nat) : Int) from rfl, great_l0 t m h (by omega) t.length 0 k (by omega) (by omega), decide_eq_false (by omega)]; rfl
  · obtain ⟨k, rfl⟩ : ∃ m, k = m + 2 := ⟨k - 2, by omega⟩
    rw [hogsheadlaw0_GreatNodes.l0, if_pos (by omega), hogsheadlaw0_GreatNodes.j1, if_neg (by rw [decide_eq_false (by omega)]; simp), decide_eq_true (by omega), decide_eq_true (show m < t.length by omega)]; rfl
theorem great_not {t : List Nd} {m : Nat} (h : ¬ great t m = true) : t.length ≤ m ∧ ∀ x ∈ t, (L x.f0).length ≤ 300 ∧ (L x.f2).length ≤ 500 := by
  unfold great at h
  rw [Bool.or_eq_true, not_or, decide_eq_true_iff] at h
  refine ⟨by omega, fun x hx => ?_⟩
  have := h.2
  rw [Bool.not_eq_true, List.any_eq_false] at this
  have := this x hx
  rw [Bool.or_eq_true, not_or, decide_eq_true_iff, decide_eq_true_iff] at this
  omega
/-- Are two lists the same? -/
def eqN (a b : Nd) : Bool := decide (L a.f0 = L b.f0) && (decide (a.f1 = b.f1) && decide (L a.f2 = L b.f2))
theorem eqN_iff (a b : Nd) : eqN a b = true ↔ a = b := by
  unfold eqN
  rw [Bool.and_eq_true, Bool.and_eq_true, decide_eq_true_iff, decide_eq_true_iff, decide_eq_true_iff]
  exact ⟨fun h => Nd_ext (L_inj h.1) h.2.1 (L_inj h.2.2), fun h => by rw [h]; exact ⟨rfl, rfl, rfl⟩⟩
def sameN : List Nd → List Nd → Bool
  | [], [] => true
  | x :: a, y :: b => eqN x y && sameN a b
  | _, _ => false
theorem sameN_iff : ∀ (a b : List Nd), sameN a b = true ↔ a = b
  | [], [] => by simp [sameN]
  | [], y :: b => by simp [sameN]
  | x :: a, [] => by simp [sameN]
  | x :: a, y :: b => by rw [sameN, Bool.and_eq_true, eqN_iff, sameN_iff a b]; simp
theorem sameN_self (a : List Nd) : sameN a a = true := (sameN_iff a a).2 rfl
theorem sameN_l0 (a b : List Nd) (hab : a.length = b.length) (ha : a.length ≤ 1000000) : ∀ (f j k : Nat), j + f = a.length → f < k → hogsheadlaw0_SameNodes.l0 k a b (j : Int) = some (sameN (a.drop j) (b.drop j)) := by
  intro f
  induction f with
  | zero =>
    intro j k hj hk
    obtain ⟨k, rfl⟩ : ∃ m, k = m + 1 := ⟨k - 1, by omega⟩
    rw [hogsheadlaw0_SameNodes.l0, if_neg (by omega), List.drop_of_length_le (by omega), List.drop_of_length_le (by omega)]; rfl
  | succ f ih =>
    intro j k hj hk
    obtain ⟨k, rfl⟩ : ∃ m, k = m + 1 := ⟨k - 1, by omega⟩
    rw [hogsheadlaw0_SameNodes.l0, if_pos (by omega), if_pos (by omega), if_pos (by omega), rdN, rdN, w_one j (by omega), List.drop_eq_getElem_cons (show j < a.length by omega), List.drop_eq_getElem_cons (show j < b.length by omega), sameN, ← at_lt a j (by omega), ← at_lt b j (by omega), ih (j + 1) k (by omega) (by omega), toL, toL, toL, toL]
    have he : (!(L (at_ a j).f0 == L (at_ b j).f0) || (!((at_ a j).f1 == (at_ b j).f1) || !(L (at_ a j).f2 == L (at_ b j).f2))) = !eqN (at_ a j) (at_ b j) := by
      unfold eqN
      rw [beqD, beqD, beqD, Bool.not_and, Bool.not_and]
    rw [he]
    cases eqN (at_ a j) (at_ b j) <;> rfl
theorem sameN_f (a b : List Nd) (ha : a.length ≤ 1000000) (k : Nat) (hk : a.length < k) : hogsheadlaw0_SameNodes.f k a b = some (sameN a b) := by
  unfold hogsheadlaw0_SameNodes.f
  by_cases h : (a.length : Int) = (b.length : Int)
  · rw [if_pos h, show (0 : Int) = ((0 : Nat) : Int) from rfl, sameN_l0 a b (by omega) ha a.length 0 k (by omega) hk]; rfl
  · rw [if_neg h]
    refine congrArg some (Eq.symm ?_)
    cases hs : sameN a b
    · rfl
    · exact absurd (by rw [(sameN_iff a b).1 hs]) h
end Go.Proofs.YtiamdmlbhmgnjaaDoor.TreeTh
/- A tree's paths: each one behind the one ahead of it; where a path stands. -/
namespace Go.Proofs.YtiamdmlbhmgnjaaDoor.TreeUp
open Go.RowKit Go.Proofs.YtiamdmlbhmgnjaaDoorX Go.Proofs.YtiamdmlbhmgnjaaDoorW.PrintWords Go.Proofs.YtiamdmlbhmgnjaaDoorW.PrintLast Go.Proofs.YtiamdmlbhmgnjaaDoorW.PrintMore Go.Proofs.YtiamdmlbhmgnjaaDoor.P Go.Proofs.YtiamdmlbhmgnjaaDoor.Pa Go.Proofs.YtiamdmlbhmgnjaaDoor.PaTh Go.Proofs.YtiamdmlbhmgnjaaDoor.TreeTh
set_option linter.unusedVariables false
set_option linter.unusedSimpArgs false
/-- Strictly in order. -/
def up (t : List Nd) : Prop := ∀ i j, i < j → j < t.length → Op.bytesLess (L (at_ t i).f0) (L (at_ t j).f0) = true
theorem less_not {a b : List UInt8} (h : Op.bytesLess a b = true) : Op.bytesLess b a = false := by
  have := less_tri a b
  rw [h] at this
  rw [← this]
  rfl
theorem less_irr (a : List UInt8) : Op.bytesLess a a = false := by
  rw [← less_tri a a]; simp
theorem less_trans : ∀ {a b c : List UInt8}, Op.bytesLess a b = true → Op.bytesLess b c = true → Op.bytesLess a c = true := by
  intro a
  induction a with
  | nil =>
    intro b c h1 h2
    cases b with
    | nil => simp [Op.bytesLess] at h1
    | cons y b => cases c with
      | nil => simp [Op.bytesLess] at h2
      | cons z c => rfl
  | cons x a ih =>
    intro b c h1 h2
    cases b with
    | nil => simp [Op.bytesLess] at h1
    | cons y b =>
      cases c with
      | nil => simp [Op.bytesLess] at h2
      | cons z c =>
        simp only [Op.bytesLess, Bool.or_eq_true, Bool.and_eq_true, decide_eq_true_iff, beq_iff_eq, UInt8.lt_iff_toNat_lt] at h1 h2 ⊢
        rcases h1 with h1 | ⟨rfl, h1⟩
        · rcases h2 with h2 | ⟨rfl, h2⟩
          · exact .inl (by omega)
          · exact .inl h1
        · rcases h2 with h2 | ⟨rfl, h2⟩
          · exact .inl h2
          · exact .inr ⟨rfl, ih h1 h2⟩
theorem at_take (t : List Nd) (i j : Nat) (h : i < j) : at_ (t.take j) i = at_ t i := by
  unfold at_; rw [List.getD_eq_getElem?_getD, List.getD_eq_getElem?_getD, List.getElem?_take_of_lt h]
/-- What each node behind the first is. -/
theorem ok_fol {t : List Nd} {i : Nat} (h : okAt t i = true) (hi : 1 ≤ i) (hl : i < t.length) : i < 400 ∧ goodN (at_ t i) = true ∧ L (at_ t i).f0 ≠ [] ∧ may (L (at_ t i).f0) = true ∧ Op.bytesLess (L (at_ t (i - 1)).f0) (L (at_ t i).f0) = true ∧ dirOf (t.take i) (mkB (dir (L (at_ t i).f0))) = true := by
  unfold okAt at h
  rw [Bool.and_eq_true, Bool.and_eq_true, decide_eq_true_iff] at h
  obtain ⟨h1, h2, h3⟩ := h
  unfold fol at h3
  have hlen : (t.take i).length = i := by rw [List.length_take]; omega
  rw [hlen, if_neg (by omega), at_take t (i - 1) i (by omega), Bool.and_eq_true, Bool.and_eq_true, Bool.and_eq_true, decide_eq_true_iff] at h3
  exact ⟨h1, h2, h3.1.1, h3.1.2, h3.2.1, h3.2.2⟩
theorem up_may {t : List Nd} (h : mayT t = true) : up t := by
  obtain ⟨h0, h1⟩ := (mayT_iff t).1 h
  have hs : ∀ i d, i + d + 1 < t.length → Op.bytesLess (L (at_ t i).f0) (L (at_ t (i + d + 1)).f0) = true := by
    intro i d
    induction d with
    | zero =>
      intro hi
      exact (ok_fol (h1 (i + 0 + 1) hi) (by omega) hi).2.2.2.2.1
    | succ d ih =>
      intro hi
      exact less_trans (ih (by omega)) (ok_fol (h1 (i + (d + 1) + 1) hi) (by omega) hi).2.2.2.2.1
  intro i j hij hj
  obtain ⟨d, rfl⟩ : ∃ d, j = i + d + 1 := ⟨j - i - 1, by omega⟩
  exact hs i d hj
/-- No two nodes of a tree have one path. -/
theorem up_inj {t : List Nd} (hu : up t) {i j : Nat} (hi : i < t.length) (hj : j < t.length) (h : L (at_ t i).f0 = L (at_ t j).f0) : i = j := by
  rcases Nat.lt_trichotomy i j with e | e | e
  · have := hu i j e hj; rw [h, less_irr] at this; cases this
  · exact e
  · have := hu j i e hi; rw [h, less_irr] at this; cases this
theorem less_pre : ∀ (p a b : List UInt8), Op.bytesLess (p ++ a) (p ++ b) = Op.bytesLess a b
  | [], a, b => rfl
  | x :: p, a, b => by
    rw [List.cons_append, List.cons_append, Op.bytesLess, less_pre p a b]
    have : ¬ x < x := by simp only [UInt8.lt_iff_toNat_lt]; omega
    simp [this]
end Go.Proofs.YtiamdmlbhmgnjaaDoor.TreeUp
/- What makes a list of nodes a tree, said of its members. -/
namespace Go.Proofs.YtiamdmlbhmgnjaaDoor.TreeChar
open Go.RowKit Go.Proofs.YtiamdmlbhmgnjaaDoorX Go.Proofs.YtiamdmlbhmgnjaaDoorW.PrintWords Go.Proofs.YtiamdmlbhmgnjaaDoorW.PrintLast Go.Proofs.YtiamdmlbhmgnjaaDoorW.PrintMore Go.Proofs.YtiamdmlbhmgnjaaDoor.P Go.Proofs.YtiamdmlbhmgnjaaDoor.Pa Go.Proofs.YtiamdmlbhmgnjaaDoor.PaTh Go.Proofs.YtiamdmlbhmgnjaaDoor.TreeTh Go.Proofs.YtiamdmlbhmgnjaaDoor.TreeUp Go.Proofs.YtiamdmlbhmgnjaaDoor.PartsTh
set_option linter.unusedVariables false
set_option linter.unusedSimpArgs false
/-- Is there a directory at a path, among nodes? (Any of them.) -/
def dirAny (l : List Nd) (p : List UInt8) : Bool := l.any (fun n => decide (L n.f0 = p) && decide (n.f1 = 1))
theorem dirAny_iff (l : List Nd) (p : List UInt8) : dirAny l p = true ↔ ∃ n ∈ l, L n.f0 = p ∧ n.f1 = 1 := by
  unfold dirAny
  rw [List.any_eq_true]
  constructor
  · rintro ⟨x, hx, h⟩
    rw [Bool.and_eq_true, decide_eq_true_iff, decide_eq_true_iff] at h
    exact ⟨x, hx, h⟩
  · rintro ⟨x, hx, h1, h2⟩
    exact ⟨x, hx, by rw [decide_eq_true h1, decide_eq_true h2]; rfl⟩
theorem dirAny_of {l : List Nd} (hu : up l) (p : ByteArray) : dirAny l (L p) = dirOf l p := by
  unfold dirAny dirOf
  cases hf : l.reverse.find? (fun n => n.f0.data.toList == p.data.toList) with
  | none =>
    rw [List.find?_eq_none] at hf
    rw [Bool.eq_false_iff]
    intro h
    obtain ⟨x, hx, h2⟩ := List.any_eq_true.1 h
    rw [Bool.and_eq_true, decide_eq_true_iff] at h2
    exact hf x (by simpa using hx) (beq_iff_eq.2 h2.1)
  | some n =>
    have hp := List.find?_some hf
    have hm : n ∈ l := by simpa using List.mem_of_find?_eq_some hf
    replace hp : L n.f0 = L p := beq_iff_eq.1 hp
    show _ = (n.f1 == 1)
    rw [Bool.eq_iff_iff, beq_iff_eq, List.any_eq_true]
    constructor
    · rintro ⟨x, hx, h2⟩
      rw [Bool.and_eq_true, decide_eq_true_iff, decide_eq_true_iff] at h2
      obtain ⟨i, hi, rfl⟩ := List.getElem_of_mem hx
      obtain ⟨j, hj, rfl⟩ := List.getElem_of_mem hm
      have e := up_inj hu hi hj (by rw [at_lt l i hi, at_lt l j hj, h2.1, hp])
      subst e
      exact h2.2
    · intro h
      exact ⟨n, hm, by rw [decide_eq_true hp, decide_eq_true h]; rfl⟩
theorem up_ok {t : List Nd} {j : Nat} (hj : j ≤ t.length) (h : ∀ i, i < j → okAt t i = true) : up (t.take j) := by
  have hs : ∀ i d, i + d + 1 < j → Op.bytesLess (L (at_ t i).f0) (L (at_ t (i + d + 1)).f0) = true := by
    intro i d
    induction d with
    | zero =>
      intro hi
      exact (ok_fol (h (i + 0 + 1) hi) (by omega) (by omega)).2.2.2.2.1
    | succ d ih =>
      intro hi
      exact less_trans (ih (by omega)) (ok_fol (h (i + (d + 1) + 1) hi) (by omega) (by omega)).2.2.2.2.1
  intro i m him hm
  rw [List.length_take] at hm
  obtain ⟨d, rfl⟩ : ∃ d, m = i + d + 1 := ⟨m - i - 1, by omega⟩
  rw [at_take t i j (by omega), at_take t (i + d + 1) j (by omega)]
  exact hs i d (by omega)
def lt (a b : Nd) : Prop := Op.bytesLess (L a.f0) (L b.f0) = true
theorem up_pw (t : List Nd) : up t ↔ t.Pairwise lt := by
  rw [List.pairwise_iff_getElem]
  constructor
  · intro h i j hi hj hij
    have := h i j hij hj
    rw [at_lt t i hi, at_lt t j hj] at this
    exact this
  · intro h i j hij hj
    have hi : i < t.length := by omega
    rw [at_lt t i hi, at_lt t j hj]
    exact h i j hi hj hij
theorem up_take {t : List Nd} (h : up t) (n : Nat) : up (t.take n) := (up_pw _).2 (((up_pw t).1 h).sublist (List.take_sublist _ _))
theorem at_mem {t : List Nd} {i : Nat} (h : i < t.length) : at_ t i ∈ t := by rw [at_lt t i h]; exact List.getElem_mem h
theorem mem_at {t : List Nd} {x : Nd} (h : x ∈ t) : ∃ i, i < t.length ∧ at_ t i = x := by
  obtain ⟨i, hi, rfl⟩ := List.getElem_of_mem h
  exact ⟨i, hi, at_lt t i hi⟩
theorem nil_less {b : List UInt8} (h : b ≠ []) : Op.bytesLess [] b = true := by cases b with
  | nil => exact absurd rfl h
  | cons x b => rfl
theorem less_nil (b : List UInt8) : Op.bytesLess b [] = false := by cases b <;> rfl
theorem up_mem_inj {t : List Nd} (hu : up t) {x y : Nd} (hx : x ∈ t) (hy : y ∈ t) (h : L x.f0 = L y.f0) : x = y := by
  obtain ⟨i, hi, rfl⟩ := mem_at hx
  obtain ⟨j, hj, rfl⟩ := mem_at hy
  rw [up_inj hu hi hj h]
theorem root_first {t : List Nd} (hu : up t) {x : Nd} (hx : x ∈ t) (h : L x.f0 = []) : L (at_ t 0).f0 = [] := by
  obtain ⟨i, hi, rfl⟩ := mem_at hx
  rcases Nat.eq_zero_or_pos i with rfl | h0
  · exact h
  · have := hu 0 i h0 hi
    rw [h, less_nil] at this
    cases this
/-- A tree: no more than there may be, each good, in order, the root first, each one's parent a directory among them. -/
theorem mayT_char (t : List Nd) : mayT t = true ↔ t ≠ [] ∧ t.length ≤ 400 ∧ (∀ n ∈ t, goodN n = true) ∧ up t ∧ (∃ x ∈ t, L x.f0 = []) ∧ ∀ n ∈ t, L n.f0 ≠ [] → ∃ m ∈ t, L m.f0 = dir (L n.f0) ∧ m.f1 = 1 := by
  constructor
  · intro h
    obtain ⟨h0, h1⟩ := (mayT_iff t).1 h
    obtain ⟨g0, g1, g2⟩ := mayT_good h
    have hu := up_may h
    have hr : L (at_ t 0).f0 = [] := by
      have := h1 0 (by omega)
      unfold okAt at this
      rw [Bool.and_eq_true, Bool.and_eq_true] at this
      have h2 := this.2.2
      unfold fol at h2
      rw [if_pos (by simp), decide_eq_true_iff] at h2
      exact h2
    refine ⟨g0, g1, g2, hu, ⟨_, at_mem (by omega), hr⟩, fun n hn hne => ?_⟩
    obtain ⟨i, hi, rfl⟩ := mem_at hn
    have hi0 : 1 ≤ i := by
      rcases Nat.eq_zero_or_pos i with rfl | h'
      · exact absurd hr hne
      · exact h'
    have hd := (ok_fol (h1 i hi) hi0 hi).2.2.2.2.2
    rw [← dirAny_of (up_take hu i) (mkB (dir (L (at_ t i).f0))), L_mkB, dirAny_iff] at hd
    obtain ⟨m, hm, h2⟩ := hd
    exact ⟨m, List.mem_of_mem_take hm, h2⟩
  · rintro ⟨h0, h1, h2, hu, ⟨x, hx, hxr⟩, h3⟩
    refine (mayT_iff t).2 ⟨fun e => h0 (List.eq_nil_of_length_eq_zero e), fun i hi => ?_⟩
    have hr := root_first hu hx hxr
    have hg := h2 _ (at_mem hi)
    unfold okAt
    rw [decide_eq_true (show i < 400 by omega), hg, Bool.true_and, Bool.true_and]
    unfold fol
    rw [List.length_take, Nat.min_eq_left (by omega)]
    rcases Nat.eq_zero_or_pos i with rfl | hi0
    · rw [if_pos rfl, decide_eq_true hr]
    · rw [if_neg (by omega)]
      have hne : L (at_ t i).f0 ≠ [] := fun e => by
        have := hu 0 i hi0 hi
        rw [hr, e] at this
        cases this
      have hmay : may (L (at_ t i).f0) = true := by
        unfold goodN good at hg
        rw [Bool.and_eq_true] at hg
        exact hg.1
      rw [decide_eq_true hne, hmay, at_take t (i - 1) i (by omega), hu (i - 1) i (by omega) hi, ← dirAny_of (up_take hu i) (mkB (dir (L (at_ t i).f0))), L_mkB, Bool.true_and, Bool.true_and, Bool.true_and, dirAny_iff]
      obtain ⟨m, hm, e1, e2⟩ := h3 _ (at_mem hi) hne
      obtain ⟨j, hj, rfl⟩ := mem_at hm
      have hds := dir_spec hmay hne
      have hpre : dir (L (at_ t i).f0) <+: L (at_ t i).f0 := by
        rcases hds.2.2.2.1 with e | e
        · rw [e]; exact List.nil_prefix
        · exact (List.prefix_append _ [47]).trans e
      have hji : j < i := by
        rcases Nat.lt_trichotomy j i with h | h | h
        · exact h
        · subst h
          have := hds.2.2.1
          rw [← e1] at this
          omega
        · have h4 := hu i j h hj
          rw [e1, less_prefix _ _ hpre] at h4
          cases h4
      refine ⟨at_ t j, ?_, e1, e2⟩
      rw [← at_take t j i hji]
      exact at_mem (by rw [List.length_take]; omega)
theorem good_may {n : Nd} (h : goodN n = true) : may (L n.f0) = true := by
  unfold goodN good at h
  rw [Bool.and_eq_true] at h
  exact h.1
end Go.Proofs.YtiamdmlbhmgnjaaDoor.TreeChar
