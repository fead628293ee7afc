/- What stands in a tree at a path, and what is listed there: the printed functions as plain ones. -/
import Derived.Test.YtipnajhimjenbaaDoorTreeUp
namespace Go.Proofs.YtipnajhimjenbaaDoor.FindTh
open Go.RowKit Go.Proofs.YtipnajhimjenbaaDoorX Go.Proofs.YtipnajhimjenbaaDoorW.PrintWords Go.Proofs.YtipnajhimjenbaaDoorW.PrintLast Go.Proofs.YtipnajhimjenbaaDoorW.PrintMore Go.Proofs.YtipnajhimjenbaaDoor.P Go.Proofs.YtipnajhimjenbaaDoor.Pa Go.Proofs.YtipnajhimjenbaaDoor.PaTh Go.Proofs.YtipnajhimjenbaaDoor.TreeTh Go.Proofs.YtipnajhimjenbaaDoor.TreeUp
set_option linter.unusedVariables false
set_option linter.unusedSimpArgs false
def isAt (p : List UInt8) (n : Nd) : Bool := decide (L n.f0 = p)
theorem idx_none (q : Nd → Bool) : ∀ (l : List Nd) (i : Nat), (∀ x ∈ l, q x = false) → idxN q l i = -1
  | [], _, _ => rfl
  | x :: l, i, h => by rw [idxN, if_neg (by rw [h x (List.mem_cons_self ..)]; simp)]; exact idx_none q l (i + 1) (fun y hy => h y (List.mem_cons_of_mem _ hy))
theorem idx_some (q : Nd → Bool) : ∀ (l : List Nd) (i j : Nat), j < l.length → q (at_ l j) = true → (∀ m, m < j → q (at_ l m) = false) → idxN q l i = ((i + j : Nat) : Int)
  | [], _, j, h, _, _ => absurd h (by simp)
  | x :: l, i, 0, _, h, _ => by
    have : q x = true := h
    rw [idxN, if_pos this]; rfl
  | x :: l, i, j + 1, hj, h, hm => by
    have h0 : q x = false := hm 0 (by omega)
    rw [idxN, if_neg (by rw [h0]; simp), idx_some q l (i + 1) j (by simpa using hj) h (fun m h' => hm (m + 1) (by omega))]
    omega
section
variable {t : List Nd} (hm : mayT t = true) (hl : t.length ≤ 1000)
include hm hl
theorem at_f (p : ByteArray) (k : Nat) (hk : 1100 ≤ k) : find_at.f k t p = some (idxN (isAt (L p)) t 0) := by
  unfold find_at.f
  rw [mayT_f t (by omega) k hk, some_bind, if_pos hm]
  refine congrArg (fun q => some (idxN q t 0)) (funext fun n => ?_)
  show (n.f0.toList == p.toList) = _
  rw [toL, toL, beqD]
  rfl
theorem look_here {j : Nat} (hj : j < t.length) (p : ByteArray) (hp : L p = L (at_ t j).f0) (k : Nat) (hk : 1100 ≤ k) : find_Lookup.f k t p = some ((at_ t j).f0, (at_ t j).f1, (at_ t j).f2, true) := by
  have hu := up_may hm
  have hi : idxN (isAt (L p)) t 0 = (j : Int) := by
    rw [idx_some _ t 0 j hj (by unfold isAt; rw [decide_eq_true hp.symm]) (fun m h => by
      unfold isAt
      refine decide_eq_false fun e => ?_
      have := up_inj hu (by omega) hj (e.trans hp)
      omega)]
    omega
  unfold find_Lookup.f
  rw [at_f hm hl p k hk, some_bind, hi, if_neg (by omega), if_pos (by omega), if_pos (by omega), rdN]
end
/-- Is a node right below a place? -/
def child (p : List UInt8) (n : Nd) : Bool := decide (L n.f0 ≠ []) && (may (L n.f0) && decide (dir (L n.f0) = p))
theorem child_f (p : ByteArray) (n : Nd) (k : Nat) (hk : 1100 ≤ k) : find_place_child.f k p n.f0 n.f1 n.f2 = some (child (L p) n) := by
  unfold find_place_child.f child
  rw [parent_f n.f0 k hk, some_bind]
  by_cases h : L n.f0 = []
  · rw [if_pos h, if_neg (by simp), decide_eq_false (by simp [h])]; rfl
  rw [if_neg h, decide_eq_true h]
  cases hm : may (L n.f0)
  · rw [if_neg (by simp)]; rfl
  · rw [if_pos rfl, if_pos rfl, toL, toL, L_mkB, beqD]; rfl
theorem filter_l0 (pf : Nat → ByteArray → Int → ByteArray → Option Bool) (q : Nd → Bool) (K : Nat) (hq : ∀ k n, K ≤ k → pf k n.f0 n.f1 n.f2 = some (q n)) (t : List Nd) (ht : t.length ≤ 1000) :
    ∀ (f j k : Nat) (out : List Nd), j + f = t.length → K + f < k → out.length ≤ j → tree_FilterG.l0 pf k out t (t.length : Int) (j : Int) = some (out ++ (t.drop j).filter q) := by
  intro f
  induction f with
  | zero =>
    intro j k out hj hk ho
    obtain ⟨k, rfl⟩ : ∃ m, k = m + 1 := ⟨k - 1, by omega⟩
    rw [tree_FilterG.l0, if_neg (by omega), List.drop_of_length_le (by omega), List.filter_nil, List.append_nil]
  | succ f ih =>
    intro j k out hj hk ho
    obtain ⟨k, rfl⟩ : ∃ m, k = m + 1 := ⟨k - 1, by omega⟩
    rw [tree_FilterG.l0, if_pos (by omega), if_pos (by omega), if_pos (by omega), rdN, hq k _ (by omega), some_bind, w_one j (by omega), List.drop_eq_getElem_cons (show j < t.length by omega), ← at_lt t j (by omega), List.filter_cons]
    cases q (at_ t j)
    · rw [if_neg (by simp), if_neg (by simp), ih (j + 1) k out (by omega) (by omega) (by omega)]
    · rw [if_pos rfl, if_pos rfl, if_pos (by omega), Nd_eta, ih (j + 1) k _ (by omega) (by omega) (by simp; omega), List.append_assoc]
      rfl
theorem filter_f (pf : Nat → ByteArray → Int → ByteArray → Option Bool) (q : Nd → Bool) (K : Nat) (hq : ∀ k n, K ≤ k → pf k n.f0 n.f1 n.f2 = some (q n)) (t : List Nd) (ht : t.length ≤ 1000) (k : Nat) (hk : K + 1001 ≤ k) : tree_FilterG.f pf k t = some (t.filter q) := by
  unfold tree_FilterG.f
  have := filter_l0 pf q K hq t ht t.length 0 k [] (by omega) (by omega) (by simp)
  rw [List.drop_zero, List.nil_append] at this
  exact this
theorem fchild_f (t : List Nd) (ht : t.length ≤ 1000) (p : ByteArray) (k : Nat) (hk : 2200 ≤ k) : find_FilterChild.f k t p = some (t.filter (child (L p))) := by
  unfold find_FilterChild.f
  exact filter_f _ _ 1100 (fun k n h => child_f p n k h) t ht k (by omega)
theorem list_l0 (c : List Nd) (hc : c.length ≤ 1000) (hm : ∀ n ∈ c, may (L n.f0) = true) : ∀ (f j k : Nat) (out : List ByteArray), j + f = c.length → 1100 + f < k → out.length ≤ j →
    find_List.l0 k out c (c.length : Int) (j : Int) = some (out ++ (c.drop j).map (fun n => mkB (base (L n.f0))), true) := by
  intro f
  induction f with
  | zero =>
    intro j k out hj hk ho
    obtain ⟨k, rfl⟩ : ∃ m, k = m + 1 := ⟨k - 1, by omega⟩
    rw [find_List.l0, if_neg (by omega), List.drop_of_length_le (by omega), List.map_nil, List.append_nil]
  | succ f ih =>
    intro j k out hj hk ho
    obtain ⟨k, rfl⟩ : ∃ m, k = m + 1 := ⟨k - 1, by omega⟩
    rw [find_List.l0, if_pos (by omega), if_pos (by omega), if_pos (by omega), rdN, base_f _ k (by omega), some_bind, if_pos (by omega), w_one j (by omega), List.drop_eq_getElem_cons (show j < c.length by omega), List.map_cons, ← at_lt c j (by omega),
      if_pos (hm _ (by rw [at_lt c j (by omega)]; exact List.getElem_mem _)), ih (j + 1) k _ (by omega) (by omega) (by simp; omega), List.append_assoc]
    rfl
/-- The names in a directory. -/
def names (p : List UInt8) (t : List Nd) : List ByteArray := (t.filter (child p)).map (fun n => mkB (base (L n.f0)))
theorem list_here {t : List Nd} (hm : mayT t = true) (hl : t.length ≤ 1000) {j : Nat} (hj : j < t.length) (p : ByteArray) (hp : L p = L (at_ t j).f0) (k : Nat) (hk : 4000 ≤ k) : find_List.f k t p = some (if (at_ t j).f1 = 1 then (names (L p) t, true) else ([], false)) := by
  obtain ⟨k, rfl⟩ : ∃ m, k = m + 1 := ⟨k - 1, by omega⟩
  unfold find_List.f
  rw [look_here hm hl hj p hp (k + 1) (by omega), some_bind, if_pos rfl]
  show find_List.j0 (k + 1) t p ((at_ t j).f1 != 1) = _
  rw [find_List.j0]
  by_cases h : (at_ t j).f1 = 1
  · have hc : (t.filter (child (L p))).length ≤ 1000 := Nat.le_trans (List.length_filter_le _ _) hl
    have := list_l0 (t.filter (child (L p))) hc (fun n hn => by
      have h' := (List.mem_filter.1 hn).2
      unfold child at h'
      rw [Bool.and_eq_true, Bool.and_eq_true] at h'
      exact h'.2.1) (t.filter (child (L p))).length 0 k [] (by omega) (by omega) (by simp)
    rw [show ((0 : Nat) : Int) = 0 from rfl] at this
    rw [if_pos h, if_neg (by rw [h]; simp), fchild_f t hl p k (by omega), some_bind, this]
    rfl
  · rw [if_neg h, if_pos (by simpa using h)]
end Go.Proofs.YtipnajhimjenbaaDoor.FindTh
