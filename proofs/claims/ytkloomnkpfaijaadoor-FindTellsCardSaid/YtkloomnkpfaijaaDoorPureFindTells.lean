/- What stands in a tree at a path, and what is listed there: the printed functions as plain ones. -/
import Derived.Test.YtkloomnkpfaijaaDoorRefTree
import Derived.Test.YtkloomnkpfaijaaDoorPaRef
namespace Go.Proofs.YtkloomnkpfaijaaDoor.FindTh
open Go.RowKit Go.Proofs.YtkloomnkpfaijaaDoorX Go.Proofs.YtkloomnkpfaijaaDoorW.PrintWords Go.Proofs.YtkloomnkpfaijaaDoorW.PrintLast Go.Proofs.YtkloomnkpfaijaaDoorW.PrintMore Go.Proofs.YtkloomnkpfaijaaDoor.P Go.Proofs.YtkloomnkpfaijaaDoor.Pa Go.Proofs.YtkloomnkpfaijaaDoor.PaTh Go.Proofs.YtkloomnkpfaijaaDoor.TreeTh Go.Proofs.YtkloomnkpfaijaaDoor.TreeUp
set_option linter.unusedVariables false
set_option linter.unusedSimpArgs false
def isAt (p : List UInt8) (n : Nd) : Bool := decide (L n.f0 = p)
theorem idx_none (q : Nd → Bool) : ∀ (l : List Nd) (i : Nat), (∀ x ∈ l, q x = false) → idxN q l i = -1
  | [], _, _ => rfl
  | x :: l, i, h => by rw [idxN, if_neg (by rw [h x (List.mem_cons_self ..)]; simp)]; exact idx_none q l (i + 1) (fun y hy => h y (List.mem_cons_of_mem _ hy))
theorem idx_some (q : Nd → Bool) : ∀ (l : List Nd) (i j : Nat), j < l.length → q (at_ l j) = true → (∀ m, m < j → q (at_ l m) = false) → idxN q l i = ((i + j : Nat) : Int)
  | [], _, j, h, _, _ => absurd h (by simp)
  | x :: l, i, 0, _, h, _ => by
    have : q x = true := h
    rw [idxN, if_pos this]; rfl
  | x :: l, i, j + 1, hj, h, hm => by
    have h0 : q x = false := hm 0 (by omega)
    rw [idxN, if_neg (by rw [h0]; simp), idx_some q l (i + 1) j (by simpa using hj) h (fun m h' => hm (m + 1) (by omega))]
    omega
section
variable {t : List Nd} (hm : mayT t = true) (hl : t.length ≤ 1000)
include hm hl
theorem at_f (p : ByteArray) (k : Nat) (hk : 1100 ≤ k) : find_at.f k t p = some (idxN (isAt (L p)) t 0) := by
  unfold find_at.f
  rw [mayT_f t (by omega) k hk, some_bind, if_pos hm]
  refine congrArg (fun q => some (idxN q t 0)) (funext fun n => ?_)
  show (n.f0.toList == p.toList) = _
  rw [toL, toL, beqD]
  rfl
theorem look_here {j : Nat} (hj : j < t.length) (p : ByteArray) (hp : L p = L (at_ t j).f0) (k : Nat) (hk : 1100 ≤ k) : find_Lookup.f k t p = some ((at_ t j).f0, (at_ t j).f1, (at_ t j).f2, true) := by
  have hu := up_may hm
  have hi : idxN (isAt (L p)) t 0 = (j : Int) := by
    rw [idx_some _ t 0 j hj (by unfold isAt; rw [decide_eq_true hp.symm]) (fun m h => by
      unfold isAt
      refine decide_eq_false fun e => ?_
      have := up_inj hu (by omega) hj (e.trans hp)
      omega)]
    omega
  unfold find_Lookup.f
  rw [at_f hm hl p k hk, some_bind, hi, if_neg (by omega), if_pos (by omega), if_pos (by omega), rdN]
end
/-- Is a node right below a place? -/
def child (p : List UInt8) (n : Nd) : Bool := decide (L n.f0 ≠ []) && (may (L n.f0) && decide (dir (L n.f0) = p))
theorem child_f (p : ByteArray) (n : Nd) (k : Nat) (hk : 1100 ≤ k) : find_place_child.f k p n.f0 n.f1 n.f2 = some (child (L p) n) := by
  unfold find_place_child.f child
  rw [parent_f n.f0 k hk, some_bind]
  by_cases h : L n.f0 = []
  · rw [if_pos h, if_neg (by simp), decide_eq_false (by simp [h])]; rfl
  rw [if_neg h, decide_eq_true h]
  cases hm : may (L n.f0)
  · rw [if_neg (by simp)]; rfl
  · rw [if_pos rfl, if_pos rfl, toL, toL, L_mkB, beqD]; rfl
theorem filter_l0 (pf : Nat → ByteArray → Int → ByteArray → Option Bool) (q : Nd → Bool) (K : Nat) (hq : ∀ k n, K ≤ k → pf k n.f0 n.f1 n.f2 = some (q n)) (t : List Nd) (ht : t.length ≤ 1000) :
    ∀ (f j k : Nat) (out : List Nd), j + f = t.length → K + f < k → out.length ≤ j → tree_FilterG.l0 pf k out t (t.length : Int) (j : Int) = some (out ++ (t.drop j).filter q) := by
  intro f
  induction f with
  | zero =>
    intro j k out hj hk ho
    obtain ⟨k, rfl⟩ : ∃ m, k = m + 1 := ⟨k - 1, by omega⟩
    rw [tree_FilterG.l0, if_neg (by omega), List.drop_of_length_le (by omega), List.filter_nil, List.append_nil]
  | succ f ih =>
    intro j k out hj hk ho
    obtain ⟨k, rfl⟩ : ∃ m, k = m + 1 := ⟨k - 1, by omega⟩
    rw [tree_FilterG.l0, if_pos (by omega), if_pos (by omega), if_pos (by omega), rdN, hq k _ (by omega), some_bind, w_one j (by omega), List.drop_eq_getElem_cons (show j < t.length by omega), ← at_lt t j (by omega), List.filter_cons]
    cases q (at_ t j)
    · rw [if_neg (by simp), if_neg (by simp), ih (j + 1) k out (by omega) (by omega) (by omega)]
    · rw [if_pos rfl, if_pos rfl, if_pos (by omega), Nd_eta, ih (j + 1) k _ (by omega) (by omega) (by simp; omega), List.append_assoc]
      rfl
theorem filter_f (pf : Nat → ByteArray → Int → ByteArray → Option Bool) (q : Nd → Bool) (K : Nat) (hq : ∀ k n, K ≤ k → pf k n.f0 n.f1 n.f2 = some (q n)) (t : List Nd) (ht : t.length ≤ 1000) (k : Nat) (hk : K + 1001 ≤ k) : tree_FilterG.f pf k t = some (t.filter q) := by
  unfold tree_FilterG.f
  have := filter_l0 pf q K hq t ht t.length 0 k [] (by omega) (by omega) (by simp)
  rw [List.drop_zero, List.nil_append] at this
  exact this
theorem fchild_f (t : List Nd) (ht : t.length ≤ 1000) (p : ByteArray) (k : Nat) (hk : 2200 ≤ k) : find_FilterChild.f k t p = some (t.filter (child (L p))) := by
  unfold find_FilterChild.f
  exact filter_f _ _ 1100 (fun k n h => child_f p n k h) t ht k (by omega)
theorem list_l0 (c : List Nd) (hc : c.length ≤ 1000) (hm : ∀ n ∈ c, may (L n.f0) = true) : ∀ (f j k : Nat) (out : List ByteArray), j + f = c.length → 1100 + f < k → out.length ≤ j →
    find_List.l0 k out c (c.length : Int) (j : Int) = some (out ++ (c.drop j).map (fun n => mkB (base (L n.f0))), true) := by
  intro f
  induction f with
  | zero =>
    intro j k out hj hk ho
    obtain ⟨k, rfl⟩ : ∃ m, k = m + 1 := ⟨k - 1, by omega⟩
    rw [find_List.l0, if_neg (by omega), List.drop_of_length_le (by omega), List.map_nil, List.append_nil]
  | succ f ih =>
    intro j k out hj hk ho
    obtain ⟨k, rfl⟩ : ∃ m, k = m + 1 := ⟨k - 1, by omega⟩
    rw [find_List.l0, if_pos (by omega), if_pos (by omega), if_pos (by omega), rdN, base_f _ k (by omega), some_bind, if_pos (by omega), w_one j (by omega), List.drop_eq_getElem_cons (show j < c.length by omega), List.map_cons, ← at_lt c j (by omega),
      if_pos (hm _ (by rw [at_lt c j (by omega)]; exact List.getElem_mem _)), ih (j + 1) k _ (by omega) (by omega) (by simp; omega), List.append_assoc]
    rfl
/-- The names in a directory. -/
def names (p : List UInt8) (t : List Nd) : List ByteArray := (t.filter (child p)).map (fun n => mkB (base (L n.f0)))
theorem list_here {t : List Nd} (hm : mayT t = true) (hl : t.length ≤ 1000) {j : Nat} (hj : j < t.length) (p : ByteArray) (hp : L p = L (at_ t j).f0) (k : Nat) (hk : 4000 ≤ k) : find_List.f k t p = some (if (at_ t j).f1 = 1 then (names (L p) t, true) else ([], false)) := by
  obtain ⟨k, rfl⟩ : ∃ m, k = m + 1 := ⟨k - 1, by omega⟩
  unfold find_List.f
  rw [look_here hm hl hj p hp (k + 1) (by omega), some_bind, if_pos rfl]
  show find_List.j0 (k + 1) t p ((at_ t j).f1 != 1) = _
  rw [find_List.j0]
  by_cases h : (at_ t j).f1 = 1
  · have hc : (t.filter (child (L p))).length ≤ 1000 := Nat.le_trans (List.length_filter_le _ _) hl
    have := list_l0 (t.filter (child (L p))) hc (fun n hn => by
      have h' := (List.mem_filter.1 hn).2
      unfold child at h'
      rw [Bool.and_eq_true, Bool.and_eq_true] at h'
      exact h'.2.1) (t.filter (child (L p))).length 0 k [] (by omega) (by omega) (by simp)
    rw [show ((0 : Nat) : Int) = 0 from rfl] at this
    rw [if_pos h, if_neg (by rw [h]; simp), fchild_f t hl p k (by omega), some_bind, this]
    rfl
  · rw [if_neg h, if_pos (by simpa using h)]
end Go.Proofs.YtkloomnkpfaijaaDoor.FindTh
/- What stands under a path of a tree: again a tree; the printed find.Sub as a plain one. -/
namespace Go.Proofs.YtkloomnkpfaijaaDoor.FindSub
open Go.RowKit Go.Proofs.YtkloomnkpfaijaaDoorX Go.Proofs.YtkloomnkpfaijaaDoorW.PrintWords Go.Proofs.YtkloomnkpfaijaaDoorW.PrintLast Go.Proofs.YtkloomnkpfaijaaDoorW.PrintMore Go.Proofs.YtkloomnkpfaijaaDoor.P Go.Proofs.YtkloomnkpfaijaaDoor.Pa Go.Proofs.YtkloomnkpfaijaaDoor.PaTh Go.Proofs.YtkloomnkpfaijaaDoor.TreeTh Go.Proofs.YtkloomnkpfaijaaDoor.TreeUp Go.Proofs.YtkloomnkpfaijaaDoor.PartsTh Go.Proofs.YtkloomnkpfaijaaDoor.TreeChar Go.Proofs.YtkloomnkpfaijaaDoor.FindTh
set_option linter.unusedVariables false
set_option linter.unusedSimpArgs false
/-- A node as it is seen from a place above it. -/
def subN (p : List UInt8) (n : Nd) : Nd := ⟨mkB (rest p (L n.f0)), n.f1, n.f2⟩
/-- What stands under a place. -/
def subT (p : List UInt8) (t : List Nd) : List Nd := (t.filter (fun n => under (L n.f0) p)).map (subN p)
theorem trim_f (a b : ByteArray) : strings_TrimPrefix.f a b = some (if L b <+: L a then mkB ((L a).drop (L b).length) else a) := by
  have h := hasPrefix_f a b
  unfold strings_HasPrefix.f at h
  obtain ⟨x, hx, h2⟩ := Option.bind_eq_some_iff.1 h
  unfold strings_TrimPrefix.f stringslite_TrimPrefix.f
  rw [hx, some_bind]
  obtain rfl := Option.some.inj h2
  by_cases hp : L b <+: L a
  · have := hp.length_le
    rw [decide_eq_true hp, if_pos rfl, if_pos (by omega), if_pos (by rw [size_L, size_L]; omega), if_pos hp, some_bind, Int.toNat_natCast]
    refine congrArg some (L_inj ?_)
    rw [L_extract, L_mkB, size_L a, List.take_length]; rfl
  · rw [decide_eq_false hp, if_neg (by simp), if_neg hp, some_bind]
theorem inner_f (p : ByteArray) (n : Nd) (hp : may (L p) = true) (hn : may (L n.f0) = true) (h : P (L p) <+: P (L n.f0)) : find_place_inner.f p n.f0 n.f1 n.f2 = some (mkB (rest (L p) (L n.f0)), n.f1, n.f2) := by
  unfold find_place_inner.f
  have hs : L (⟨#[47]⟩ : ByteArray) = [47] := rfl
  have hpre : L p <+: L n.f0 := U_pre ((U_iff hn hp).2 h)
  rw [trim_f, some_bind, if_pos hpre, trim_f, some_bind, hs, L_mkB]
  refine congrArg (fun z => some (z, n.f1, n.f2)) ?_
  have hrok : OkP ((P (L n.f0)).drop (P (L p)).length) := (P_ok hn).drop _
  by_cases hr : rest (L p) (L n.f0) = []
  · have e := rest_nil hn h hr
    rw [hr, e, List.drop_length, if_neg (by rintro ⟨s, e⟩; simp at e)]
  by_cases h0 : L p = []
  · rw [h0, rest_root, List.length_nil, List.drop_zero, if_neg]
    have := slash_not (P_ok hn)
    rw [J_P] at this
    exact this
  · have e := jn h h0 hr
    have e2 : (L n.f0).drop (L p).length = 47 :: rest (L p) (L n.f0) := by
      conv => lhs; rw [e]
      exact List.drop_left
    rw [e2, if_pos ⟨rest (L p) (L n.f0), rfl⟩]; rfl
theorem each_l0 (p : ByteArray) (hp : may (L p) = true) (t : List Nd) (ht : t.length ≤ 1000) (hn : ∀ n ∈ t, may (L n.f0) = true ∧ P (L p) <+: P (L n.f0)) :
    ∀ (f j k : Nat) (out : List Nd), j + f = t.length → f < k → out.length ≤ j → find_each.l0 k p out t (t.length : Int) (j : Int) = some (out ++ (t.drop j).map (subN (L p))) := by
  intro f
  induction f with
  | zero =>
    intro j k out hj hk ho
    obtain ⟨k, rfl⟩ : ∃ m, k = m + 1 := ⟨k - 1, by omega⟩
    rw [find_each.l0, if_neg (by omega), List.drop_of_length_le (by omega), List.map_nil, List.append_nil]
  | succ f ih =>
    intro j k out hj hk ho
    obtain ⟨k, rfl⟩ : ∃ m, k = m + 1 := ⟨k - 1, by omega⟩
    have hm := hn _ (at_mem (show j < t.length by omega))
    rw [find_each.l0, if_pos (by omega), if_pos (by omega), if_pos (by omega), rdN, inner_f p _ hp hm.1 hm.2, some_bind, if_pos (by omega), w_one j (by omega), List.drop_eq_getElem_cons (show j < t.length by omega), ← at_lt t j (by omega), List.map_cons]
    have := ih (j + 1) k (out ++ [subN (L p) (at_ t j)]) (by omega) (by omega) (by simp; omega)
    rw [List.append_assoc] at this
    exact this
theorem under_may {a b : List UInt8} (h : under a b = true) : may a = true ∧ may b = true ∧ P b <+: P a := by
  have h' := h
  unfold under at h'
  rw [Bool.and_eq_true, Bool.and_eq_true] at h'
  exact ⟨h'.1.1, h'.1.2, (under_iff h'.1.1 h'.1.2).1 h⟩
theorem each_f (p : ByteArray) (t : List Nd) (ht : t.length ≤ 1000) (hn : ∀ n ∈ t, under (L n.f0) (L p) = true) (hp : may (L p) = true) (z : Bool) (k : Nat) (hk : 1001 ≤ k) : find_each.f k t p z = some (t.map (subN (L p))) := by
  unfold find_each.f
  have := each_l0 p hp t ht (fun n h => ⟨(under_may (hn n h)).1, (under_may (hn n h)).2.2⟩) t.length 0 k [] (by omega) (by omega) (by simp)
  rw [List.drop_zero, List.nil_append] at this
  exact this
theorem funder_f (t : List Nd) (ht : t.length ≤ 1000) (p : ByteArray) (k : Nat) (hk : 2200 ≤ k) : find_FilterUnder.f k t p = some (t.filter (fun n => under (L n.f0) (L p))) := by
  unfold find_FilterUnder.f
  exact filter_f _ _ 300 (fun k n hk => by unfold find_place_under.f; rw [under_f n.f0 p k hk, some_bind]) t ht k (by omega)
theorem sub_here {t : List Nd} (hm : mayT t = true) (hl : t.length ≤ 1000) {x : Nd} (hx : x ∈ t) (p : ByteArray) (hp : L p = L x.f0) (k : Nat) (hk : 4000 ≤ k) : find_Sub.f k t p = some (subT (L p) t, true) := by
  obtain ⟨j, hj, rfl⟩ := mem_at hx
  have hmp : may (L p) = true := by rw [hp]; exact good_may (((mayT_char t).1 hm).2.2.1 _ (at_mem hj))
  unfold find_Sub.f
  rw [look_here hm hl hj p hp k (by omega), some_bind, if_pos rfl, funder_f t hl p k (by omega), some_bind, each_f p _ (Nat.le_trans (List.length_filter_le _ _) hl) (fun n hn => (List.mem_filter.1 hn).2) hmp true k (by omega), some_bind]
  rfl
section
variable {t : List Nd} (hm : mayT t = true) {x : Nd} (hx : x ∈ t)
theorem rest_less {p a b : List UInt8} (ha : may a = true) (hb : may b = true) (h1 : P p <+: P a) (h2 : P p <+: P b) (h : Op.bytesLess a b = true) : Op.bytesLess (rest p a) (rest p b) = true := by
  by_cases h0 : p = []
  · rw [h0, rest_root, rest_root]; exact h
  by_cases hra : rest p a = []
  · rw [hra]
    by_cases hrb : rest p b = []
    · rw [rest_nil ha h1 hra, rest_nil hb h2 hrb, less_irr] at h
      cases h
    · exact nil_less hrb
  by_cases hrb : rest p b = []
  · rw [rest_nil hb h2 hrb, jn h1 h0 hra] at h
    have h4 : Op.bytesLess (p ++ 47 :: rest p a) p = false := less_prefix p _ (List.prefix_append _ _)
    rw [h4] at h
    cases h
  rw [jn h1 h0 hra, jn h2 h0 hrb, less_pre] at h
  have : Op.bytesLess ([47] ++ rest p a) ([47] ++ rest p b) = true := h
  rw [less_pre] at this
  exact this
include hm hx
theorem subT_mem {n : Nd} : n ∈ subT (L x.f0) t ↔ ∃ m ∈ t, P (L x.f0) <+: P (L m.f0) ∧ subN (L x.f0) m = n := by
  have hg := ((mayT_char t).1 hm).2.2.1
  unfold subT
  rw [List.mem_map]
  constructor
  · rintro ⟨m, h1, h2⟩
    obtain ⟨h1, h3⟩ := List.mem_filter.1 h1
    exact ⟨m, h1, (under_may h3).2.2, h2⟩
  · rintro ⟨m, h1, h2, h3⟩
    exact ⟨m, List.mem_filter.2 ⟨h1, (under_iff (good_may (hg m h1)) (good_may (hg x hx))).2 h2⟩, h3⟩
theorem subT_tree : mayT (subT (L x.f0) t) = true := by
  obtain ⟨c1, c2, c3, c4, c5, c6⟩ := (mayT_char t).1 hm
  have hroot : subN (L x.f0) x ∈ subT (L x.f0) t := (subT_mem hm hx).2 ⟨x, hx, List.prefix_refl _, rfl⟩
  refine (mayT_char _).2 ⟨fun e => by rw [e] at hroot; simp at hroot, ?_, ?_, ?_, ⟨_, hroot, ?_⟩, ?_⟩
  · unfold subT
    rw [List.length_map]
    exact Nat.le_trans (List.length_filter_le _ _) c2
  · intro n hn
    obtain ⟨m, h1, h2, rfl⟩ := (subT_mem hm hx).1 hn
    have hg := c3 m h1
    unfold goodN good at hg ⊢
    rw [Bool.and_eq_true] at hg
    show (may (rest (L x.f0) (L m.f0)) && _) = true
    rw [may_rest hg.1, Bool.true_and]
    exact hg.2
  · rw [up_pw]
    unfold subT
    refine List.Pairwise.map _ (R := fun a b => lt (subN (L x.f0) a) (subN (L x.f0) b)) (fun _ _ h => h) ?_
    refine List.Pairwise.imp_of_mem (R := lt) ?_ (((up_pw t).1 c4).filter _)
    intro a b ha hb h
    have ha' := under_may (List.mem_filter.1 ha).2
    have hb' := under_may (List.mem_filter.1 hb).2
    exact rest_less ha'.1 hb'.1 ha'.2.2 hb'.2.2 h
  · exact rest_self _
  · intro n hn hne
    obtain ⟨m, h1, h2, rfl⟩ := (subT_mem hm hx).1 hn
    replace hne : rest (L x.f0) (L m.f0) ≠ [] := hne
    have hmay := good_may (c3 m h1)
    have hm0 : L m.f0 ≠ [] := fun e => hne (by rw [e]; unfold rest; rw [P_nil, List.drop_nil]; rfl)
    obtain ⟨y, hy, e1, e2⟩ := c6 m h1 hm0
    have hr : (P (L m.f0)).drop (P (L x.f0)).length ≠ [] := fun e => hne (by unfold rest; rw [e]; rfl)
    have hs := P_split h2
    have hdl : P (L y.f0) = P (L x.f0) ++ ((P (L m.f0)).drop (P (L x.f0)).length).dropLast := by
      rw [e1, P_dir hmay hm0]
      conv => lhs; rw [hs]
      exact List.dropLast_append_of_ne_nil hr
    refine ⟨subN (L x.f0) y, (subT_mem hm hx).2 ⟨y, hy, ⟨_, hdl.symm⟩, rfl⟩, ?_, e2⟩
    show rest (L x.f0) (L y.f0) = dir (rest (L x.f0) (L m.f0))
    rw [dir_P hne, P_rest hmay]
    unfold rest
    rw [hdl, List.drop_left]
end
end Go.Proofs.YtkloomnkpfaijaaDoor.FindSub
/- slices.SortStableFunc at tree.order, as the print has it: what comes is in order, and at each path the nodes are the same, in the same order. -/
namespace Go.Proofs.YtkloomnkpfaijaaDoor.SortAll
open Go.RowKit Go.Proofs.YtkloomnkpfaijaaDoorX Go.Proofs.YtkloomnkpfaijaaDoorW.PrintWords Go.Proofs.YtkloomnkpfaijaaDoorW.PrintLast Go.Proofs.YtkloomnkpfaijaaDoorW.PrintMore Go.Proofs.YtkloomnkpfaijaaDoor.P Go.Proofs.YtkloomnkpfaijaaDoor.Pa Go.Proofs.YtkloomnkpfaijaaDoor.PaTh Go.Proofs.YtkloomnkpfaijaaDoor.TreeTh Go.Proofs.YtkloomnkpfaijaaDoor.TreeUp
set_option linter.unusedVariables false
set_option linter.unusedSimpArgs false
def isAt (p : List UInt8) (n : Nd) : Bool := decide (L n.f0 = p)
/-- In order: none behind a greater one. -/
def Up (s : List Nd) : Prop := s.Pairwise (fun a b => Op.bytesLess (L b.f0) (L a.f0) = false)
/-- At each path the same nodes, in the same order. -/
def Same (s t : List Nd) : Prop := ∀ p, s.filter (isAt p) = t.filter (isAt p)
theorem Same.refl (s : List Nd) : Same s s := fun _ => rfl
theorem Same.trans {s t u : List Nd} (h : Same s t) (k : Same t u) : Same s u := fun p => (h p).trans (k p)
theorem Same.symm {s t : List Nd} (h : Same s t) : Same t s := fun p => (h p).symm
theorem Same.frame {s t : List Nd} (h : Same s t) (A B : List Nd) : Same (A ++ s ++ B) (A ++ t ++ B) := fun p => by
  simp only [List.filter_append, h p]
theorem Same.mem {s t : List Nd} (h : Same s t) {x : Nd} (hx : x ∈ s) : x ∈ t := by
  have : x ∈ s.filter (isAt (L x.f0)) := List.mem_filter.2 ⟨hx, by unfold isAt; simp⟩
  rw [h] at this
  exact (List.mem_filter.1 this).1
theorem same_turn (A X Y B : List Nd) (h : ∀ x ∈ X, ∀ y ∈ Y, L x.f0 ≠ L y.f0) : Same (A ++ Y ++ X ++ B) (A ++ X ++ Y ++ B) := by
  intro p
  simp only [List.filter_append, List.append_assoc]
  congr 1
  rw [← List.append_assoc, ← List.append_assoc]
  congr 1
  by_cases hX : X.filter (isAt p) = []
  · rw [hX]; simp
  · obtain ⟨x, hx⟩ := List.exists_mem_of_ne_nil _ hX
    obtain ⟨hx1, hx2⟩ := List.mem_filter.1 hx
    have hY : Y.filter (isAt p) = [] := by
      rw [List.filter_eq_nil_iff]
      intro y hy hy2
      unfold isAt at hx2 hy2
      exact h x hx1 y hy ((of_decide_eq_true hx2).trans (of_decide_eq_true hy2).symm)
    rw [hY]; simp
theorem less_eq {a b : List UInt8} (h : Op.bytesLess a b = false) (k : Op.bytesLess b a = false) : a = b := by
  have := less_tri a b
  rw [h, k] at this
  simpa using this
theorem up_same : ∀ (s t : List Nd), Up s → Up t → Same s t → s = t := by
  intro s
  induction s with
  | nil =>
    intro t _ _ h
    cases t with
    | nil => rfl
    | cons y t => exact absurd (h.symm.mem (List.mem_cons_self ..)) (by simp)
  | cons x s ih =>
    intro t hs ht h
    cases t with
    | nil => exact absurd (h.mem (List.mem_cons_self ..)) (by simp)
    | cons y t =>
      have hk : L x.f0 = L y.f0 := by
        have a : Op.bytesLess (L x.f0) (L y.f0) = false := by
          rcases List.mem_cons.1 (h.mem (List.mem_cons_self (a := x) (l := s))) with e | e
          · rw [e]; exact less_irr _
          · exact (List.pairwise_cons.1 ht).1 x e
        have b : Op.bytesLess (L y.f0) (L x.f0) = false := by
          rcases List.mem_cons.1 (h.symm.mem (List.mem_cons_self (a := y) (l := t))) with e | e
          · rw [e]; exact less_irr _
          · exact (List.pairwise_cons.1 hs).1 y e
        exact less_eq a b
      have hx : isAt (L x.f0) x = true := by unfold isAt; simp
      have hy : isAt (L x.f0) y = true := by unfold isAt; simp [hk]
      have h1 := h (L x.f0)
      rw [List.filter_cons, List.filter_cons, if_pos hx, if_pos hy] at h1
      obtain ⟨rfl, _⟩ := List.cons.inj h1
      refine congrArg (x :: ·) (ih t (List.pairwise_cons.1 hs).2 (List.pairwise_cons.1 ht).2 fun p => ?_)
      have h2 := h p
      rw [List.filter_cons, List.filter_cons] at h2
      by_cases e : isAt p x = true
      · rw [if_pos e, if_pos e] at h2; exact (List.cons.inj h2).2
      · rw [if_neg e, if_neg e] at h2; exact h2
theorem rd_mid (P : List Nd) (u : Nd) (R : List Nd) (i : Int) (h : i = P.length) : rd_T31 (P ++ u :: R) i = u := by
  subst h
  unfold rd_T31
  rw [Int.toNat_natCast, List.getD_eq_getElem?_getD, List.getElem?_append_right (Nat.le_refl _), Nat.sub_self]
  rfl
theorem set_mid : ∀ (P : List Nd) (u : Nd) (R : List Nd) (v : Nd), (P ++ u :: R).set P.length v = P ++ v :: R
  | [], u, R, v => rfl
  | x :: P, u, R, v => by rw [List.cons_append, List.length_cons, List.set_cons_succ, set_mid P u R v]; rfl
/-- Two ranges that are alike long, exchanged. -/
theorem swap_l0 : ∀ (U V : List Nd), U.length = V.length → ∀ (P M B : List Nd) (a b n i : Int) (k : Nat), 0 ≤ a → 0 ≤ b → 0 ≤ i → a + i = P.length → b + i = P.length + U.length + M.length → n = i + U.length → P.length + U.length + M.length + V.length + B.length ≤ 1000000 → U.length < k →
    api_Node_99.l0 k (P ++ U ++ M ++ V ++ B) a b n i = some (P ++ V ++ M ++ U ++ B) := by
  intro U
  induction U with
  | nil =>
    intro V hV P M B a b n i k ha hb hi h1 h2 h3 hz hk
    obtain ⟨k, rfl⟩ : ∃ m, k = m + 1 := ⟨k - 1, by omega⟩
    obtain rfl : V = [] := List.eq_nil_of_length_eq_zero (by simpa using hV.symm)
    simp only [List.length_nil] at h3
    rw [api_Node_99.l0, if_neg (by omega)]
  | cons u U ih =>
    intro V hV P M B a b n i k ha hb hi h1 h2 h3 hz hk
    obtain ⟨k, rfl⟩ : ∃ m, k = m + 1 := ⟨k - 1, by omega⟩
    cases V with
    | nil => simp at hV
    | cons v V =>
      simp only [List.length_cons] at hV h2 h3 hz hk
      have e1 : P ++ (u :: U) ++ M ++ (v :: V) ++ B = P ++ u :: (U ++ M ++ v :: V ++ B) := by simp
      have e2 : P ++ (u :: U) ++ M ++ (v :: V) ++ B = (P ++ u :: U ++ M) ++ v :: (V ++ B) := by simp
      have hlen : (P ++ (u :: U) ++ M ++ (v :: V) ++ B).length = P.length + (U.length + 1) + M.length + (V.length + 1) + B.length := by simp; omega
      have r1 : rd_T31 (P ++ (u :: U) ++ M ++ (v :: V) ++ B) (a + i) = u := by rw [e1]; exact rd_mid _ _ _ _ (by omega)
      have r2 : rd_T31 (P ++ (u :: U) ++ M ++ (v :: V) ++ B) (b + i) = v := by rw [e2]; exact rd_mid _ _ _ _ (by simp; omega)
      have s1 : (P ++ (u :: U) ++ M ++ (v :: V) ++ B).set P.length v = P ++ v :: U ++ M ++ v :: V ++ B := by rw [e1, set_mid]; simp
      have s2 : (P ++ v :: U ++ M ++ v :: V ++ B).set (P ++ v :: U ++ M).length u = P ++ v :: U ++ M ++ u :: V ++ B := by
        rw [show P ++ v :: U ++ M ++ v :: V ++ B = (P ++ v :: U ++ M) ++ v :: (V ++ B) by simp, set_mid]; simp
      rw [api_Node_99.l0, if_pos (by omega), show wrap64 (b + i) = b + i from wrap_in (by omega) (by omega), show wrap64 (a + i) = a + i from wrap_in (by omega) (by omega), if_pos (by omega), if_pos (by rw [hlen]; omega), if_pos (by omega), if_pos (by rw [hlen]; omega),
        r1, r2, Nd_eta, Nd_eta, show (a + i).toNat = P.length by omega, show (b + i).toNat = (P ++ v :: U ++ M).length by simp; omega, s1, s2, show wrap64 (i + 1) = i + 1 from wrap_in (by omega) (by omega)]
      have := ih V (by omega) (P ++ [v]) (M ++ [u]) B a b n (i + 1) k ha hb (by omega) (by simp; omega) (by simp; omega) (by omega) (by simp; omega) (by omega)
      rw [show P ++ v :: U ++ M ++ u :: V ++ B = P ++ [v] ++ U ++ (M ++ [u]) ++ V ++ B by simp, this]
      simp
theorem swap_f (P U M V B : List Nd) (hUV : U.length = V.length) (a b n : Int) (z : Bool) (k : Nat) (ha : a = P.length) (hb : b = P.length + U.length + M.length) (hn : n = U.length) (hz : P.length + U.length + M.length + V.length + B.length ≤ 1000000) (hk : U.length < k) :
    api_Node_99.f k (P ++ U ++ M ++ V ++ B) a b n z = some (P ++ V ++ M ++ U ++ B) := by
  unfold api_Node_99.f
  exact swap_l0 U V hUV P M B a b n 0 k (by omega) (by omega) (by omega) (by omega) (by omega) (by omega) hz hk
/-- Two blocks behind one another, exchanged. -/
theorem rot_l0 : ∀ (f : Nat) (X Y A B : List Nd) (m i j : Int) (z : Bool) (k : Nat), X.length + Y.length ≤ f → X ≠ [] → Y ≠ [] → m = A.length + X.length → i = X.length → j = Y.length → A.length + X.length + Y.length + B.length ≤ 1000000 → 2 * f + 2 ≤ k →
    api_Node_94.l0 k (A ++ X ++ Y ++ B) m z i j = some (A ++ Y ++ X ++ B) := by
  intro f
  induction f with
  | zero =>
    intro X Y A B m i j z k hf hX
    exact absurd (List.eq_nil_of_length_eq_zero (by omega)) hX
  | succ f ih =>
    intro X Y A B m i j z k hf hX hY hm hi hj hz hk
    obtain ⟨k, rfl⟩ : ∃ m, k = m + 1 := ⟨k - 1, by omega⟩
    have lX : X.length ≠ 0 := fun e => hX (List.eq_nil_of_length_eq_zero e)
    have lY : Y.length ≠ 0 := fun e => hY (List.eq_nil_of_length_eq_zero e)
    rw [api_Node_94.l0, show wrap64 (m - i) = m - i from wrap_in (by omega) (by omega)]
    by_cases h1 : i = j
    · have := swap_f A X [] Y B (by omega) (m - i) m i z k (by omega) (by simp; omega) hi (by simp; omega) (by omega)
      rw [List.append_nil] at this
      rw [if_pos h1, this, some_bind, List.append_nil]
    rw [if_neg h1]
    by_cases h2 : i > j
    · obtain ⟨X1, X2, rfl, h3⟩ : ∃ X1 X2, X = X1 ++ X2 ∧ X1.length = Y.length := ⟨X.take Y.length, X.drop Y.length, (List.take_append_drop ..).symm, by rw [List.length_take]; omega⟩
      rw [List.length_append] at hf hm hi hz lX
      have := swap_f A X1 X2 Y B h3 (m - i) m j z k (by omega) (by omega) (by omega) (by omega) (by omega)
      rw [if_pos h2, ← List.append_assoc A X1 X2, this, some_bind, show wrap64 (i - j) = i - j from wrap_in (by omega) (by omega), ih X2 X1 (A ++ Y) B m (i - j) j z k (by omega) (fun e => by rw [e] at hi; simp at hi; omega) (fun e => by rw [e] at h3; simp at h3; omega) (by rw [List.length_append]; omega) (by omega) (by omega) (by rw [List.length_append]; omega) (by omega)]
      simp
    · obtain ⟨Y1, Y2, rfl, h3⟩ : ∃ Y1 Y2, Y = Y1 ++ Y2 ∧ Y2.length = X.length := ⟨Y.take (Y.length - X.length), Y.drop (Y.length - X.length), (List.take_append_drop ..).symm, by rw [List.length_drop]; omega⟩
      rw [List.length_append] at hf hj hz lY
      have := swap_f A X Y1 Y2 B h3.symm (m - i) (m + j - i) i z k (by omega) (by omega) (by omega) (by omega) (by omega)
      rw [if_neg h2, show wrap64 (m + j) = m + j from wrap_in (by omega) (by omega), show wrap64 (m + j - i) = m + j - i from wrap_in (by omega) (by omega), show A ++ X ++ (Y1 ++ Y2) ++ B = A ++ X ++ Y1 ++ Y2 ++ B by simp, this, some_bind, show wrap64 (j - i) = j - i from wrap_in (by omega) (by omega),
        show A ++ Y2 ++ Y1 ++ X ++ B = A ++ Y2 ++ Y1 ++ (X ++ B) by simp, ih Y2 Y1 A (X ++ B) m i (j - i) z k (by omega) (fun e => by rw [e] at h3; simp at h3; omega) (fun e => by rw [e] at hj; simp at hj; omega) (by omega) (by omega) (by omega) (by rw [List.length_append]; omega) (by omega)]
      simp
theorem rot_f (A X Y B : List Nd) (hX : X ≠ []) (hY : Y ≠ []) (a m b : Int) (z : Bool) (k : Nat) (ha : a = A.length) (hm : m = A.length + X.length) (hb : b = A.length + X.length + Y.length) (hz : A.length + X.length + Y.length + B.length ≤ 1000000) (hk : 2 * (X.length + Y.length) + 2 ≤ k) :
    api_Node_94.f k (A ++ X ++ Y ++ B) a m b z = some (A ++ Y ++ X ++ B) := by
  unfold api_Node_94.f
  rw [show wrap64 (m - a) = m - a from wrap_in (by omega) (by omega), show wrap64 (b - m) = b - m from wrap_in (by omega) (by omega)]
  exact rot_l0 _ X Y A B m (m - a) (b - m) z k (Nat.le_refl _) hX hY hm (by omega) (by omega) hz hk
theorem order_f (a b : Nd) : tree_order.f a.f0 a.f1 a.f2 b.f0 b.f1 b.f2 = some (if Op.bytesLess (L a.f0) (L b.f0) = true then -1 else if Op.bytesLess (L b.f0) (L a.f0) = true then 1 else 0) := by
  unfold tree_order.f cmp_Compare_string.f cmp_isNaN_string.f
  rw [bne_self_eq_false, bne_self_eq_false, some_bind, some_bind, if_neg (by simp), if_neg (by simp), toL, toL]
  by_cases h : Op.bytesLess (L a.f0) (L b.f0) = true
  · rw [if_pos h, if_pos h]; rfl
  rw [if_neg h, if_neg h]
  by_cases h2 : Op.bytesLess (L b.f0) (L a.f0) = true
  · rw [if_pos h2, if_pos h2]; rfl
  · rw [if_neg h2, if_neg h2]; rfl
theorem mid_ {x y : Int} (h0 : 0 ≤ x) (h1 : 0 ≤ y) (hx : x ≤ 1000000) (hy : y ≤ 1000000) : wrap64 ((IntKind.u64.wrap (wrap64 (x + y))) / 2) = (x + y) / 2 := by
  rw [wrap_in (a := x + y) (by omega) (by omega), show IntKind.u64.wrap (x + y) = x + y by show (x + y) % 18446744073709551616 = x + y; exact Int.emod_eq_of_lt (by omega) (by omega)]
  exact wrap_in (by omega) (by omega)
/-- Is a node's path ahead of another's? -/
def lt (a b : Nd) : Bool := Op.bytesLess (L a.f0) (L b.f0)
theorem ord_lt (a b : Nd) : ∃ r, tree_order.f a.f0 a.f1 a.f2 b.f0 b.f1 b.f2 = some r ∧ (r < 0 ↔ lt a b = true) := by
  refine ⟨_, order_f a b, ?_⟩
  unfold lt
  by_cases h : Op.bytesLess (L a.f0) (L b.f0) = true
  · rw [if_pos h]; exact ⟨fun _ => h, fun _ => by omega⟩
  · rw [if_neg h]
    refine ⟨fun e => ?_, fun e => absurd e h⟩
    by_cases h2 : Op.bytesLess (L b.f0) (L a.f0) = true
    · rw [if_pos h2] at e; omega
    · rw [if_neg h2] at e; omega
theorem lt_trans {a b c : Nd} (h : lt a b = true) (k : lt b c = true) : lt a c = true := less_trans h k
theorem lt_not {a b : Nd} (h : lt a b = true) : lt b a = false := less_not h
theorem lt_irr (a : Nd) : lt a a = false := less_irr _
theorem le_lt {a b c : Nd} (h : lt b a = false) (k : lt b c = true) : lt a c = true := by
  cases e : lt a b
  · have : L b.f0 = L a.f0 := less_eq h e
    unfold lt at k ⊢; rw [← this]; exact k
  · exact lt_trans e k
theorem lt_le {a b c : Nd} (h : lt a b = true) (k : lt c b = false) : lt a c = true := by
  cases e : lt b c
  · have : L c.f0 = L b.f0 := less_eq k e
    unfold lt at h ⊢; rw [this]; exact h
  · exact lt_trans h e
theorem le_trans {a b c : Nd} (h : lt b a = false) (k : lt c b = false) : lt c a = false := by
  cases e : lt c a
  · rfl
  · rw [lt_le e h] at k; cases k
theorem lt_ne {a b : Nd} (h : lt a b = true) : L a.f0 ≠ L b.f0 := fun e => by
  unfold lt at h
  rw [e, less_irr] at h
  cases h
theorem up_mid {P : List Nd} {y : Nd} {R : List Nd} (h : Up (P ++ R)) (h1 : ∀ p ∈ P, lt y p = false) (h2 : ∀ r ∈ R, lt r y = false) : Up (P ++ y :: R) := by
  unfold Up at *
  rw [List.pairwise_append] at *
  refine ⟨h.1, List.pairwise_cons.2 ⟨fun r hr => h2 r hr, h.2.1⟩, fun p hp r hr => ?_⟩
  rcases List.mem_cons.1 hr with e | e
  · subst e; exact h1 p hp
  · exact h.2.2 p hp r e
/-- One node goes forward among what is in order. -/
theorem ins_l1 : ∀ (n : Nat) (P1 P2 A R : List Nd) (y : Nd) (a b i j : Int) (k : Nat), P1.length = n → a = A.length → j = A.length + P1.length → A.length + P1.length + 1 + P2.length + R.length ≤ 1000000 → P1.length + 2 ≤ k → Up (P1 ++ P2) → (∀ p ∈ P2, lt y p = true) →
    ∃ Q k', api_Node_87.l1 k (A ++ (P1 ++ y :: P2) ++ R) a b i j = api_Node_87.l0 k' (A ++ Q ++ R) a b (wrap64 (i + 1)) ∧ k ≤ k' + n + 1 ∧ Up Q ∧ Same Q (P1 ++ y :: P2) ∧ Q.length = P1.length + 1 + P2.length := by
  intro n
  induction n with
  | zero =>
    intro P1 P2 A R y a b i j k hn ha hj hz hk hu hy
    obtain ⟨k, rfl⟩ : ∃ m, k = m + 1 := ⟨k - 1, by omega⟩
    obtain rfl : P1 = [] := List.eq_nil_of_length_eq_zero hn
    refine ⟨y :: P2, k, ?_, by omega, up_mid (P := []) hu (by simp) (fun r hr => lt_not (hy r hr)), Same.refl _, by simp; omega⟩
    simp only [List.length_nil] at hj
    rw [api_Node_87.l1, if_neg (by omega)]
    rfl
  | succ n ih =>
    intro P1 P2 A R y a b i j k hn ha hj hz hk hu hy
    obtain ⟨k, rfl⟩ : ∃ m, k = m + 1 := ⟨k - 1, by omega⟩
    obtain ⟨P, x, rfl⟩ : ∃ P x, P1 = P ++ [x] := ⟨P1.dropLast, P1.getLast (fun e => by rw [e] at hn; simp at hn), (List.dropLast_concat_getLast _).symm⟩
    simp only [List.length_append, List.length_cons, List.length_nil] at hn hj hz hk
    have hlen : (A ++ (P ++ [x] ++ y :: P2) ++ R).length = A.length + P.length + 1 + 1 + P2.length + R.length := by simp; omega
    have r1 : rd_T31 (A ++ (P ++ [x] ++ y :: P2) ++ R) j = y := by
      rw [show A ++ (P ++ [x] ++ y :: P2) ++ R = (A ++ P ++ [x]) ++ y :: (P2 ++ R) by simp]; exact rd_mid _ _ _ _ (by simp; omega)
    have r2 : rd_T31 (A ++ (P ++ [x] ++ y :: P2) ++ R) (j - 1) = x := by
      rw [show A ++ (P ++ [x] ++ y :: P2) ++ R = (A ++ P) ++ x :: (y :: P2 ++ R) by simp]; exact rd_mid _ _ _ _ (by simp; omega)
    obtain ⟨r, hr, hr0⟩ := ord_lt y x
    rw [api_Node_87.l1, if_pos (by omega), if_pos (by omega), if_pos (by rw [hlen]; omega), show wrap64 (j - 1) = j - 1 from wrap_in (by omega) (by omega), if_pos (by omega), if_pos (by rw [hlen]; omega), r1, r2, hr, some_bind]
    cases e : lt y x
    · refine ⟨P ++ [x] ++ y :: P2, k, ?_, by omega, ?_, Same.refl _, by simp; omega⟩
      · rw [if_neg (fun h => by rw [hr0.1 h] at e; cases e)]
      · refine up_mid hu (fun p hp => ?_) (fun r hr => lt_not (hy r hr))
        rcases List.mem_append.1 hp with hp | hp
        · have := (List.pairwise_append.1 (List.pairwise_append.1 hu).1).2.2 p hp x (by simp)
          exact le_trans this e
        · rw [List.mem_singleton.1 hp]; exact e
    · have s1 : (A ++ (P ++ [x] ++ y :: P2) ++ R).set j.toNat x = A ++ (P ++ [x] ++ x :: P2) ++ R := by
        rw [show A ++ (P ++ [x] ++ y :: P2) ++ R = (A ++ P ++ [x]) ++ y :: (P2 ++ R) by simp, show j.toNat = (A ++ P ++ [x]).length by simp; omega, set_mid]; simp
      have s2 : (A ++ (P ++ [x] ++ x :: P2) ++ R).set (j - 1).toNat y = A ++ (P ++ y :: (x :: P2)) ++ R := by
        rw [show A ++ (P ++ [x] ++ x :: P2) ++ R = (A ++ P) ++ x :: (x :: P2 ++ R) by simp, show (j - 1).toNat = (A ++ P).length by simp; omega, set_mid]; simp
      rw [if_pos (hr0.2 e), Nd_eta, Nd_eta, s1, s2]
      obtain ⟨Q, k', h1, h2, h3, h4, h5⟩ := ih P (x :: P2) A R y a b i (j - 1) k (by omega) ha (by omega) (by simp; omega) (by omega) (by simpa using hu) (fun p hp => by
        rcases List.mem_cons.1 hp with hp | hp
        · rw [hp]; exact e
        · exact hy p hp)
      refine ⟨Q, k', h1, by omega, h3, h4.trans ?_, by rw [h5]; simp; omega⟩
      have := same_turn P [x] [y] P2 (fun a ha b hb => by
        rw [List.mem_singleton.1 ha, List.mem_singleton.1 hb]
        exact fun h => lt_ne e h.symm)
      simpa using this
theorem ins_l0 (N : Nat) (A B : List Nd) (a b : Int) (ha : a = A.length) (hz : A.length + N + B.length ≤ 1000000) : ∀ (f : Nat) (P R : List Nd) (i : Int) (k : Nat), R.length = f → P.length + R.length = N → P ≠ [] → i = A.length + P.length → b = i + R.length → Up P → (f + 1) * (N + 3) ≤ k →
    ∃ Z, api_Node_87.l0 k (A ++ P ++ R ++ B) a b i = some (A ++ Z ++ B) ∧ Up Z ∧ Same Z (P ++ R) ∧ Z.length = N := by
  intro f
  induction f with
  | zero =>
    intro P R i k hf hN hP hi hb hu hk
    obtain ⟨k, rfl⟩ : ∃ m, k = m + 1 := ⟨k - 1, by omega⟩
    obtain rfl : R = [] := List.eq_nil_of_length_eq_zero hf
    refine ⟨P, ?_, hu, by rw [List.append_nil]; exact Same.refl _, by simpa using hN⟩
    simp only [List.length_nil] at hb
    rw [api_Node_87.l0, if_neg (by omega), List.append_nil]
  | succ f ih =>
    intro P R i k hf hN hP hi hb hu hk
    have hk2 : (f + 1 + 1) * (N + 3) = (f + 1) * (N + 3) + (N + 3) := by rw [Nat.add_mul, Nat.one_mul]
    obtain ⟨k, rfl⟩ : ∃ m, k = m + 1 := ⟨k - 1, by omega⟩
    cases R with
    | nil => simp at hf
    | cons y R =>
      simp only [List.length_cons] at hf hN hb
      obtain ⟨Q, k', h1, h2, h3, h4, h5⟩ := ins_l1 P.length P [] A (R ++ B) y a b i i k rfl ha hi (by rw [List.length_append, List.length_nil]; omega) (by omega) (by rw [List.append_nil]; exact hu) (by simp)
      rw [api_Node_87.l0, if_pos (by omega), show A ++ P ++ y :: R ++ B = A ++ (P ++ y :: []) ++ (R ++ B) by simp, h1, show wrap64 (i + 1) = i + 1 from wrap_in (by omega) (by omega), ← List.append_assoc]
      simp only [List.length_nil] at h5
      obtain ⟨Z, z1, z2, z3, z4⟩ := ih Q R (i + 1) k' (by omega) (by omega) (fun e => by rw [e] at h5; simp at h5) (by omega) (by omega) h3 (by omega)
      refine ⟨Z, z1, z2, z3.trans ?_, z4⟩
      have := (h4.frame [] R)
      simpa using this
/-- A block put in order. -/
theorem insert_f (A X B : List Nd) (a b : Int) (z : Bool) (k : Nat) (ha : a = A.length) (hb : b = A.length + X.length) (hz : A.length + X.length + B.length ≤ 1000000) (hk : (X.length + 1) * (X.length + 3) ≤ k) :
    ∃ Z, api_Node_87.f k (A ++ X ++ B) a b z = some (A ++ Z ++ B) ∧ Up Z ∧ Same Z X ∧ Z.length = X.length := by
  unfold api_Node_87.f
  rw [show wrap64 (a + 1) = a + 1 from wrap_in (by omega) (by omega)]
  cases X with
  | nil =>
    simp only [List.length_nil] at hb hk
    obtain ⟨k, rfl⟩ : ∃ m, k = m + 1 := ⟨k - 1, by omega⟩
    refine ⟨[], ?_, List.Pairwise.nil, Same.refl _, rfl⟩
    rw [api_Node_87.l0, if_neg (by omega)]
  | cons x X =>
    simp only [List.length_cons] at hb hz hk
    obtain ⟨Z, h1, h2, h3, h4⟩ := ins_l0 (X.length + 1) A B a b ha (by omega) X.length [x] X (a + 1) k rfl (by simp; omega) (by simp) (by simp; omega) (by omega) (List.pairwise_singleton _ _) (by
      refine Nat.le_trans (Nat.mul_le_mul_right _ (by omega)) hk)
    refine ⟨Z, ?_, h2, by simpa using h3, by rw [h4]; rfl⟩
    rw [← h1]
    simp
theorem up_left {P R : List Nd} (h : Up (P ++ R)) : Up P := (List.pairwise_append.1 h).1
theorem up_right {P R : List Nd} (h : Up (P ++ R)) : Up R := (List.pairwise_append.1 h).2.1
theorem up_cross {P R : List Nd} (h : Up (P ++ R)) {p r : Nd} (hp : p ∈ P) (hr : r ∈ R) : lt r p = false := (List.pairwise_append.1 h).2.2 p hp r hr
theorem up_join {P R : List Nd} (h : Up P) (k : Up R) (c : ∀ p ∈ P, ∀ r ∈ R, lt r p = false) : Up (P ++ R) := List.pairwise_append.2 ⟨h, k, c⟩
/-- A row parted at a place. -/
theorem part_at (Y : List Nd) (n : Nat) (h : n < Y.length) : ∃ U v W, Y = U ++ v :: W ∧ U.length = n := ⟨Y.take n, Y[n], Y.drop (n + 1), by rw [← List.drop_eq_getElem_cons h, List.take_append_drop], by rw [List.length_take]; omega⟩
/-- Where one node that stands ahead goes among those behind it. -/
theorem sm0_find (A B : List Nd) (x : Nd) (a : Int) (ha : a = A.length) : ∀ (f : Nat) (Y1 Ym Y2 : List Nd) (i j : Int) (k : Nat), Ym.length ≤ f → i = a + 1 + Y1.length → j = i + Ym.length → A.length + 1 + Y1.length + Ym.length + Y2.length + B.length ≤ 1000000 → f + 1 ≤ k → Up (Y1 ++ Ym ++ Y2) → (∀ y ∈ Y1, lt y x = true) → (∀ y ∈ Y2, lt y x = false) →
    ∃ U V k', Y1 ++ Ym ++ Y2 = U ++ V ∧ api_Node_88.l0 k (A ++ x :: (Y1 ++ Ym ++ Y2) ++ B) a i j = api_Node_88.l1 k' (A ++ x :: (U ++ V) ++ B) (a + 1 + U.length) a ∧ k ≤ k' + f + 1 ∧ (∀ y ∈ U, lt y x = true) ∧ (∀ y ∈ V, lt y x = false) := by
  intro f
  induction f with
  | zero =>
    intro Y1 Ym Y2 i j k hf hi hj hz hk hu h1 h2
    obtain ⟨k, rfl⟩ : ∃ m, k = m + 1 := ⟨k - 1, by omega⟩
    obtain rfl : Ym = [] := List.eq_nil_of_length_eq_zero (by omega)
    simp only [List.length_nil] at hj
    refine ⟨Y1, Y2, k, by simp, ?_, by omega, h1, h2⟩
    rw [api_Node_88.l0, if_neg (by omega), hi]
    simp
  | succ f ih =>
    intro Y1 Ym Y2 i j k hf hi hj hz hk hu h1 h2
    obtain ⟨k, rfl⟩ : ∃ m, k = m + 1 := ⟨k - 1, by omega⟩
    by_cases e0 : Ym.length = 0
    · obtain rfl : Ym = [] := List.eq_nil_of_length_eq_zero e0
      simp only [List.length_nil] at hj
      refine ⟨Y1, Y2, k, by simp, ?_, by omega, h1, h2⟩
      rw [api_Node_88.l0, if_neg (by omega), hi]
      simp
    obtain ⟨U, v, W, rfl, hU⟩ := part_at Ym ((i + j) / 2 - i).toNat (by omega)
    simp only [List.length_append, List.length_cons] at hf hj hz
    have hlen : (A ++ x :: (Y1 ++ (U ++ v :: W) ++ Y2) ++ B).length = A.length + 1 + Y1.length + U.length + 1 + W.length + Y2.length + B.length := by simp; omega
    have r1 : rd_T31 (A ++ x :: (Y1 ++ (U ++ v :: W) ++ Y2) ++ B) ((i + j) / 2) = v := by
      rw [show A ++ x :: (Y1 ++ (U ++ v :: W) ++ Y2) ++ B = (A ++ x :: (Y1 ++ U)) ++ v :: (W ++ Y2 ++ B) by simp]; exact rd_mid _ _ _ _ (by simp; omega)
    have r2 : rd_T31 (A ++ x :: (Y1 ++ (U ++ v :: W) ++ Y2) ++ B) a = x := by
      rw [show A ++ x :: (Y1 ++ (U ++ v :: W) ++ Y2) ++ B = A ++ x :: (Y1 ++ (U ++ v :: W) ++ Y2 ++ B) by simp]; exact rd_mid _ _ _ _ ha
    obtain ⟨r, hr, hr0⟩ := ord_lt v x
    rw [api_Node_88.l0, if_pos (by omega), mid_ (by omega) (by omega) (by omega) (by omega), if_pos (by omega), if_pos (by rw [hlen]; omega), if_pos (by omega), if_pos (by rw [hlen]; omega), r1, r2, hr, some_bind]
    have hu' : Up (Y1 ++ (U ++ (v :: W ++ Y2))) := by simpa using hu
    cases e : lt v x
    · rw [if_neg (fun h => by rw [hr0.1 h] at e; cases e)]
      obtain ⟨P, V, k', q1, q2, q3, q4, q5⟩ := ih Y1 U (v :: W ++ Y2) i ((i + j) / 2) k (by omega) hi (by omega) (by simp; omega) (by omega) (by simpa using hu) h1 (fun y hy => by
        rcases List.mem_append.1 hy with hy | hy
        · rcases List.mem_cons.1 hy with hy | hy
          · rw [hy]; exact e
          · have : lt y v = false := (List.pairwise_cons.1 (up_left (R := Y2) (up_right (up_right hu')))).1 y hy
            exact le_trans (a := x) (b := v) (c := y) e this
        · exact h2 y hy)
      refine ⟨P, V, k', by rw [← q1]; simp, ?_, by omega, q4, q5⟩
      rw [← q2]; simp
    · rw [if_pos (hr0.2 e), show wrap64 ((i + j) / 2 + 1) = (i + j) / 2 + 1 from wrap_in (by omega) (by omega)]
      obtain ⟨P, V, k', q1, q2, q3, q4, q5⟩ := ih (Y1 ++ U ++ [v]) W Y2 ((i + j) / 2 + 1) j k (by omega) (by simp; omega) (by omega) (by simp; omega) (by omega) (by simpa using hu) (fun y hy => by
        rcases List.mem_append.1 hy with hy | hy
        · rcases List.mem_append.1 hy with hy | hy
          · exact h1 y hy
          · have : lt v y = false := up_cross (up_right hu') hy (by simp)
            exact le_lt this e
        · rw [List.mem_singleton.1 hy]; exact e) h2
      refine ⟨P, V, k', by rw [← q1]; simp, ?_, by omega, q4, q5⟩
      rw [← q2]; simp
/-- One node carried behind others. -/
theorem sm1_move (x : Nd) (R : List Nd) (i : Int) : ∀ (U A : List Nd) (c : Int) (k : Nat), c = A.length → i = c + 1 + U.length → A.length + 1 + U.length + R.length ≤ 1000000 → U.length < k → api_Node_88.l1 k (A ++ x :: U ++ R) i c = some (A ++ U ++ x :: R) := by
  intro U
  induction U with
  | nil =>
    intro A c k hc hi hz hk
    obtain ⟨k, rfl⟩ : ∃ m, k = m + 1 := ⟨k - 1, by omega⟩
    simp only [List.length_nil] at hi
    rw [api_Node_88.l1, show wrap64 (i - 1) = i - 1 from wrap_in (by omega) (by omega), if_neg (by omega)]
    simp
  | cons u U ih =>
    intro A c k hc hi hz hk
    obtain ⟨k, rfl⟩ : ∃ m, k = m + 1 := ⟨k - 1, by omega⟩
    simp only [List.length_cons] at hi hz hk
    have hlen : (A ++ x :: (u :: U) ++ R).length = A.length + 1 + (U.length + 1) + R.length := by simp; omega
    have r1 : rd_T31 (A ++ x :: (u :: U) ++ R) (c + 1) = u := by
      rw [show A ++ x :: (u :: U) ++ R = (A ++ [x]) ++ u :: (U ++ R) by simp]; exact rd_mid _ _ _ _ (by simp; omega)
    have r2 : rd_T31 (A ++ x :: (u :: U) ++ R) c = x := by
      rw [show A ++ x :: (u :: U) ++ R = A ++ x :: (u :: U ++ R) by simp]; exact rd_mid _ _ _ _ hc
    have s1 : (A ++ x :: (u :: U) ++ R).set c.toNat u = A ++ u :: (u :: U) ++ R := by
      rw [show A ++ x :: (u :: U) ++ R = A ++ x :: (u :: U ++ R) by simp, show c.toNat = A.length by omega, set_mid]; simp
    have s2 : (A ++ u :: (u :: U) ++ R).set (c + 1).toNat x = (A ++ [u]) ++ x :: U ++ R := by
      rw [show A ++ u :: (u :: U) ++ R = (A ++ [u]) ++ u :: (U ++ R) by simp, show (c + 1).toNat = (A ++ [u]).length by simp; omega, set_mid]; simp
    rw [api_Node_88.l1, show wrap64 (i - 1) = i - 1 from wrap_in (by omega) (by omega), if_pos (by omega), show wrap64 (c + 1) = c + 1 from wrap_in (by omega) (by omega), if_pos (by omega), if_pos (by rw [hlen]; omega), if_pos (by omega), if_pos (by rw [hlen]; omega), r1, r2, Nd_eta, Nd_eta, s1, s2,
      ih (A ++ [u]) (c + 1) k (by simp; omega) (by omega) (by simp; omega) (by omega)]
    simp
/-- The merge of one node with those behind it. -/
theorem sm0_f (A Y B : List Nd) (x : Nd) (a b : Int) (ha : a = A.length) (hb : b = a + 1 + Y.length) (hz : A.length + 1 + Y.length + B.length ≤ 1000000) (k : Nat) (hk : 2 * Y.length + 3 ≤ k) (hu : Up Y) :
    ∃ Z, api_Node_88.l0 k (A ++ x :: Y ++ B) a (a + 1) b = some (A ++ Z ++ B) ∧ Up Z ∧ Same Z (x :: Y) ∧ Z.length = 1 + Y.length := by
  obtain ⟨U, V, k', q1, q2, q3, q4, q5⟩ := sm0_find A B x a ha Y.length [] Y [] (a + 1) b k (Nat.le_refl _) (by simp) (by omega) (by simp; omega) (by omega) (by simpa using hu) (by simp) (by simp)
  simp only [List.nil_append, List.append_nil] at q1 q2
  have hl : Y.length = U.length + V.length := by rw [q1, List.length_append]
  rw [q2, show A ++ x :: (U ++ V) ++ B = A ++ x :: U ++ (V ++ B) by simp, sm1_move x (V ++ B) _ U A a k' ha rfl (by rw [List.length_append]; omega) (by omega)]
  rw [q1] at hu ⊢
  refine ⟨U ++ x :: V, by simp, up_mid hu (fun p hp => lt_not (q4 p hp)) q5, ?_, by simp; omega⟩
  have := same_turn [] [x] U V (fun a ha b hb => by
    rw [List.mem_singleton.1 ha]
    exact fun h => lt_ne (q4 b hb) h.symm)
  simpa using this
/-- Where one node that stands behind goes among those ahead of it. -/
theorem sm2_find (A B : List Nd) (y : Nd) (a m : Int) (ha : a = A.length) : ∀ (f : Nat) (Y1 Ym Y2 : List Nd) (i j : Int) (k : Nat), Ym.length ≤ f → i = a + Y1.length → j = i + Ym.length → m = a + Y1.length + Ym.length + Y2.length → A.length + 1 + Y1.length + Ym.length + Y2.length + B.length ≤ 1000000 → f + 1 ≤ k → Up (Y1 ++ Ym ++ Y2) → (∀ x ∈ Y1, lt y x = false) → (∀ x ∈ Y2, lt y x = true) →
    ∃ U V k', Y1 ++ Ym ++ Y2 = U ++ V ∧ api_Node_88.l2 k (A ++ (Y1 ++ Ym ++ Y2) ++ y :: B) m i j = api_Node_88.l3 k' (A ++ (U ++ V) ++ y :: B) (a + U.length) m ∧ k ≤ k' + f + 1 ∧ (∀ x ∈ U, lt y x = false) ∧ (∀ x ∈ V, lt y x = true) := by
  intro f
  induction f with
  | zero =>
    intro Y1 Ym Y2 i j k hf hi hj hm hz hk hu h1 h2
    obtain ⟨k, rfl⟩ : ∃ m, k = m + 1 := ⟨k - 1, by omega⟩
    obtain rfl : Ym = [] := List.eq_nil_of_length_eq_zero (by omega)
    simp only [List.length_nil] at hj
    refine ⟨Y1, Y2, k, by simp, ?_, by omega, h1, h2⟩
    rw [api_Node_88.l2, if_neg (by omega), hi]
    simp
  | succ f ih =>
    intro Y1 Ym Y2 i j k hf hi hj hm hz hk hu h1 h2
    obtain ⟨k, rfl⟩ : ∃ m, k = m + 1 := ⟨k - 1, by omega⟩
    by_cases e0 : Ym.length = 0
    · obtain rfl : Ym = [] := List.eq_nil_of_length_eq_zero e0
      simp only [List.length_nil] at hj
      refine ⟨Y1, Y2, k, by simp, ?_, by omega, h1, h2⟩
      rw [api_Node_88.l2, if_neg (by omega), hi]
      simp
    obtain ⟨U, v, W, rfl, hU⟩ := part_at Ym ((i + j) / 2 - i).toNat (by omega)
    simp only [List.length_append, List.length_cons] at hf hj hm hz
    have hlen : (A ++ (Y1 ++ (U ++ v :: W) ++ Y2) ++ y :: B).length = A.length + 1 + Y1.length + U.length + 1 + W.length + Y2.length + B.length := by simp; omega
    have r1 : rd_T31 (A ++ (Y1 ++ (U ++ v :: W) ++ Y2) ++ y :: B) ((i + j) / 2) = v := by
      rw [show A ++ (Y1 ++ (U ++ v :: W) ++ Y2) ++ y :: B = (A ++ (Y1 ++ U)) ++ v :: (W ++ Y2 ++ y :: B) by simp]; exact rd_mid _ _ _ _ (by simp; omega)
    have r2 : rd_T31 (A ++ (Y1 ++ (U ++ v :: W) ++ Y2) ++ y :: B) m = y := rd_mid _ _ _ _ (by simp; omega)
    obtain ⟨r, hr, hr0⟩ := ord_lt y v
    rw [api_Node_88.l2, if_pos (by omega), mid_ (by omega) (by omega) (by omega) (by omega), if_pos (by omega), if_pos (by rw [hlen]; omega), if_pos (by omega), if_pos (by rw [hlen]; omega), r1, r2, hr, some_bind]
    have hu' : Up (Y1 ++ (U ++ (v :: W ++ Y2))) := by simpa using hu
    cases e : lt y v
    · rw [if_neg (fun h => by rw [hr0.1 h] at e; cases e), show wrap64 ((i + j) / 2 + 1) = (i + j) / 2 + 1 from wrap_in (by omega) (by omega)]
      obtain ⟨P, V, k', q1, q2, q3, q4, q5⟩ := ih (Y1 ++ U ++ [v]) W Y2 ((i + j) / 2 + 1) j k (by omega) (by simp; omega) (by omega) (by simp; omega) (by simp; omega) (by omega) (by simpa using hu) (fun x hx => by
        rcases List.mem_append.1 hx with hx | hx
        · rcases List.mem_append.1 hx with hx | hx
          · exact h1 x hx
          · have : lt v x = false := up_cross (up_right hu') hx (by simp)
            exact le_trans (a := x) (b := v) (c := y) this e
        · rw [List.mem_singleton.1 hx]; exact e) h2
      refine ⟨P, V, k', by rw [← q1]; simp, ?_, by omega, q4, q5⟩
      rw [← q2]; simp
    · rw [if_pos (hr0.2 e)]
      obtain ⟨P, V, k', q1, q2, q3, q4, q5⟩ := ih Y1 U (v :: W ++ Y2) i ((i + j) / 2) k (by omega) hi (by omega) (by simp; omega) (by simp; omega) (by omega) (by simpa using hu) h1 (fun x hx => by
        rcases List.mem_append.1 hx with hx | hx
        · rcases List.mem_cons.1 hx with hx | hx
          · rw [hx]; exact e
          · have : lt x v = false := (List.pairwise_cons.1 (up_left (R := Y2) (up_right (up_right hu')))).1 x hx
            exact lt_le e this
        · exact h2 x hx)
      refine ⟨P, V, k', by rw [← q1]; simp, ?_, by omega, q4, q5⟩
      rw [← q2]; simp
/-- One node carried ahead of others. -/
theorem sm3_move (y : Nd) (A : List Nd) (i : Int) (hi : i = A.length) : ∀ (n : Nat) (V R : List Nd) (c : Int) (k : Nat), V.length = n → c = i + V.length → A.length + 1 + V.length + R.length ≤ 1000000 → n < k → api_Node_88.l3 k (A ++ V ++ y :: R) i c = some (A ++ y :: V ++ R) := by
  intro n
  induction n with
  | zero =>
    intro V R c k hn hc hz hk
    obtain ⟨k, rfl⟩ : ∃ m, k = m + 1 := ⟨k - 1, by omega⟩
    obtain rfl : V = [] := List.eq_nil_of_length_eq_zero hn
    simp only [List.length_nil] at hc
    rw [api_Node_88.l3, if_neg (by omega)]
    simp
  | succ n ih =>
    intro V R c k hn hc hz hk
    obtain ⟨k, rfl⟩ : ∃ m, k = m + 1 := ⟨k - 1, by omega⟩
    obtain ⟨P, x, rfl⟩ : ∃ P x, V = P ++ [x] := ⟨V.dropLast, V.getLast (fun e => by rw [e] at hn; simp at hn), (List.dropLast_concat_getLast _).symm⟩
    simp only [List.length_append, List.length_cons, List.length_nil] at hn hc hz
    have hlen : (A ++ (P ++ [x]) ++ y :: R).length = A.length + P.length + 1 + 1 + R.length := by simp; omega
    have r1 : rd_T31 (A ++ (P ++ [x]) ++ y :: R) c = y := rd_mid _ _ _ _ (by simp; omega)
    have r2 : rd_T31 (A ++ (P ++ [x]) ++ y :: R) (c - 1) = x := by
      rw [show A ++ (P ++ [x]) ++ y :: R = (A ++ P) ++ x :: (y :: R) by simp]; exact rd_mid _ _ _ _ (by simp; omega)
    have s1 : (A ++ (P ++ [x]) ++ y :: R).set c.toNat x = A ++ (P ++ [x]) ++ x :: R := by
      rw [show c.toNat = (A ++ (P ++ [x])).length by simp; omega, set_mid]
    have s2 : (A ++ (P ++ [x]) ++ x :: R).set (c - 1).toNat y = A ++ P ++ y :: (x :: R) := by
      rw [show A ++ (P ++ [x]) ++ x :: R = (A ++ P) ++ x :: (x :: R) by simp, show (c - 1).toNat = (A ++ P).length by simp; omega, set_mid]
    rw [api_Node_88.l3, if_pos (by omega), show wrap64 (c - 1) = c - 1 from wrap_in (by omega) (by omega), if_pos (by omega), if_pos (by rw [hlen]; omega), if_pos (by omega), if_pos (by rw [hlen]; omega), r1, r2, Nd_eta, Nd_eta, s1, s2,
      ih P (x :: R) (c - 1) k (by omega) (by omega) (by simp; omega) (by omega)]
    simp
/-- The merge of one node with those ahead of it. -/
theorem sm2_f (A X B : List Nd) (y : Nd) (a m : Int) (ha : a = A.length) (hm : m = a + X.length) (hz : A.length + 1 + X.length + B.length ≤ 1000000) (k : Nat) (hk : 2 * X.length + 3 ≤ k) (hu : Up X) :
    ∃ Z, api_Node_88.l2 k (A ++ X ++ y :: B) m a m = some (A ++ Z ++ B) ∧ Up Z ∧ Same Z (X ++ [y]) ∧ Z.length = X.length + 1 := by
  obtain ⟨U, V, k', q1, q2, q3, q4, q5⟩ := sm2_find A B y a m ha X.length [] X [] a m k (Nat.le_refl _) (by simp) hm (by simp; omega) (by simp; omega) (by omega) (by simpa using hu) (by simp) (by simp)
  simp only [List.nil_append, List.append_nil] at q1 q2
  have hl : X.length = U.length + V.length := by rw [q1, List.length_append]
  rw [q2, show A ++ (U ++ V) ++ y :: B = (A ++ U) ++ V ++ y :: B by simp, sm3_move y (A ++ U) _ (by simp; omega) V.length V B m k' rfl (by omega) (by simp; omega) (by omega)]
  rw [q1] at hu ⊢
  refine ⟨U ++ y :: V, by simp, up_mid hu q4 (fun r hr => lt_not (q5 r hr)), ?_, by simp; omega⟩
  have := same_turn U V [y] [] (fun a ha b hb => by
    rw [List.mem_singleton.1 hb]
    exact fun h => lt_ne (q5 a ha) h.symm)
  simpa using this
/-- Where two blocks that are in order part, as the search tells it. -/
theorem search_ (x : List Nd) (a m b mid n p lo r0 : Int) (z : Bool) (hx : (x.length : Int) ≤ 1000000) (ha : 0 ≤ a) (hlo : a ≤ lo) (hr0 : r0 ≤ m) (hm : m ≤ b) (hb : b ≤ x.length) (hn : n = mid + m) (hp : p = n - 1) (hmid : 0 ≤ mid ∧ mid ≤ b) (hpc : ∀ c, lo ≤ c → c < r0 → m ≤ p - c ∧ p - c < b)
    (hX : ∀ i j, a ≤ i → i ≤ j → j < m → lt (rd_T31 x j) (rd_T31 x i) = false) (hY : ∀ i j, m ≤ i → i ≤ j → j < b → lt (rd_T31 x j) (rd_T31 x i) = false) :
    ∀ (f : Nat) (s r : Int) (k : Nat), r - s ≤ f → f + 1 ≤ k → lo ≤ s → s ≤ r → r ≤ r0 → (∀ c, lo ≤ c → c < s → lt (rd_T31 x (p - c)) (rd_T31 x c) = false) → (∀ c, r ≤ c → c < r0 → lt (rd_T31 x (p - c)) (rd_T31 x c) = true) →
    ∃ c k', api_Node_88.l4 k x a m b z mid n s r p = api_Node_88.j6 k' x a m b z mid c (n - c) (decide (c < m ∧ m < n - c)) ∧ k ≤ k' + f + 1 ∧ lo ≤ c ∧ c ≤ r0 ∧ (∀ c', lo ≤ c' → c' < c → lt (rd_T31 x (p - c')) (rd_T31 x c') = false) ∧ (∀ c', c ≤ c' → c' < r0 → lt (rd_T31 x (p - c')) (rd_T31 x c') = true) := by
  have hend : ∀ (s : Int) (k : Nat) (f : Nat), f + 1 ≤ k → lo ≤ s → s ≤ r0 → (∀ c, lo ≤ c → c < s → lt (rd_T31 x (p - c)) (rd_T31 x c) = false) → (∀ c, s ≤ c → c < r0 → lt (rd_T31 x (p - c)) (rd_T31 x c) = true) →
    ∃ c k', api_Node_88.l4 k x a m b z mid n s s p = api_Node_88.j6 k' x a m b z mid c (n - c) (decide (c < m ∧ m < n - c)) ∧ k ≤ k' + f + 1 ∧ lo ≤ c ∧ c ≤ r0 ∧ (∀ c', lo ≤ c' → c' < c → lt (rd_T31 x (p - c')) (rd_T31 x c') = false) ∧ (∀ c', c ≤ c' → c' < r0 → lt (rd_T31 x (p - c')) (rd_T31 x c') = true) := by
    intro s k f hk h1 h2 h3 h4
    obtain ⟨k, rfl⟩ : ∃ m, k = m + 1 := ⟨k - 1, by omega⟩
    refine ⟨s, k, ?_, by omega, h1, h2, h3, h4⟩
    rw [api_Node_88.l4, if_neg (by omega), show wrap64 (n - s) = n - s from wrap_in (by omega) (by omega)]
    by_cases e : s < m
    · rw [if_pos e]
      by_cases e2 : m < n - s
      · rw [decide_eq_true e2, decide_eq_true ⟨e, e2⟩]
      · rw [decide_eq_false e2, decide_eq_false (fun h => e2 h.2)]
    · rw [if_neg e, decide_eq_false (fun h => e h.1)]
  intro f
  induction f with
  | zero =>
    intro s r k hf hk h1 h2 h3 h4 h5
    obtain rfl : s = r := by omega
    exact hend s k 0 hk h1 h3 h4 h5
  | succ f ih =>
    intro s r k hf hk h1 h2 h3 h4 h5
    by_cases e : s < r
    · obtain ⟨k, rfl⟩ : ∃ m, k = m + 1 := ⟨k - 1, by omega⟩
      have hc := hpc ((s + r) / 2) (by omega) (by omega)
      obtain ⟨q, hq, hq0⟩ := ord_lt (rd_T31 x (p - (s + r) / 2)) (rd_T31 x ((s + r) / 2))
      rw [api_Node_88.l4, if_pos e, mid_ (by omega) (by omega) (by omega) (by omega), show wrap64 (p - (s + r) / 2) = p - (s + r) / 2 from wrap_in (by omega) (by omega), if_pos (by omega), if_pos (by omega), if_pos (by omega), if_pos (by omega), hq, some_bind]
      cases el : lt (rd_T31 x (p - (s + r) / 2)) (rd_T31 x ((s + r) / 2))
      · rw [if_neg (fun h => by rw [hq0.1 h] at el; cases el), show wrap64 ((s + r) / 2 + 1) = (s + r) / 2 + 1 from wrap_in (by omega) (by omega)]
        obtain ⟨c, k', q1, q2, q3⟩ := ih ((s + r) / 2 + 1) r k (by omega) (by omega) (by omega) (by omega) h3 (fun c c1 c2 => by
          by_cases hcs : c < s
          · exact h4 c c1 hcs
          · have u1 := hX c ((s + r) / 2) (by omega) (by omega) (by omega)
            have u2 := hY (p - (s + r) / 2) (p - c) (by omega) (by omega) (hpc c c1 (by omega)).2
            exact le_trans u1 (le_trans el u2)) h5
        exact ⟨c, k', q1, by omega, q3⟩
      · rw [if_pos (hq0.2 el)]
        obtain ⟨c, k', q1, q2, q3⟩ := ih s ((s + r) / 2) k (by omega) (by omega) h1 (by omega) (by omega) h4 (fun c c1 c2 => by
          by_cases hcs : r ≤ c
          · exact h5 c hcs c2
          · have u1 := hX ((s + r) / 2) c (by omega) (by omega) (by omega)
            have u2 := hY (p - c) (p - (s + r) / 2) (hpc c (by omega) c2).1 (by omega) (by omega)
            exact le_lt u2 (lt_le el u1))
        exact ⟨c, k', q1, by omega, q3⟩
    · obtain rfl : s = r := by omega
      obtain ⟨c, k', q1, q2, q3⟩ := hend s k f (by omega) h1 h3 h4 h5
      exact ⟨c, k', q1, by omega, q3⟩
theorem rd_at (P Q R : List Nd) (i : Int) (j : Nat) (h : j < Q.length) (hi : i = P.length + j) : rd_T31 (P ++ Q ++ R) i = Q[j] := by
  obtain ⟨U, v, W, e, hU⟩ := part_at Q j h
  have : Q[j] = v := by subst hU; simp [e]
  rw [this, e, show P ++ (U ++ v :: W) ++ R = (P ++ U) ++ v :: (W ++ R) by simp]
  exact rd_mid _ _ _ _ (by rw [List.length_append]; omega)
theorem up_at {Q : List Nd} (h : Up Q) {i j : Nat} (hi : i ≤ j) (hj : j < Q.length) : lt Q[j] Q[i] = false := by
  by_cases e : i = j
  · subst e; exact lt_irr _
  · exact (List.pairwise_iff_getElem.1 h) i j (by omega) hj (by omega)
theorem up_idx (P Q R : List Nd) (h : Up Q) (i j : Int) (h1 : (P.length : Int) ≤ i) (h2 : i ≤ j) (h3 : j < P.length + Q.length) : lt (rd_T31 (P ++ Q ++ R) j) (rd_T31 (P ++ Q ++ R) i) = false := by
  rw [rd_at P Q R i (i - P.length).toNat (by omega) (by omega), rd_at P Q R j (j - P.length).toNat (by omega) (by omega)]
  exact up_at h (by omega) (by omega)
/-- Two blocks that are in order, merged. -/
theorem merge_f : ∀ (f : Nat) (X Y A B : List Nd) (a m b : Int) (z : Bool) (k : Nat), X.length + Y.length ≤ f → X ≠ [] → Y ≠ [] → a = A.length → m = a + X.length → b = m + Y.length → A.length + X.length + Y.length + B.length ≤ 400000 → 40 * f + 40 ≤ k → Up X → Up Y →
    ∃ Z, api_Node_88.f k (A ++ X ++ Y ++ B) a m b z = some (A ++ Z ++ B) ∧ Up Z ∧ Same Z (X ++ Y) ∧ Z.length = X.length + Y.length := by
  intro f
  induction f using Nat.strongRecOn with
  | _ f ih =>
    intro X Y A B a m b z k hf hXn hYn ha hm hb hz hk hX hY
    have lX : X.length ≠ 0 := fun e => hXn (List.eq_nil_of_length_eq_zero e)
    have lY : Y.length ≠ 0 := fun e => hYn (List.eq_nil_of_length_eq_zero e)
    obtain ⟨k, rfl⟩ : ∃ m, k = m + 1 := ⟨k - 1, by omega⟩
    rw [api_Node_88.f, show wrap64 (m - a) = m - a from wrap_in (by omega) (by omega), show wrap64 (b - m) = b - m from wrap_in (by omega) (by omega)]
    by_cases e1 : m - a = 1
    · rw [if_pos e1]
      obtain ⟨x, rfl⟩ : ∃ x, X = [x] := List.length_eq_one_iff.1 (by omega)
      simp only [List.length_cons, List.length_nil] at hm hf hz
      obtain ⟨Z, h1, h2, h3, h4⟩ := sm0_f A Y B x a b ha (by omega) (by omega) k (by omega) hY
      refine ⟨Z, ?_, h2, by simpa using h3, by rw [h4]; rfl⟩
      rw [show m = a + 1 by omega, ← h1]
      simp
    rw [if_neg e1]
    by_cases e2 : b - m = 1
    · rw [if_pos e2]
      obtain ⟨y, rfl⟩ : ∃ y, Y = [y] := List.length_eq_one_iff.1 (by omega)
      simp only [List.length_cons, List.length_nil] at hb hf hz
      obtain ⟨Z, h1, h2, h3, h4⟩ := sm2_f A X B y a m ha hm (by omega) k (by omega) hX
      refine ⟨Z, ?_, h2, h3, h4⟩
      rw [← h1]
      simp
    rw [if_neg e2, mid_ (by omega) (by omega) (by omega) (by omega), show wrap64 ((a + b) / 2 + m) = (a + b) / 2 + m from wrap_in (by omega) (by omega), show wrap64 ((a + b) / 2 + m - b) = (a + b) / 2 + m - b from wrap_in (by omega) (by omega)]
    generalize hmid : (a + b) / 2 = mid
    obtain ⟨k, rfl⟩ : ∃ m, k = m + 1 := ⟨k - 1, by omega⟩
    have hlen : (A ++ X ++ Y ++ B).length = A.length + X.length + Y.length + B.length := by simp; omega
    have key : ∀ lo r0 : Int, a ≤ lo → lo ≤ r0 → r0 ≤ m → r0 ≤ mid → mid + m - b ≤ lo → (r0 = mid ∨ r0 = m) → (lo = a ∨ lo = mid + m - b) →
        ∃ Z, api_Node_88.j4 (k + 1) (A ++ X ++ Y ++ B) a m b z mid (mid + m) lo r0 = some (A ++ Z ++ B) ∧ Up Z ∧ Same Z (X ++ Y) ∧ Z.length = X.length + Y.length := by
      intro lo r0 g1 g2 g3 g4 g5 g6 g7
      rw [api_Node_88.j4, show wrap64 (mid + m - 1) = mid + m - 1 from wrap_in (by omega) (by omega)]
      obtain ⟨c, k', q1, q2, q3, q4, q5, q6⟩ := search_ (A ++ X ++ Y ++ B) a m b mid (mid + m) (mid + m - 1) lo r0 z (by rw [hlen]; omega) (by omega) g1 g3 (by omega) (by rw [hlen]; omega) rfl rfl (by omega) (fun c c1 c2 => by omega)
        (fun i j i1 i2 i3 => by rw [show A ++ X ++ Y ++ B = A ++ X ++ (Y ++ B) by simp]; exact up_idx A X (Y ++ B) hX i j (by omega) i2 (by omega))
        (fun i j i1 i2 i3 => up_idx (A ++ X) Y B hY i j (by rw [List.length_append]; omega) i2 (by rw [List.length_append]; omega)) f lo r0 k (by omega) (by omega) (by omega) g2 (by omega) (fun c c1 c2 => by omega) (fun c c1 c2 => by omega)
      rw [q1]
      obtain ⟨k', rfl⟩ : ∃ m, k' = m + 3 := ⟨k' - 3, by omega⟩
      obtain ⟨X1, X2, hXe, hX1⟩ : ∃ X1 X2, X = X1 ++ X2 ∧ (X1.length : Int) = c - a := ⟨X.take (c - a).toNat, X.drop (c - a).toNat, (List.take_append_drop ..).symm, by rw [List.length_take]; omega⟩
      obtain ⟨Y1, Y2, hYe, hY1⟩ : ∃ Y1 Y2, Y = Y1 ++ Y2 ∧ (Y1.length : Int) = mid - c := ⟨Y.take (mid - c).toNat, Y.drop (mid - c).toNat, (List.take_append_drop ..).symm, by rw [List.length_take]; omega⟩
      have lX2 : (X2.length : Int) = m - c := by have := congrArg List.length hXe; rw [List.length_append] at this; omega
      have lY2 : (Y2.length : Int) = b - (mid + m - c) := by have := congrArg List.length hYe; rw [List.length_append] at this; omega
      have hX' := hX
      have hY' := hY
      rw [hXe] at hX'
      rw [hYe] at hY'
      have cross : ∀ x ∈ X2, ∀ y ∈ Y1, lt y x = true := by
        intro x hx y hy
        have n2 := List.length_pos_of_mem hx
        have n1 := List.length_pos_of_mem hy
        have h6 := q6 c (by omega) (by omega)
        rw [show A ++ X ++ Y ++ B = (A ++ X) ++ Y1 ++ (Y2 ++ B) by rw [hYe]; simp, rd_at (A ++ X) Y1 (Y2 ++ B) _ (Y1.length - 1) (by omega) (by rw [List.length_append]; omega),
          show (A ++ X) ++ Y1 ++ (Y2 ++ B) = (A ++ X1) ++ X2 ++ (Y1 ++ Y2 ++ B) by rw [hXe]; simp, rd_at (A ++ X1) X2 (Y1 ++ Y2 ++ B) c 0 (by omega) (by rw [List.length_append]; omega)] at h6
        obtain ⟨i, hi, rfl⟩ := List.mem_iff_getElem.1 hx
        obtain ⟨j, hj, rfl⟩ := List.mem_iff_getElem.1 hy
        exact le_lt (up_at (up_left hY') (i := j) (j := Y1.length - 1) (by omega) (by omega)) (lt_le h6 (up_at (up_right hX') (i := 0) (j := i) (by omega) hi))
      have low : ∀ x ∈ X1, ∀ y ∈ Y2, lt y x = false := by
        intro x hx y hy
        have n2 := List.length_pos_of_mem hx
        have n1 := List.length_pos_of_mem hy
        have h5 := q5 (c - 1) (by omega) (by omega)
        rw [show A ++ X ++ Y ++ B = (A ++ X ++ Y1) ++ Y2 ++ B by rw [hYe]; simp, rd_at (A ++ X ++ Y1) Y2 B _ 0 (by omega) (by rw [List.length_append, List.length_append]; omega),
          show (A ++ X ++ Y1) ++ Y2 ++ B = A ++ X1 ++ (X2 ++ Y1 ++ Y2 ++ B) by rw [hXe]; simp, rd_at A X1 (X2 ++ Y1 ++ Y2 ++ B) (c - 1) (X1.length - 1) (by omega) (by omega)] at h5
        obtain ⟨i, hi, rfl⟩ := List.mem_iff_getElem.1 hx
        obtain ⟨j, hj, rfl⟩ := List.mem_iff_getElem.1 hy
        exact le_trans (up_at (up_left hX') (i := i) (j := X1.length - 1) (by omega) (by omega)) (le_trans h5 (up_at (up_right hY') (i := 0) (j := j) (by omega) hj))
      -- the exchange, where there is one
      have turn : api_Node_88.j6 (k' + 3) (A ++ X ++ Y ++ B) a m b z mid c (mid + m - c) (decide (c < m ∧ m < mid + m - c)) = api_Node_88.j7 (k' + 2) (A ++ X1 ++ Y1 ++ X2 ++ Y2 ++ B) a b z mid c (mid + m - c) := by
        rw [api_Node_88.j6]
        by_cases e : c < m ∧ m < mid + m - c
        · rw [decide_eq_true e, if_pos rfl, show A ++ X ++ Y ++ B = (A ++ X1) ++ X2 ++ Y1 ++ (Y2 ++ B) by rw [hXe, hYe]; simp, rot_f (A ++ X1) X2 Y1 (Y2 ++ B) (fun e' => by rw [e'] at lX2; simp at lX2; omega) (fun e' => by rw [e'] at hY1; simp at hY1; omega) c m (mid + m - c) z (k' + 2) (by rw [List.length_append]; omega) (by rw [List.length_append]; omega) (by rw [List.length_append]; omega) (by rw [List.length_append, List.length_append]; omega) (by omega), some_bind]
          simp
        · rw [decide_eq_false e, if_neg (by simp)]
          have : X2 ++ Y1 = Y1 ++ X2 := by
            by_cases e' : X2.length = 0
            · rw [List.eq_nil_of_length_eq_zero e']; simp
            · have : Y1 = [] := List.eq_nil_of_length_eq_zero (by omega)
              rw [this]; simp
          rw [show A ++ X ++ Y ++ B = A ++ X1 ++ (X2 ++ Y1) ++ Y2 ++ B by rw [hXe, hYe]; simp, this]
          simp
      rw [turn]
      have same : Same (X1 ++ Y1 ++ X2 ++ Y2) (X ++ Y) := by
        rw [hXe, hYe]
        have := same_turn X1 X2 Y1 Y2 (fun x hx y hy => fun h => lt_ne (cross x hx y hy) h.symm)
        simpa using this
      -- the left half, and the right one
      have left : ∃ ZL, Up ZL ∧ Same ZL (X1 ++ Y1) ∧ ZL.length = X1.length + Y1.length ∧ ((a < c ∧ c < mid → api_Node_88.f k' (A ++ X1 ++ Y1 ++ X2 ++ Y2 ++ B) a c mid z = some (A ++ ZL ++ X2 ++ Y2 ++ B)) ∧ (¬ (a < c ∧ c < mid) → ZL = X1 ++ Y1)) := by
        by_cases e : a < c ∧ c < mid
        · obtain ⟨ZL, z1, z2, z3, z4⟩ := ih (X1.length + Y1.length) (by omega) X1 Y1 A (X2 ++ Y2 ++ B) a c mid z k' (Nat.le_refl _) (fun e' => by rw [e'] at hX1; simp at hX1; omega) (fun e' => by rw [e'] at hY1; simp at hY1; omega) ha (by omega) (by omega) (by rw [List.length_append, List.length_append]; omega) (by omega) (up_left hX') (up_left hY')
          refine ⟨ZL, z2, z3, z4, fun _ => ?_, fun h => absurd e h⟩
          rw [show A ++ X1 ++ Y1 ++ X2 ++ Y2 ++ B = A ++ X1 ++ Y1 ++ (X2 ++ Y2 ++ B) by simp, z1]
          simp
        · refine ⟨X1 ++ Y1, ?_, Same.refl _, by simp, fun h => absurd h e, fun _ => rfl⟩
          by_cases e' : X1.length = 0
          · rw [List.eq_nil_of_length_eq_zero e']; exact up_left hY'
          · have : Y1 = [] := List.eq_nil_of_length_eq_zero (by omega)
            rw [this, List.append_nil]; exact up_left hX'
      obtain ⟨ZL, l1, l2, l3, l4, l5⟩ := left
      have right : ∃ ZR, Up ZR ∧ Same ZR (X2 ++ Y2) ∧ ZR.length = X2.length + Y2.length ∧ ((mid < mid + m - c ∧ mid + m - c < b → api_Node_88.f k' (A ++ ZL ++ X2 ++ Y2 ++ B) mid (mid + m - c) b z = some (A ++ ZL ++ ZR ++ B)) ∧ (¬ (mid < mid + m - c ∧ mid + m - c < b) → ZR = X2 ++ Y2)) := by
        by_cases e : mid < mid + m - c ∧ mid + m - c < b
        · obtain ⟨ZR, z1, z2, z3, z4⟩ := ih (X2.length + Y2.length) (by omega) X2 Y2 (A ++ ZL) B mid (mid + m - c) b z k' (Nat.le_refl _) (fun e' => by rw [e'] at lX2; simp at lX2; omega) (fun e' => by rw [e'] at lY2; simp at lY2; omega) (by rw [List.length_append]; omega) (by omega) (by omega) (by rw [List.length_append]; omega) (by omega) (up_right hX') (up_right hY')
          exact ⟨ZR, z2, z3, z4, fun _ => z1, fun h => absurd e h⟩
        · refine ⟨X2 ++ Y2, ?_, Same.refl _, by simp, fun h => absurd h e, fun _ => rfl⟩
          by_cases e' : X2.length = 0
          · rw [List.eq_nil_of_length_eq_zero e']; exact up_right hY'
          · have : Y2 = [] := List.eq_nil_of_length_eq_zero (by omega)
            rw [this, List.append_nil]; exact up_right hX'
      obtain ⟨ZR, r1, r2, r3, r4, r5⟩ := right
      have hup : Up (ZL ++ ZR) := up_join l1 r1 fun p hp r hr => by
        rcases List.mem_append.1 (l2.mem hp) with hp | hp <;> rcases List.mem_append.1 (r2.mem hr) with hr | hr
        · exact up_cross hX' hp hr
        · exact low p hp r hr
        · exact lt_not (cross r hr p hp)
        · exact up_cross hY' hp hr
      have hsame : Same (ZL ++ ZR) (X ++ Y) := by
        refine Same.trans (fun p => ?_) same
        simp only [List.filter_append, l2 p, r2 p, List.append_assoc]
      refine ⟨ZL ++ ZR, ?_, hup, hsame, by rw [List.length_append, l3, r3]; omega⟩
      have fin : (if mid < mid + m - c then (if mid + m - c < b then ((api_Node_88.f k' (A ++ ZL ++ X2 ++ Y2 ++ B) mid (mid + m - c) b z).bind fun t => some t) else some (A ++ ZL ++ X2 ++ Y2 ++ B)) else some (A ++ ZL ++ X2 ++ Y2 ++ B)) = some (A ++ (ZL ++ ZR) ++ B) := by
        by_cases e : mid < mid + m - c ∧ mid + m - c < b
        · rw [if_pos e.1, if_pos e.2, r4 e, some_bind]; simp
        · have h := r5 e
          subst h
          by_cases e' : mid < mid + m - c
          · rw [if_pos e', if_neg (fun h => e ⟨e', h⟩)]; simp
          · rw [if_neg e']; simp
      rw [api_Node_88.j7]
      by_cases e : a < c ∧ c < mid
      · rw [if_pos e.1, decide_eq_true e.2, api_Node_88.j8, if_pos rfl, l4 e, some_bind]
        exact fin
      · have h := l5 e
        rw [h] at fin
        have j8f : api_Node_88.j8 (k' + 1) (A ++ X1 ++ Y1 ++ X2 ++ Y2 ++ B) a b z mid c (mid + m - c) false = some (A ++ (ZL ++ ZR) ++ B) := by
          rw [api_Node_88.j8, if_neg (by simp), h, ← fin]
          simp only [List.append_assoc]
        by_cases e' : a < c
        · rw [if_pos e', decide_eq_false (fun h => e ⟨e', h⟩)]; exact j8f
        · rw [if_neg e']; exact j8f
    by_cases e3 : m > mid
    · rw [if_pos e3]
      exact key (mid + m - b) mid (by omega) (by omega) (by omega) (by omega) (by omega) (.inl rfl) (.inr rfl)
    · rw [if_neg e3]
      exact key a m (by omega) (by omega) (by omega) (by omega) (by omega) (.inr rfl) (.inl rfl)
/-- Blocks that are in order, each of one size but the last. -/
inductive Bk (s : Nat) : List Nd → Prop
  | last (X : List Nd) : X.length ≤ s → Up X → Bk s X
  | more (X R : List Nd) : X.length = s → Up X → Bk s R → Bk s (X ++ R)
theorem st_l0 (N : Nat) (hN : N ≤ 400000) (z : Bool) (K0 : Nat) : ∀ (f : Nat) (D R : List Nd) (a : Int) (k : Nat), R.length ≤ 20 * f → a = D.length → D.length + R.length = N → K0 + 1000 + f ≤ k →
    ∃ R', Bk 20 R' ∧ Same R' R ∧ R'.length = R.length ∧ ∃ k', K0 ≤ k' ∧ api_Node_79.l0 k (D ++ R) (N : Int) z 20 a (a + 20) = api_Node_79.l1 k' (D ++ R') (N : Int) z 20 := by
  intro f
  induction f with
  | zero =>
    intro D R a k hf ha hD hk
    obtain ⟨k, rfl⟩ : ∃ m, k = m + 1 := ⟨k - 1, by omega⟩
    obtain rfl : R = [] := List.eq_nil_of_length_eq_zero (by omega)
    obtain ⟨Z, h1, h2, h3, h4⟩ := insert_f D [] [] a N z k ha (by simp at hD ⊢; omega) (by simp at hD ⊢; omega) (by simp; omega)
    refine ⟨[], .last _ (by simp) List.Pairwise.nil, Same.refl _, rfl, k, by omega, ?_⟩
    have hZ : Z = [] := List.eq_nil_of_length_eq_zero (by simpa using h4)
    subst hZ
    simp only [List.append_nil, List.length_nil] at h1 hD ⊢
    rw [api_Node_79.l0, if_neg (by omega), h1, some_bind]
  | succ f ih =>
    intro D R a k hf ha hD hk
    obtain ⟨k, rfl⟩ : ∃ m, k = m + 1 := ⟨k - 1, by omega⟩
    rw [api_Node_79.l0]
    by_cases h : a + 20 ≤ (N : Int)
    · obtain ⟨X, T, rfl, hX⟩ : ∃ X T, R = X ++ T ∧ X.length = 20 := ⟨R.take 20, R.drop 20, (List.take_append_drop ..).symm, by rw [List.length_take]; omega⟩
      rw [List.length_append] at hf hD
      obtain ⟨Z, h1, h2, h3, h4⟩ := insert_f D X T a (a + 20) z k ha (by omega) (by omega) (by rw [hX]; omega)
      obtain ⟨T', t1, t2, t3, k', t4, t5⟩ := ih (D ++ Z) T (a + 20) k (by omega) (by rw [List.length_append]; omega) (by rw [List.length_append]; omega) (by omega)
      refine ⟨Z ++ T', .more Z T' (by omega) h2 t1, fun p => by simp only [List.filter_append, h3 p, t2 p], by rw [List.length_append, List.length_append, h4, t3], k', t4, ?_⟩
      rw [if_pos h, ← List.append_assoc, h1, some_bind, show wrap64 (a + 20 + 20) = a + 20 + 20 from wrap_in (by omega) (by omega), t5, List.append_assoc]
    · obtain ⟨Z, h1, h2, h3, h4⟩ := insert_f D R [] a N z k ha (by omega) (by simp; omega) (by
        have : R.length ≤ 19 := by omega
        exact Nat.le_trans (Nat.mul_le_mul (show R.length + 1 ≤ 20 by omega) (show R.length + 3 ≤ 22 by omega)) (by omega))
      rw [List.append_nil] at h1
      refine ⟨Z, .last _ (by omega) h2, h3, h4, k, by omega, ?_⟩
      rw [if_neg h, h1, some_bind, List.append_nil]
theorem Bk.inv {s : Nat} {R : List Nd} (h : Bk s R) (hR : s < R.length) : ∃ X T, R = X ++ T ∧ X.length = s ∧ Up X ∧ Bk s T := by
  cases h with
  | last X h1 h2 => omega
  | more X T h1 h2 h3 => exact ⟨X, T, rfl, h1, h2, h3⟩
theorem Bk.small {s : Nat} {R : List Nd} (h : Bk s R) (hR : R.length ≤ s) (hs : 0 < s) : Up R := by
  induction h with
  | last X h1 h2 => exact h2
  | more X T h1 h2 h3 ih =>
    rw [List.length_append] at hR
    have : T = [] := List.eq_nil_of_length_eq_zero (by omega)
    rw [this, List.append_nil]; exact h2
theorem st_l2 (N s : Nat) (hN : N ≤ 400000) (hs : 0 < s) (hsN : s ≤ 400000) (z : Bool) (K0 : Nat) : ∀ (f : Nat) (D R : List Nd) (a : Int) (k : Nat), R.length ≤ f → a = D.length → D.length + R.length = N → K0 + 40 * N + 100 + f ≤ k → Bk s R →
    ∃ R', Bk (2 * s) R' ∧ Same R' R ∧ R'.length = R.length ∧ ∃ k', K0 ≤ k' ∧ api_Node_79.l2 k (D ++ R) (N : Int) z (s : Int) a (a + 2 * s) = api_Node_79.l1 k' (D ++ R') (N : Int) z (wrap64 ((s : Int) * 2)) := by
  intro f
  induction f using Nat.strongRecOn with
  | _ f ih =>
    intro D R a k hf ha hD hk hB
    obtain ⟨k, rfl⟩ : ∃ m, k = m + 1 := ⟨k - 1, by omega⟩
    rw [api_Node_79.l2, show wrap64 (a + s) = a + s from wrap_in (by omega) (by omega)]
    by_cases h : a + 2 * (s : Int) ≤ (N : Int)
    · obtain ⟨X, T, rfl, hX, uX, bT⟩ := hB.inv (by omega)
      rw [List.length_append] at hf hD
      obtain ⟨Y, T2, rfl, hY, uY, bT2⟩ : ∃ Y T2, T = Y ++ T2 ∧ Y.length = s ∧ Up Y ∧ Bk s T2 := by
        by_cases e : s < T.length
        · exact bT.inv e
        · exact ⟨T, [], by simp, by omega, bT.small (by omega) hs, .last _ (by simp) List.Pairwise.nil⟩
      rw [List.length_append] at hf hD
      obtain ⟨Z, h1, h2, h3, h4⟩ := merge_f (2 * s) X Y D T2 a (a + s) (a + 2 * s) z k (by omega) (fun e => by rw [e] at hX; simp at hX; omega) (fun e => by rw [e] at hY; simp at hY; omega) ha (by omega) (by omega) (by omega) (by omega) uX uY
      obtain ⟨T', t1, t2, t3, k', t4, t5⟩ := ih (T2.length) (by omega) (D ++ Z) T2 (a + 2 * s) k (Nat.le_refl _) (by rw [List.length_append]; omega) (by rw [List.length_append]; omega) (by omega) bT2
      refine ⟨Z ++ T', .more Z T' (by omega) h2 t1, fun p => by simp only [List.filter_append, h3 p, t2 p, List.append_assoc], by simp only [List.length_append]; omega, k', t4, ?_⟩
      rw [if_pos h, show D ++ (X ++ (Y ++ T2)) = D ++ X ++ Y ++ T2 by simp, h1, some_bind, show wrap64 (2 * (s : Int)) = 2 * s from wrap_in (by omega) (by omega), show wrap64 (a + 2 * (s : Int) + 2 * s) = a + 2 * s + 2 * s from wrap_in (by omega) (by omega), t5, List.append_assoc]
    · rw [if_neg h]
      by_cases h' : a + (s : Int) < (N : Int)
      · obtain ⟨X, T, rfl, hX, uX, bT⟩ := hB.inv (by omega)
        rw [List.length_append] at hf hD
        obtain ⟨Z, h1, h2, h3, h4⟩ := merge_f N X T D [] a (a + s) N z k (by omega) (fun e => by rw [e] at hX; simp at hX; omega) (fun e => by rw [e] at hD; simp at hD; omega) ha (by omega) (by omega) (by simp; omega) (by omega) uX (bT.small (by omega) hs)
        rw [List.append_nil] at h1
        refine ⟨Z, .last _ (by omega) h2, h3, by rw [h4, List.length_append], k, by omega, ?_⟩
        rw [if_pos h', ← List.append_assoc, h1, some_bind, List.append_nil]
      · refine ⟨R, .last _ (by omega) (hB.small (by omega) hs), Same.refl _, rfl, k, by omega, ?_⟩
        rw [if_neg h']
theorem st_l1 (N : Nat) (hN : N ≤ 400000) (z : Bool) : ∀ (f s : Nat) (R : List Nd) (k : Nat), 0 < s → s ≤ 400000 → N ≤ s * 2 ^ f → R.length = N → (f + 1) * (42 * N + 200) ≤ k → Bk s R →
    ∃ Z, api_Node_79.l1 k R (N : Int) z (s : Int) = some Z ∧ Up Z ∧ Same Z R ∧ Z.length = N := by
  intro f
  induction f with
  | zero =>
    intro s R k hs hs4 hf hR hk hB
    obtain ⟨k, rfl⟩ : ∃ m, k = m + 1 := ⟨k - 1, by omega⟩
    refine ⟨R, ?_, hB.small (by omega) hs, Same.refl _, hR⟩
    rw [api_Node_79.l1, if_neg (by omega)]
  | succ f ih =>
    intro s R k hs hs4 hf hR hk hB
    have hk2 : (f + 1 + 1) * (42 * N + 200) = (f + 1) * (42 * N + 200) + (42 * N + 200) := by rw [Nat.add_mul, Nat.one_mul]
    have hp : s * 2 ^ (f + 1) = 2 * s * 2 ^ f := by rw [Nat.pow_succ, Nat.mul_comm (2 ^ f) 2, ← Nat.mul_assoc, Nat.mul_comm s 2]
    obtain ⟨k, rfl⟩ : ∃ m, k = m + 1 := ⟨k - 1, by omega⟩
    rw [api_Node_79.l1]
    by_cases h : (s : Int) < (N : Int)
    · obtain ⟨R', r1, r2, r3, k', r4, r5⟩ := st_l2 N s hN hs hs4 z ((f + 1) * (42 * N + 200)) N [] R 0 k (by omega) rfl (by simpa using hR) (by omega) hB
      simp only [List.nil_append] at r5
      rw [if_pos h, show wrap64 (2 * (s : Int)) = 0 + 2 * s by rw [wrap_in (by omega) (by omega)]; omega, r5, show wrap64 ((s : Int) * 2) = ((2 * s : Nat) : Int) by rw [wrap_in (by omega) (by omega)]; omega]
      by_cases h4 : 2 * s ≤ 400000
      · obtain ⟨Z, z1, z2, z3, z4⟩ := ih (2 * s) R' k' (by omega) h4 (by omega) (by omega) r4 r1
        exact ⟨Z, z1, z2, z3.trans r2, z4⟩
      · have e0 : k' ≠ 0 := by
          intro e
          rw [e] at r4
          have : 0 < (f + 1) * (42 * N + 200) := Nat.mul_pos (by omega) (by omega)
          omega
        obtain ⟨k', rfl⟩ : ∃ m, k' = m + 1 := ⟨k' - 1, by omega⟩
        refine ⟨R', ?_, r1.small (by omega) (by omega), r2, by omega⟩
        rw [api_Node_79.l1, if_neg (by omega)]
    · refine ⟨R, ?_, hB.small (by omega) hs, Same.refl _, hR⟩
      rw [if_neg h]
/-- tree.Sort: in order, and at each path the same nodes, in the same order. -/
theorem sort_f (t : List Nd) (hl : t.length ≤ 400000) (K : Nat) (hK : 1000000000 ≤ K) : ∃ Z, tree_Sort.f K t = some Z ∧ Up Z ∧ Same Z t ∧ Z.length = t.length := by
  unfold tree_Sort.f api_Node_47.f api_Node_67.f api_Node_79.f
  obtain ⟨R', r1, r2, r3, k', r4, r5⟩ := st_l0 t.length hl true 900000000 t.length [] t 0 K (by omega) rfl (by simp) (by omega)
  obtain ⟨Z, z1, z2, z3, z4⟩ := st_l1 t.length hl true 15 20 R' k' (by omega) (by omega) (by omega) r3 (by omega) r1
  refine ⟨Z, ?_, z2, z3.trans r2, z4⟩
  simp only [List.nil_append] at r5
  rw [some_bind, if_pos (by simp only [List.length_nil]; omega), some_bind, List.nil_append]
  rw [show ((0 : Int) + 20) = 20 from rfl] at r5
  rw [r5]
  rw [show ((20 : Nat) : Int) = 20 from rfl] at z1
  rw [z1]
  rfl
end Go.Proofs.YtkloomnkpfaijaaDoor.SortAll
/- The plain reference of package tree's Sort comes to what tree.Sort comes to. -/
namespace Go.Proofs.YtkloomnkpfaijaaDoor.SortRef
open Go.RowKit Go.Proofs.YtkloomnkpfaijaaDoorX Go.Proofs.YtkloomnkpfaijaaDoorW.PrintWords Go.Proofs.YtkloomnkpfaijaaDoorW.PrintLast Go.Proofs.YtkloomnkpfaijaaDoorW.PrintMore Go.Proofs.YtkloomnkpfaijaaDoor.P Go.Proofs.YtkloomnkpfaijaaDoor.Pa Go.Proofs.YtkloomnkpfaijaaDoor.PaTh Go.Proofs.YtkloomnkpfaijaaDoor.TreeTh Go.Proofs.YtkloomnkpfaijaaDoor.TreeUp Go.Proofs.YtkloomnkpfaijaaDoor.SortAll
set_option linter.unusedVariables false
set_option linter.unusedSimpArgs false
set_option linter.unusedSectionVars false
/-- One place made free, and filled. -/
theorem copy_set (P R : List Nd) (z y : Nd) (n : Int) (hn : n = P.length) : ∃ t, copyDn ((P ++ R) ++ [z]) n = some t ∧ t.length = P.length + R.length + 1 ∧ t.set n.toNat y = P ++ y :: R := by
  subst hn
  obtain ⟨h, T, hT⟩ : ∃ h T, R ++ [z] = h :: T := by
    cases R with
    | nil => exact ⟨z, [], rfl⟩
    | cons a R => exact ⟨a, R ++ [z], rfl⟩
  have hlT : T.length = R.length := by
    have := congrArg List.length hT
    simp only [List.length_append, List.length_cons, List.length_nil] at this
    omega
  have hlen : ((P ++ R) ++ [z]).length = P.length + R.length + 1 := by simp only [List.length_append, List.length_cons, List.length_nil]
  have htk : ((P ++ R) ++ [z]).take (P.length + 1) = P ++ [h] := by
    rw [List.append_assoc, hT, List.take_append, List.take_of_length_le (by omega), show P.length + 1 - P.length = 1 by omega]
    rfl
  have hdr : ((P ++ R) ++ [z]).drop P.length = R ++ [z] := by rw [List.append_assoc]; exact List.drop_left
  have hR : (R ++ [z]).take (P.length + R.length + 1 - (P.length + 1)) = R := by
    rw [show P.length + R.length + 1 - (P.length + 1) = R.length by omega]
    exact List.take_left
  refine ⟨(P ++ [h]) ++ R, ?_, ?_, ?_⟩
  · unfold copyDn
    rw [Int.toNat_natCast, if_pos (by rw [hlen]; omega), htk, hdr, hlen, hR]
  · simp only [List.length_append, List.length_cons, List.length_nil]; omega
  · rw [Int.toNat_natCast, List.append_assoc]
    exact set_mid P h R y
section
variable {t : List Nd} (ht : t.length ≤ 1000)
include ht
theorem step_ {i : Nat} (hi : i < t.length) (P R : List Nd) (hlen : P.length + R.length = i) (hU : Up (P ++ R)) (hS : Same (P ++ R) (t.take i)) (hp : ∀ p ∈ P, lt (at_ t i) p = false) (hr : ∀ r ∈ R, lt (at_ t i) r = true) :
    (P ++ at_ t i :: R).length = i + 1 ∧ Up (P ++ at_ t i :: R) ∧ Same (P ++ at_ t i :: R) (t.take (i + 1)) := by
  refine ⟨by simp only [List.length_append, List.length_cons]; omega, up_mid hU hp (fun r h => lt_not (hr r h)), ?_⟩
  have h1 := same_turn P R [at_ t i] [] (fun x hx y hy => by
    rw [List.mem_singleton] at hy
    subst hy
    exact fun e => lt_ne (hr x hx) e.symm)
  have h2 : Same ((P ++ R) ++ [at_ t i]) (t.take i ++ [at_ t i]) := by
    have := hS.frame [] [at_ t i]
    simpa using this
  have h3 : t.take (i + 1) = t.take i ++ [at_ t i] := by
    rw [at_lt t i hi, List.take_add_one, List.getElem?_eq_getElem hi]
    rfl
  rw [h3]
  refine Same.trans ?_ h2
  simpa using h1
theorem ref_l1 {i : Nat} (hi : i < t.length) (K0 : Nat) (hnext : ∀ (acc : List Nd) (k : Nat), K0 ≤ k → acc.length = i + 1 → Up acc → Same acc (t.take (i + 1)) → ∃ Z, hogsheadref2_Sort.l0 k t acc ((i + 1 : Nat) : Int) = some Z ∧ Up Z ∧ Same Z t) :
    ∀ (n : Nat) (P R : List Nd) (k : Nat), P.length = n → P.length + R.length = i → Up (P ++ R) → Same (P ++ R) (t.take i) → (∀ r ∈ R, lt (at_ t i) r = true) → K0 + n + 1 ≤ k →
      ∃ Z, hogsheadref2_Sort.l1 k t (P ++ R) (i : Int) (n : Int) = some Z ∧ Up Z ∧ Same Z t := by
  intro n
  induction n with
  | zero =>
    intro P R k hP hlen hU hS hr hk
    obtain ⟨k, rfl⟩ : ∃ m, k = m + 1 := ⟨k - 1, by omega⟩
    obtain rfl := List.eq_nil_of_length_eq_zero hP
    obtain ⟨s1, s2, s3⟩ := step_ ht hi [] R hlen hU hS (by simp) hr
    obtain ⟨t', e1, e2, e3⟩ := copy_set [] R (⟨(⟨#[]⟩ : ByteArray), 0, (⟨#[]⟩ : ByteArray)⟩ : Nd) (at_ t i) ((0 : Nat) : Int) (by simp)
    have hyl : ((([] : List Nd) ++ R) ++ [(⟨(⟨#[]⟩ : ByteArray), 0, (⟨#[]⟩ : ByteArray)⟩ : Nd)]).length = i + 1 := by simp only [List.length_append, List.length_cons, List.length_nil] at hlen ⊢; omega
    have hRl : (([] : List Nd) ++ R).length = i := by simp only [List.length_append, List.length_nil] at hlen ⊢; omega
    rw [hogsheadref2_Sort.l1, if_neg (by simp), if_pos (by rw [hRl]; omega), some_bind, show wrap64 (((0 : Nat) : Int) + 1) = 1 from wrap_in (by omega) (by omega), if_pos (by omega), if_pos (by rw [hyl]; omega), if_pos (by omega), if_pos (by omega), e1, some_bind, if_pos (by omega), if_pos (by omega), if_pos (by rw [hyl]; omega), rdN, w_one i (by omega)]
    rw [show t'.set (((0 : Nat) : Int)).toNat (⟨(at_ t i).f0, (at_ t i).f1, (at_ t i).f2⟩ : Nd) = [] ++ at_ t i :: R from e3]
    exact hnext _ k (by omega) s1 s2 s3
  | succ n ih =>
    intro P R k hP hlen hU hS hr hk
    obtain ⟨k, rfl⟩ : ∃ m, k = m + 1 := ⟨k - 1, by omega⟩
    obtain ⟨P', p, rfl⟩ : ∃ P' p, P = P' ++ [p] := ⟨P.dropLast, P.getLast (by intro e; rw [e] at hP; simp at hP), (List.dropLast_concat_getLast _).symm⟩
    have hP' : P'.length = n := by simpa using hP
    have hacc : (P' ++ [p]) ++ R = P' ++ p :: R := by simp
    have hl1 : ((P' ++ [p]) ++ R).length = i := by rw [List.length_append]; exact hlen
    have hn1 : n + 1 ≤ i := by omega
    have hw : wrap64 (((n + 1 : Nat) : Int) - 1) = (n : Int) := by rw [wrap_in (by omega) (by omega)]; omega
    have hrd : rd_T31 ((P' ++ [p]) ++ R) (n : Int) = p := by rw [hacc]; exact rd_mid P' p R _ (by omega)
    rw [hogsheadref2_Sort.l1, if_pos (by omega), hw, if_pos (by omega), if_pos (by rw [hl1]; omega), if_pos (by omega), if_pos (by omega), hrd, rdN, toL, toL]
    by_cases hlt : lt (at_ t i) p = true
    · rw [if_pos (show Op.bytesLess (L (at_ t i).f0) (L p.f0) = true from hlt), hacc]
      exact ih P' (p :: R) k hP' (by simp only [List.length_append, List.length_cons, List.length_nil] at hlen ⊢; omega) (by rw [← hacc]; exact hU) (by rw [← hacc]; exact hS) (fun r h => by
        rcases List.mem_cons.1 h with e | e
        · subst e; exact hlt
        · exact hr r e) (by omega)
    · rw [Bool.not_eq_true] at hlt
      have hall : ∀ q ∈ P' ++ [p], lt (at_ t i) q = false := by
        intro q hq
        rcases List.mem_append.1 hq with e | e
        · have h1 : lt p q = false := up_cross (up_left hU) e (List.mem_singleton.2 rfl)
          exact le_trans h1 hlt
        · rw [List.mem_singleton] at e
          subst e
          exact hlt
      obtain ⟨s1, s2, s3⟩ := step_ ht hi (P' ++ [p]) R hlen hU hS hall hr
      obtain ⟨t', e1, e2, e3⟩ := copy_set (P' ++ [p]) R (⟨(⟨#[]⟩ : ByteArray), 0, (⟨#[]⟩ : ByteArray)⟩ : Nd) (at_ t i) ((n + 1 : Nat) : Int) (by rw [hP])
      have hyl : (((P' ++ [p]) ++ R) ++ [(⟨(⟨#[]⟩ : ByteArray), 0, (⟨#[]⟩ : ByteArray)⟩ : Nd)]).length = i + 1 := by rw [List.length_append, hl1]; rfl
      rw [if_neg (show ¬ (Op.bytesLess (L (at_ t i).f0) (L p.f0) = true) from fun e => by rw [show Op.bytesLess (L (at_ t i).f0) (L p.f0) = false from hlt] at e; cases e), if_pos (by rw [hl1]; omega), some_bind, w_one (n + 1) (by omega), if_pos (by omega), if_pos (by rw [hyl]; omega), if_pos (by omega), if_pos (by rw [hyl]; omega), e1, some_bind, if_pos (by rw [hyl]; omega), w_one i (by omega)]
      rw [show t'.set (((n + 1 : Nat) : Int)).toNat (⟨(at_ t i).f0, (at_ t i).f1, (at_ t i).f2⟩ : Nd) = (P' ++ [p]) ++ at_ t i :: R from e3]
      exact hnext _ k (by omega) s1 s2 s3
theorem ref_l0 : ∀ (f i : Nat) (acc : List Nd) (k : Nat), i + f = t.length → acc.length = i → Up acc → Same acc (t.take i) → 1 + f * (t.length + 5) ≤ k → ∃ Z, hogsheadref2_Sort.l0 k t acc (i : Int) = some Z ∧ Up Z ∧ Same Z t := by
  intro f
  induction f with
  | zero =>
    intro i acc k hi hl hU hS hk
    obtain ⟨k, rfl⟩ : ∃ m, k = m + 1 := ⟨k - 1, by omega⟩
    rw [hogsheadref2_Sort.l0, if_neg (by omega)]
    rw [List.take_of_length_le (by omega)] at hS
    exact ⟨acc, rfl, hU, hS⟩
  | succ f ih =>
    intro i acc k hi hl hU hS hk
    obtain ⟨k, rfl⟩ : ∃ m, k = m + 1 := ⟨k - 1, by omega⟩
    rw [Nat.succ_mul] at hk
    rw [hogsheadref2_Sort.l0, if_pos (by omega), hl]
    have := ref_l1 ht (show i < t.length by omega) (1 + f * (t.length + 5)) (fun acc' k' hk' hl' hU' hS' => ih (i + 1) acc' k' (by omega) hl' hU' hS' hk') i acc [] k hl (by simpa using hl) (by simpa using hU) (by simpa using hS) (by simp) (by omega)
    simpa using this
/-- Both sorts tell one list. -/
theorem ref_sort (K : Nat) (hK : 1000000000 ≤ K) : ∃ Z, tree_Sort.f K t = some Z ∧ hogsheadref2_Sort.f K t = some Z ∧ Z.length = t.length := by
  obtain ⟨Z, h1, h2, h3, h4⟩ := sort_f t (by omega) K hK
  have hm : t.length * (t.length + 5) ≤ 1000 * 1005 := Nat.mul_le_mul ht (by omega)
  obtain ⟨Z', g1, g2, g3⟩ := ref_l0 ht t.length 0 [] K (by omega) rfl (by unfold Up; exact List.Pairwise.nil) (by rw [List.take_zero]; exact Same.refl _) (by omega)
  have he := up_same Z Z' h2 g2 (h3.trans g3.symm)
  subst he
  exact ⟨Z, h1, g1, h4⟩
end
end Go.Proofs.YtkloomnkpfaijaaDoor.SortRef
/- Grafting: what comes of it, told by its members. -/
namespace Go.Proofs.YtkloomnkpfaijaaDoor.FindGraft
open Go.RowKit Go.Proofs.YtkloomnkpfaijaaDoorX Go.Proofs.YtkloomnkpfaijaaDoorW.PrintWords Go.Proofs.YtkloomnkpfaijaaDoorW.PrintLast Go.Proofs.YtkloomnkpfaijaaDoorW.PrintMore Go.Proofs.YtkloomnkpfaijaaDoor.P Go.Proofs.YtkloomnkpfaijaaDoor.Pa Go.Proofs.YtkloomnkpfaijaaDoor.PaTh Go.Proofs.YtkloomnkpfaijaaDoor.TreeTh Go.Proofs.YtkloomnkpfaijaaDoor.TreeUp Go.Proofs.YtkloomnkpfaijaaDoor.PartsTh Go.Proofs.YtkloomnkpfaijaaDoor.TreeChar Go.Proofs.YtkloomnkpfaijaaDoor.FindTh Go.Proofs.YtkloomnkpfaijaaDoor.FindSub
open Go.Proofs.YtkloomnkpfaijaaDoor.SortAll (Up Same sort_f)
set_option linter.unusedVariables false
set_option linter.unusedSimpArgs false
/-- A path, and one behind it. -/
def jp (p y : List UInt8) : List UInt8 := if y = [] then p else if p = [] then y else p ++ 47 :: y
def outN (p : List UInt8) (n : Nd) : Nd := ⟨mkB (jp p (L n.f0)), n.f1, n.f2⟩
theorem outer_f (p : ByteArray) (n : Nd) (hp : p.size ≤ 1000) (hn : n.f0.size ≤ 1000) : find_place_outer.f p n.f0 n.f1 n.f2 = some ((outN (L p) n).f0, (outN (L p) n).f1, (outN (L p) n).f2) := by
  unfold find_place_outer.f outN jp
  rw [toL, toL]
  by_cases h1 : L n.f0 = []
  · rw [if_pos h1, if_pos h1, mkB_L]
  rw [if_neg h1, if_neg h1]
  by_cases h2 : L p = []
  · rw [if_pos h2, if_pos h2, mkB_L]
  rw [if_neg h2, if_neg h2, if_pos (by omega), if_pos (by rw [size_L (p ++ _), L_append, List.length_append, ← size_L]; show p.size + 1 + _ ≤ _; omega)]
  refine congrArg (fun z => some (z, n.f1, n.f2)) (L_inj ?_)
  rw [L_append, L_append, L_mkB, List.append_assoc]; rfl
theorem eachO_l0 (p : ByteArray) (hp : p.size ≤ 1000) (t : List Nd) (ht : t.length ≤ 1000) (hn : ∀ n ∈ t, n.f0.size ≤ 1000) :
    ∀ (f j k : Nat) (out : List Nd), j + f = t.length → f < k → out.length ≤ j → find_eachOuter.l0 k p out t (t.length : Int) (j : Int) = some (out ++ (t.drop j).map (outN (L p))) := by
  intro f
  induction f with
  | zero =>
    intro j k out hj hk ho
    obtain ⟨k, rfl⟩ : ∃ m, k = m + 1 := ⟨k - 1, by omega⟩
    rw [find_eachOuter.l0, if_neg (by omega), List.drop_of_length_le (by omega), List.map_nil, List.append_nil]
  | succ f ih =>
    intro j k out hj hk ho
    obtain ⟨k, rfl⟩ : ∃ m, k = m + 1 := ⟨k - 1, by omega⟩
    rw [find_eachOuter.l0, if_pos (by omega), if_pos (by omega), if_pos (by omega), rdN, outer_f p _ hp (hn _ (at_mem (by omega))), some_bind, if_pos (by omega), w_one j (by omega), List.drop_eq_getElem_cons (show j < t.length by omega), ← at_lt t j (by omega), List.map_cons]
    have := ih (j + 1) k (out ++ [outN (L p) (at_ t j)]) (by omega) (by omega) (by simp; omega)
    rw [List.append_assoc] at this
    exact this
theorem eachO_f (p : ByteArray) (hp : p.size ≤ 1000) (t : List Nd) (ht : t.length ≤ 1000) (hn : ∀ n ∈ t, n.f0.size ≤ 1000) (z : Bool) (k : Nat) (hk : 1001 ≤ k) : find_eachOuter.f k t p z = some (t.map (outN (L p))) := by
  unfold find_eachOuter.f
  have := eachO_l0 p hp t ht hn t.length 0 k [] (by omega) (by omega) (by simp)
  rw [List.drop_zero, List.nil_append] at this
  exact this
theorem look_any {t : List Nd} (hm : mayT t = true) (hl : t.length ≤ 1000) (p : ByteArray) (k : Nat) (hk : 1100 ≤ k) :
    (∃ x ∈ t, L x.f0 = L p ∧ find_Lookup.f k t p = some (x.f0, x.f1, x.f2, true)) ∨ ((∀ x ∈ t, L x.f0 ≠ L p) ∧ ∃ a b c, find_Lookup.f k t p = some (a, b, c, false)) := by
  by_cases h : ∃ x ∈ t, L x.f0 = L p
  · obtain ⟨x, hx, e⟩ := h
    obtain ⟨j, hj, rfl⟩ := mem_at hx
    exact .inl ⟨_, hx, e, look_here hm hl hj p e.symm k hk⟩
  · have h' : ∀ x ∈ t, L x.f0 ≠ L p := fun x hx e => h ⟨x, hx, e⟩
    refine .inr ⟨h', ?_⟩
    unfold find_Lookup.f
    rw [at_f hm hl p k hk, some_bind, idx_none _ t 0 (fun x hx => by unfold isAt; exact decide_eq_false (h' x hx)), if_pos (by omega)]
    exact ⟨_, _, _, rfl⟩
theorem graft_f {t : List Nd} (hm : mayT t = true) (hl : t.length ≤ 100) {s : List Nd} (hs : mayT s = true) (hsl : s.length ≤ 100) (p : ByteArray) (hp : p.size ≤ 300) (K : Nat) (hK : 1000000001 ≤ K) :
    find_Graft.f K t p s = some ([], false) ∨ ∃ Z, find_Graft.f K t p s = some (Z, true) ∧ mayT Z = true ∧ Same Z (t ++ s.map (outN (L p))) ∧ Z.length = t.length + s.length ∧ ∀ x ∈ t, L x.f0 ≠ L p := by
  obtain ⟨K, rfl⟩ : ∃ m, K = m + 1 := ⟨K - 1, by omega⟩
  have hno : ∀ k, find_Graft.j0 (k + 1) t p s true = some ([], false) := fun k => by rw [find_Graft.j0, if_pos rfl]
  unfold find_Graft.f
  have hpar := parent_f p (K + 1) (by omega)
  obtain ⟨⟨q, ok⟩, hq⟩ : ∃ z : ByteArray × Bool, path_Parent.f (K + 1) p = some z := ⟨_, hpar⟩
  rw [hq, some_bind]
  have hlk : ∀ q, ∃ a b c d, find_Lookup.f (K + 1) t q = some (a, b, c, d) := fun q => by
    rcases look_any hm (by omega) q (K + 1) (by omega) with ⟨x, _, _, e⟩ | ⟨_, a, b, c, e⟩
    · exact ⟨_, _, _, _, e⟩
    · exact ⟨a, b, c, false, e⟩
  obtain ⟨a, b, c, d, e1⟩ := hlk q
  show ((find_Lookup.f (K + 1) t q).bind _) = _ ∨ ∃ Z, ((find_Lookup.f (K + 1) t q).bind _) = _ ∧ _
  rw [e1, some_bind]
  rcases look_any hm (by omega) p (K + 1) (by omega) with ⟨x, _, _, e2⟩ | ⟨hnone, a', b', c', e2⟩
  · left
    rw [e2, some_bind]
    show (if ok = true then (if d = true then (if b = 1 then (if true = true then find_Graft.j0 (K + 1) t p s true else _) else find_Graft.j0 (K + 1) t p s true) else find_Graft.j0 (K + 1) t p s true) else find_Graft.j0 (K + 1) t p s true) = _
    rw [if_pos rfl, hno]
    repeat' split
    all_goals rfl
  rw [e2, some_bind]
  show (if ok = true then (if d = true then (if b = 1 then (if false = true then find_Graft.j0 (K + 1) t p s true else ((tree_May.f (K + 1) s).bind fun t328 => (find_Graft.j0 (K + 1) t p s (!t328)))) else find_Graft.j0 (K + 1) t p s true) else find_Graft.j0 (K + 1) t p s true) else find_Graft.j0 (K + 1) t p s true) = _ ∨ ∃ Z, (if ok = true then (if d = true then (if b = 1 then (if false = true then find_Graft.j0 (K + 1) t p s true else ((tree_May.f (K + 1) s).bind fun t328 => (find_Graft.j0 (K + 1) t p s (!t328)))) else find_Graft.j0 (K + 1) t p s true) else find_Graft.j0 (K + 1) t p s true) else find_Graft.j0 (K + 1) t p s true) = _ ∧ _
  by_cases h1 : ok = true
  case neg => rw [if_neg h1, hno]; exact .inl rfl
  rw [if_pos h1]
  by_cases h2 : d = true
  case neg => rw [if_neg h2, hno]; exact .inl rfl
  rw [if_pos h2]
  by_cases h3 : b = 1
  case neg => rw [if_neg h3, hno]; exact .inl rfl
  rw [if_pos h3, if_neg (by simp), mayT_f s (by omega) _ (by omega), some_bind, hs]
  show find_Graft.j0 (K + 1) t p s false = _ ∨ ∃ Z, find_Graft.j0 (K + 1) t p s false = _ ∧ _
  have hcl : api_Node_47.f t = some t := by
    unfold api_Node_47.f
    rw [some_bind, if_pos (by simp; omega)]; rfl
  have hsz : ∀ n ∈ s, n.f0.size ≤ 1000 := fun n hn => by
    have := (goodN_size (((mayT_char s).1 hs).2.2.1 n hn)).1
    rw [← size_L] at this
    omega
  obtain ⟨Z, z1, z2, z3, z4⟩ := sort_f (t ++ s.map (outN (L p))) (by rw [List.length_append, List.length_map]; omega) K (by omega)
  rw [List.length_append, List.length_map] at z4
  rw [find_Graft.j0, if_neg (by simp), hcl, some_bind, eachO_f p (by omega) s (by omega) hsz true K (by omega), some_bind, if_pos (by rw [List.length_map]; omega), z1, some_bind, mayT_f Z (by omega) K (by omega), some_bind]
  by_cases hz : mayT Z = true
  · rw [if_pos hz]; exact .inr ⟨Z, rfl, hz, z3, z4, hnone⟩
  · rw [if_neg hz]; exact .inl rfl
/-! ### its members -/
theorem eq_of_up : ∀ (s t : List Nd), s.Pairwise lt → t.Pairwise lt → (∀ x, x ∈ s ↔ x ∈ t) → s = t
  | [], [], _, _, _ => rfl
  | [], y :: t, _, _, h => absurd ((h y).2 (by simp)) (by simp)
  | x :: s, [], _, _, h => absurd ((h x).1 (by simp)) (by simp)
  | x :: s, y :: t, hs, ht, h => by
    obtain ⟨hs1, hs2⟩ := List.pairwise_cons.1 hs
    obtain ⟨ht1, ht2⟩ := List.pairwise_cons.1 ht
    have hxy : x = y := by
      rcases List.mem_cons.1 ((h x).1 (by simp)) with e | e
      · exact e
      · rcases List.mem_cons.1 ((h y).2 (by simp)) with e' | e'
        · exact e'.symm
        · have a := ht1 x e
          have b := hs1 y e'
          unfold lt at a b
          rw [less_not b] at a
          cases a
    subst hxy
    have irr : ∀ z, lt z z → False := fun z h => by unfold lt at h; rw [less_irr] at h; cases h
    rw [eq_of_up s t hs2 ht2 (fun z => ⟨fun hz => by
      rcases List.mem_cons.1 ((h z).1 (List.mem_cons_of_mem _ hz)) with e | e
      · subst e; exact (irr _ (hs1 _ hz)).elim
      · exact e, fun hz => by
      rcases List.mem_cons.1 ((h z).2 (List.mem_cons_of_mem _ hz)) with e | e
      · subst e; exact (irr _ (ht1 _ hz)).elim
      · exact e⟩)]
/-- Of a tree's node each place above it is a node's, too. -/
theorem above {t : List Nd} (hm : mayT t = true) : ∀ (n : Nat) (m : Nd), m ∈ t → (P (L m.f0)).length ≤ n → ∀ q, q <+: P (L m.f0) → ∃ x ∈ t, P (L x.f0) = q := by
  obtain ⟨_, _, hg, _, _, hpar⟩ := (mayT_char t).1 hm
  intro n
  induction n with
  | zero =>
    intro m hmt hl q hq
    refine ⟨m, hmt, ?_⟩
    have h1 : P (L m.f0) = [] := List.eq_nil_of_length_eq_zero (by omega)
    rw [h1] at hq ⊢
    exact (List.prefix_nil.1 hq).symm
  | succ n ih =>
    intro m hmt hl q hq
    by_cases he : q.length = (P (L m.f0)).length
    · exact ⟨m, hmt, (hq.eq_of_length he).symm⟩
    have hlen := hq.length_le
    have hne : L m.f0 ≠ [] := fun e => by rw [e, P_nil] at he hlen; simp only [List.length_nil] at he hlen; omega
    obtain ⟨y, hy, e1, _⟩ := hpar m hmt hne
    have hP : P (L y.f0) = (P (L m.f0)).dropLast := by rw [e1, P_dir (good_may (hg m hmt)) hne]
    refine ih y hy (by rw [hP, List.length_dropLast]; omega) q ?_
    rw [hP, List.dropLast_eq_take]
    exact List.prefix_of_prefix_length_le hq (List.take_prefix _ _) (by rw [List.length_take]; omega)
section
variable {t s Z : List Nd} {p : List UInt8} (hm : mayT t = true) (hs : mayT s = true) (hZ : mayT Z = true) (hsame : Same Z (t ++ s.map (outN p))) (hno : ∀ x ∈ t, L x.f0 ≠ p)
include hsame in
theorem mem_Z (x : Nd) : x ∈ Z ↔ x ∈ t ∨ ∃ n ∈ s, outN p n = x := by
  constructor
  · intro h
    rcases List.mem_append.1 (hsame.mem h) with h | h
    · exact .inl h
    · exact .inr (List.mem_map.1 h)
  · intro h
    refine hsame.symm.mem (List.mem_append.2 ?_)
    exact h.imp id (fun h => List.mem_map.2 h)
include hs hZ hsame in
theorem may_p : may p = true ∧ ∃ x ∈ Z, L x.f0 = p := by
  obtain ⟨_, _, _, _, ⟨r, hr, e⟩, _⟩ := (mayT_char s).1 hs
  have h : outN p r ∈ Z := (mem_Z hsame _).2 (.inr ⟨r, hr, rfl⟩)
  have e2 : L (outN p r).f0 = p := by
    show jp p (L r.f0) = p
    rw [e]
    exact if_pos rfl
  refine ⟨?_, _, h, e2⟩
  have := good_may (((mayT_char Z).1 hZ).2.2.1 _ h)
  rw [e2] at this
  exact this
theorem P_jp {y : List UInt8} (hp : may p = true) (hy : may y = true) : P (jp p y) = P p ++ P y := by
  unfold jp
  by_cases h1 : y = []
  · rw [if_pos h1, h1, P_nil, List.append_nil]
  rw [if_neg h1]
  by_cases h2 : p = []
  · rw [if_pos h2, h2, P_nil, List.nil_append]
  rw [if_neg h2]
  have h3 : P p ≠ [] := fun e => h2 (P_eq_nil.1 e)
  have h4 : P y ≠ [] := fun e => h1 (P_eq_nil.1 e)
  have : p ++ 47 :: y = J (P p ++ P y) := by rw [J_append h3, T_J h4, J_P, J_P]
  rw [this, P_J ((P_ok hp).append (P_ok hy))]
theorem sub_out {n : Nd} (hp : may p = true) (hn : may (L n.f0) = true) : P p <+: P (L (outN p n).f0) ∧ subN p (outN p n) = n := by
  have h := P_jp hp hn
  refine ⟨⟨_, h.symm⟩, ?_⟩
  show (⟨mkB (rest p (jp p (L n.f0))), n.f1, n.f2⟩ : Nd) = n
  unfold rest
  rw [h, List.drop_left, J_P, mkB_L]
include hm hno in
theorem none_under {m : Nd} (hmt : m ∈ t) : ¬ P p <+: P (L m.f0) := by
  intro h
  obtain ⟨x, hx, e⟩ := above hm _ m hmt (Nat.le_refl _) _ h
  exact hno x hx (P_inj e)
include hm hs hZ hsame hno in
/-- What was grafted is what stands there. -/
theorem graft_sub : subT p Z = s := by
  obtain ⟨hp, x, hx, ex⟩ := may_p hs hZ hsame
  have hsub := subT_tree hZ hx
  rw [ex] at hsub
  refine eq_of_up _ _ ((up_pw _).1 (up_may hsub)) ((up_pw _).1 (up_may hs)) (fun n => ?_)
  have hmem := subT_mem hZ hx (n := n)
  rw [ex] at hmem
  rw [hmem]
  have hg := ((mayT_char s).1 hs).2.2.1
  constructor
  · rintro ⟨m, h1, h2, rfl⟩
    rcases (mem_Z hsame m).1 h1 with h1 | ⟨n, hn, rfl⟩
    · exact absurd h2 (none_under hm hno h1)
    · rw [(sub_out hp (good_may (hg n hn))).2]; exact hn
  · intro hn
    exact ⟨outN p n, (mem_Z hsame _).2 (.inr ⟨n, hn, rfl⟩), (sub_out hp (good_may (hg n hn))).1, (sub_out hp (good_may (hg n hn))).2⟩
end
end Go.Proofs.YtkloomnkpfaijaaDoor.FindGraft
/- hogsheadref3 (Lookup, List, Sub, Graft) beside find: they answer the same, of any nodes. -/
namespace Go.Proofs.YtkloomnkpfaijaaDoor.RefFind
open Go.RowKit Go.Proofs.YtkloomnkpfaijaaDoorX Go.Proofs.YtkloomnkpfaijaaDoorW.PrintWords Go.Proofs.YtkloomnkpfaijaaDoorW.PrintLast Go.Proofs.YtkloomnkpfaijaaDoorW.PrintMore Go.Proofs.YtkloomnkpfaijaaDoor.P Go.Proofs.YtkloomnkpfaijaaDoor.Pa Go.Proofs.YtkloomnkpfaijaaDoor.PaTh Go.Proofs.YtkloomnkpfaijaaDoor.TreeTh Go.Proofs.YtkloomnkpfaijaaDoor.TreeUp Go.Proofs.YtkloomnkpfaijaaDoor.PartsTh Go.Proofs.YtkloomnkpfaijaaDoor.TreeChar Go.Proofs.YtkloomnkpfaijaaDoor.RefTree Go.Proofs.YtkloomnkpfaijaaDoor.FindTh Go.Proofs.YtkloomnkpfaijaaDoor.FindSub Go.Proofs.YtkloomnkpfaijaaDoor.FindGraft
open Go.Proofs.YtkloomnkpfaijaaDoor.SortAll (Up Same sort_f)
open Go.Proofs.YtkloomnkpfaijaaDoor.SortRef (ref_sort)
set_option linter.unusedVariables false
set_option linter.unusedSimpArgs false
theorem over_l0 : ∀ (f j k : Nat) (l : List ByteArray), j + f = l.length → l.length ≤ 1000000 → f < k → hogsheadlaw0_OverTexts.l0 k l (j : Int) = some () := by
  intro f
  induction f with
  | zero =>
    intro j k l hj hl hk
    obtain ⟨k, rfl⟩ : ∃ m, k = m + 1 := ⟨k - 1, by omega⟩
    rw [hogsheadlaw0_OverTexts.l0, if_neg (by omega), if_pos (by omega)]
  | succ f ih =>
    intro j k l hj hl hk
    obtain ⟨k, rfl⟩ : ∃ m, k = m + 1 := ⟨k - 1, by omega⟩
    rw [hogsheadlaw0_OverTexts.l0, if_pos (by omega), if_pos (by omega), w_one j (by omega)]
    exact ih (j + 1) k _ (by rw [List.length_set]; omega) (by rw [List.length_set]; exact hl) (by omega)
theorem over_f (l : List ByteArray) (hl : l.length ≤ 1000) (k : Nat) (hk : 1100 ≤ k) : hogsheadlaw0_OverTexts.f k l = some () := over_l0 l.length 0 k l (by omega) (by omega) (by omega)
theorem refBase_f (a : ByteArray) (k : Nat) (hk : 1400 ≤ k) : hogsheadref1_Base.f k a = some (mkB (if may (L a) then base (L a) else [])) := by
  unfold hogsheadref1_Base.f
  rw [refSplit_f a k (by omega), some_bind]
  by_cases h1 : L a = []
  · rw [h1]; rfl
  cases hm : may (L a)
  · have hs : split (L a) = [] := by unfold split; rw [if_neg h1, hm]; rfl
    rw [hs]; rfl
  · obtain ⟨g1, g2, g3⟩ := may_parts hm h1
    have hn : (cut (L a)).length ≠ 0 := fun e => cut_ne _ (List.eq_nil_of_length_eq_zero e)
    rw [may_ne_split hm h1, List.length_map, if_neg (by omega), wrap_in (by omega) (by omega), if_pos (by omega), if_pos (by omega), if_pos rfl, show ((cut (L a)).length : Int) - 1 = (((cut (L a)).length - 1 : Nat) : Int) by omega, rd_L _ _ (by rw [List.length_map]; omega), List.getElem_map]
    refine congrArg some (congrArg mkB ?_)
    unfold base
    rw [List.getLastD_eq_getLast?, List.getLast?_eq_getElem?, List.getElem?_eq_getElem (by omega)]; rfl
theorem U_at {a b : List UInt8} (h1 : ¬ a = b) (h2 : ¬ b = []) : U a b ↔ ∃ h : b.length < a.length, a.take b.length = b ∧ a[b.length] = 47 := by
  constructor
  · intro h
    rcases h with h | h | ⟨t, rfl⟩
    · exact absurd h h1
    · exact absurd h h2
    · exact ⟨by simp, by simp, by simp⟩
  · rintro ⟨h, e1, e2⟩
    refine .inr (.inr ⟨a.drop (b.length + 1), ?_⟩)
    conv => rhs; rw [← List.take_append_drop b.length a, List.drop_eq_getElem_cons h, e1, e2]
    simp
theorem refUnder_f (a b : ByteArray) (k : Nat) (hk : 1400 ≤ k) : hogsheadref1_Under.f k a b = some (under (L a) (L b)) := by
  unfold hogsheadref1_Under.f under
  rw [refMay_f a k hk, some_bind, refMay_f b k hk, some_bind, toL, toL, toL, L_extract, List.drop_zero, Int.toNat_natCast]
  cases hma : may (L a)
  · rfl
  cases hmb : may (L b)
  · rfl
  rw [if_pos rfl, if_pos rfl]
  simp only [Bool.true_and]
  by_cases h1 : L a = L b
  · rw [if_pos h1, decide_eq_true (.inl h1)]
  rw [if_neg h1]
  by_cases h2 : L b = []
  · rw [if_pos h2, decide_eq_true (.inr (.inl h2))]
  rw [if_neg h2]
  by_cases h3 : b.size < a.size
  · rw [if_pos (show (a.size : Int) > (b.size : Int) by omega), if_pos (by omega), if_pos (show (b.size : Int) ≤ (a.size : Int) by omega)]
    by_cases h4 : (L a).take b.size = L b
    · rw [if_pos h4, if_pos (show (b.size : Int) < (a.size : Int) by omega)]
      refine congrArg some ?_
      rw [Bool.eq_iff_iff, beq_iff_eq, decide_eq_true_iff, U_at h1 h2]
      have hb := bt_is a b.size h3 47
      exact ⟨fun e => ⟨h3, h4, hb.1 e⟩, fun ⟨_, _, e⟩ => hb.2 e⟩
    · rw [if_neg h4, decide_eq_false (fun u => h4 ((U_at h1 h2).1 u).2.1)]
  · rw [if_neg (show ¬ (a.size : Int) > (b.size : Int) by omega), decide_eq_false (fun u => h3 ((U_at h1 h2).1 u).1)]
/-! ### Lookup -/
def noN : ByteArray × Int × ByteArray × Bool := ((⟨#[]⟩ : ByteArray), 0, (⟨#[]⟩ : ByteArray), false)
theorem refLook_none (t : List Nd) (ht : t.length ≤ 1000000) (p : ByteArray) (h : ∀ x ∈ t, L x.f0 ≠ L p) : ∀ (f j k : Nat), j + f = t.length → f < k → hogsheadref3_Lookup.l0 k t p (j : Int) = some noN := by
  intro f
  induction f with
  | zero =>
    intro j k hj hk
    obtain ⟨k, rfl⟩ : ∃ m, k = m + 1 := ⟨k - 1, by omega⟩
    rw [hogsheadref3_Lookup.l0, if_neg (by omega)]; rfl
  | succ f ih =>
    intro j k hj hk
    obtain ⟨k, rfl⟩ : ∃ m, k = m + 1 := ⟨k - 1, by omega⟩
    have hx := h _ (at_mem (show j < t.length by omega))
    rw [hogsheadref3_Lookup.l0, if_pos (by omega), if_pos (by omega), rdN, toL, toL, if_neg hx, w_one j (by omega)]
    exact ih (j + 1) k (by omega) (by omega)
theorem refLook_some (t : List Nd) (ht : t.length ≤ 1000000) (p : ByteArray) (m : Nat) (hm : m < t.length) (he : L (at_ t m).f0 = L p) (hb : ∀ i, i < m → L (at_ t i).f0 ≠ L p) : ∀ (f j k : Nat), j + f = m → f < k → hogsheadref3_Lookup.l0 k t p (j : Int) = some ((at_ t m).f0, (at_ t m).f1, (at_ t m).f2, true) := by
  intro f
  induction f with
  | zero =>
    intro j k hj hk
    obtain ⟨k, rfl⟩ : ∃ m, k = m + 1 := ⟨k - 1, by omega⟩
    rw [Nat.add_zero] at hj
    subst hj
    rw [hogsheadref3_Lookup.l0, if_pos (by omega), if_pos (by omega), rdN, toL, toL, if_pos he]
  | succ f ih =>
    intro j k hj hk
    obtain ⟨k, rfl⟩ : ∃ m, k = m + 1 := ⟨k - 1, by omega⟩
    rw [hogsheadref3_Lookup.l0, if_pos (by omega), if_pos (by omega), rdN, toL, toL, if_neg (hb j (by omega)), w_one j (by omega)]
    exact ih (j + 1) k (by omega) (by omega)
theorem look_both (t : List Nd) (hl : t.length ≤ 1000) (p : ByteArray) (k : Nat) (hk : 8000 ≤ k) :
    (∃ j, j < t.length ∧ mayT t = true ∧ L (at_ t j).f0 = L p ∧ find_Lookup.f k t p = some ((at_ t j).f0, (at_ t j).f1, (at_ t j).f2, true) ∧ hogsheadref3_Lookup.f k t p = some ((at_ t j).f0, (at_ t j).f1, (at_ t j).f2, true)) ∨
    ((mayT t = true → ∀ x ∈ t, L x.f0 ≠ L p) ∧ find_Lookup.f k t p = some noN ∧ hogsheadref3_Lookup.f k t p = some noN) := by
  cases hm : mayT t
  · refine .inr ⟨fun h => (by cases h), ?_, ?_⟩
    · unfold find_Lookup.f find_at.f
      rw [mayT_f t (by omega) k (by omega), some_bind, hm, if_neg (by simp), some_bind, if_pos (by omega)]; rfl
    · unfold hogsheadref3_Lookup.f
      rw [refMayT_f t (by omega) k (by omega), some_bind, hm, if_neg (by simp)]; rfl
  · by_cases h : ∃ x ∈ t, L x.f0 = L p
    · obtain ⟨x, hx, e⟩ := h
      obtain ⟨j, hj, rfl⟩ := mem_at hx
      refine .inl ⟨j, hj, rfl, e, look_here hm hl hj p e.symm k (by omega), ?_⟩
      unfold hogsheadref3_Lookup.f
      rw [refMayT_f t (by omega) k (by omega), some_bind, hm, if_pos rfl]
      exact refLook_some t (by omega) p j hj e (fun i hi e' => by
        have := up_inj (up_may hm) (by omega) hj (e'.trans e.symm)
        omega) j 0 k (by omega) (by omega)
    · have h' : ∀ x ∈ t, L x.f0 ≠ L p := fun x hx e => h ⟨x, hx, e⟩
      refine .inr ⟨fun _ => h', ?_, ?_⟩
      · unfold find_Lookup.f
        rw [at_f hm hl p k (by omega), some_bind, idx_none _ t 0 (fun x hx => by unfold isAt; exact decide_eq_false (h' x hx)), if_pos (by omega)]; rfl
      · unfold hogsheadref3_Lookup.f
        rw [refMayT_f t (by omega) k (by omega), some_bind, hm, if_pos rfl]
        exact refLook_none t (by omega) p h' t.length 0 k (by omega) (by omega)
/-! ### List -/
theorem path_of {l : List UInt8} (hm : may l = true) (hl : l ≠ []) : l = if dir l = [] then base l else dir l ++ 47 :: base l := by
  rcases last_cases l with hn | ⟨a, b, rfl, hb⟩
  · rw [dir_none hn, base_none hn, if_pos rfl]
  · rw [dir_slash hb, base_slash hb]
    have ha : a ≠ [] := by
      rintro rfl
      obtain ⟨h1, h2, h3⟩ := may_parts hm hl
      exact part_ne (h2 [] (by rw [cut_slash]; simp [cut, cutA])) rfl
    rw [if_neg ha]
theorem kids_less {p : List UInt8} {x y : Nd} (hx : child p x = true) (hy : child p y = true) (h : Op.bytesLess (L x.f0) (L y.f0) = true) : Op.bytesLess (base (L x.f0)) (base (L y.f0)) = true := by
  unfold child at hx hy
  rw [Bool.and_eq_true, Bool.and_eq_true, decide_eq_true_iff, decide_eq_true_iff] at hx hy
  obtain ⟨a1, a2, a3⟩ := hx
  obtain ⟨b1, b2, b3⟩ := hy
  have ea := path_of a2 a1
  have eb := path_of b2 b1
  rw [a3] at ea
  rw [b3] at eb
  rw [ea, eb] at h
  by_cases hp : p = []
  · rw [if_pos hp, if_pos hp] at h; exact h
  · rw [if_neg hp, if_neg hp, less_pre] at h
    simpa [Op.bytesLess] using h
theorem ins_ (t : List Nd) (p b : ByteArray) (acc : List ByteArray) (ha : acc.length ≤ 1000) (i : Int) (h : ∀ y ∈ acc, Op.bytesLess (L b) (L y) = false) (k : Nat) : hogsheadref3_List.l1 (k + 1) t p acc i b (acc.length : Int) = hogsheadref3_List.l0 k t p (acc ++ [b]) (wrap64 (i + 1)) := by
  have e0 : ([] : List ByteArray).length + acc.length < 8796093022208 := by simp only [List.length_nil]; omega
  have e1 : acc.length + [b].length < 8796093022208 := by simp only [List.length_singleton]; omega
  have e2 : (acc ++ [b]).length + ([] : List ByteArray).length < 8796093022208 := by simp only [List.length_append, List.length_singleton, List.length_nil]; omega
  rw [hogsheadref3_List.l1, Int.toNat_natCast, List.take_length, List.drop_length]
  simp only [some_bind, List.nil_append, List.append_nil]
  by_cases hn : 0 < acc.length
  · rw [if_pos (show (acc.length : Int) > 0 by omega), show wrap64 ((acc.length : Int) - 1) = ((acc.length - 1 : Nat) : Int) from by rw [wrap_in (by omega) (by omega)]; omega, if_pos (by omega), if_pos (by omega), rd_L _ _ (by omega), toL, toL,
      h _ (List.getElem_mem _), if_neg (by simp), if_pos (by omega), if_pos (by omega), if_pos e0, if_pos e1, if_pos e2]
  · rw [if_neg (show ¬ (acc.length : Int) > 0 by omega), if_pos (by omega), if_pos (by omega), if_pos e0, if_pos e1, if_pos e2]
def nm (n : Nd) : ByteArray := mkB (base (L n.f0))
section
variable {t : List Nd} (hm : mayT t = true) (hl : t.length ≤ 1000)
include hm hl
theorem kid_at {i : Nat} (p : List UInt8) (h1 : 1 ≤ i) (hi : i < t.length) : child p (at_ t i) = decide (dir (L (at_ t i).f0) = p) := by
  have _ := hl
  obtain ⟨g1, g2, g3, g4, g5, g6⟩ := ok_fol (((mayT_iff t).1 hm).2 i hi) h1 hi
  unfold child
  rw [decide_eq_true g3, g4, Bool.true_and, Bool.true_and]
theorem kid_first (p : List UInt8) (h0 : 0 < t.length) : child p (at_ t 0) = false := by
  have _ := hl
  have := ((mayT_iff t).1 hm).2 0 h0
  unfold okAt at this
  rw [Bool.and_eq_true, Bool.and_eq_true] at this
  have h2 := this.2.2
  unfold fol at h2
  rw [if_pos (by simp), decide_eq_true_iff] at h2
  unfold child
  rw [decide_eq_false (by simp [h2])]
  rfl
theorem refList_l0 (p : ByteArray) : ∀ (f i k : Nat), i + f = t.length → 1 ≤ i → 2000 + 2 * f < k → hogsheadref3_List.l0 k t p (((t.take i).filter (child (L p))).map nm) (i : Int) = some ((t.filter (child (L p))).map nm, true) := by
  intro f
  induction f with
  | zero =>
    intro i k hi h1 hk
    obtain ⟨k, rfl⟩ : ∃ m, k = m + 1 := ⟨k - 1, by omega⟩
    rw [hogsheadref3_List.l0, if_neg (by omega), List.take_of_length_le (by omega)]
  | succ f ih =>
    intro i k hi h1 hk
    obtain ⟨k, rfl⟩ : ∃ m, k = m + 2 := ⟨k - 2, by omega⟩
    have hil : i < t.length := by omega
    have hc := kid_at hm hl (L p) h1 hil
    obtain ⟨g1, g2, g3, g4, g5, g6⟩ := ok_fol (((mayT_iff t).1 hm).2 i hil) h1 hil
    have hnext := ih (i + 1) k (by omega) (by omega) (by omega)
    have hnext1 := ih (i + 1) (k + 1) (by omega) (by omega) (by omega)
    rw [List.take_succ_eq_append_getElem hil, List.filter_append, List.map_append, ← at_lt t i hil, List.filter_cons, List.filter_nil, hc] at hnext hnext1
    have hlen : ((t.take i).filter (child (L p))).length ≤ t.length := Nat.le_trans (List.length_filter_le _ _) (by rw [List.length_take]; omega)
    rw [hogsheadref3_List.l0, if_pos (by omega), if_pos (by omega), rdN, refParent_f _ (k + 1) (by omega), if_neg g3, if_pos g4, some_bind, toL, toL, L_mkB]
    by_cases e : dir (L (at_ t i).f0) = L p
    · rw [if_pos e, refBase_f _ (k + 1) (by omega), if_pos g4, some_bind]
      have hins := ins_ t p (mkB (base (L (at_ t i).f0))) (((t.take i).filter (child (L p))).map nm) (by rw [List.length_map]; omega) (i : Int) (fun y hy => by
        obtain ⟨n, hn, rfl⟩ := List.mem_map.1 hy
        obtain ⟨hn1, hn2⟩ := List.mem_filter.1 hn
        obtain ⟨j, hj, hjn⟩ := List.mem_iff_getElem.1 hn1
        rw [List.length_take] at hj
        rw [List.getElem_take] at hjn
        have hlt := up_may hm j i (by omega) hil
        rw [at_lt t j (by omega), hjn] at hlt
        exact less_not (kids_less hn2 (by rw [hc, decide_eq_true e]) hlt)) k
      rw [hins, w_one i (by omega)]
      rw [decide_eq_true e, if_pos rfl] at hnext
      exact hnext
    · rw [if_neg e, w_one i (by omega)]
      rw [decide_eq_false e, if_neg (by simp), List.map_nil, List.append_nil] at hnext1
      exact hnext1
end
theorem list_both (t : List Nd) (hl : t.length ≤ 1000) (p : ByteArray) (k : Nat) (hk : 9000 ≤ k) : ∃ R : List ByteArray × Bool, find_List.f k t p = some R ∧ hogsheadref3_List.f k t p = some R ∧ R.1.length ≤ t.length := by
  rcases look_both t hl p k (by omega) with ⟨j, hj, hm, e, _, h2⟩ | ⟨_, h1, h2⟩
  · have h0 : 0 < t.length := by omega
    refine ⟨_, list_here hm hl hj p e.symm k (by omega), ?_, ?_⟩
    · obtain ⟨k, rfl⟩ : ∃ m, k = m + 1 := ⟨k - 1, by omega⟩
      unfold hogsheadref3_List.f
      rw [h2, some_bind]
      show (if true = true then hogsheadref3_List.j0 (k + 1) t p ((at_ t j).f1 != 1) else _) = _
      rw [if_pos rfl, hogsheadref3_List.j0]
      by_cases h1 : (at_ t j).f1 = 1
      · have := refList_l0 hm hl p (t.length - 1) 1 k (by omega) (by omega) (by omega)
        rw [List.take_succ_eq_append_getElem h0, List.take_zero, List.nil_append, ← at_lt t 0 h0, List.filter_cons, List.filter_nil, kid_first hm hl _ h0, if_neg (by simp), List.map_nil] at this
        rw [h1, if_neg (by simp), if_pos rfl]
        exact this
      · rw [if_pos (by simp [h1]), if_neg h1]
    · by_cases h1 : (at_ t j).f1 = 1
      · rw [if_pos h1]
        show (names (L p) t).length ≤ _
        unfold names
        rw [List.length_map]; exact List.length_filter_le _ _
      · rw [if_neg h1]; exact Nat.zero_le _
  · obtain ⟨k, rfl⟩ : ∃ m, k = m + 1 := ⟨k - 1, by omega⟩
    refine ⟨([], false), ?_, ?_, Nat.zero_le _⟩
    · unfold find_List.f
      rw [h1, some_bind]
      show (if false = true then _ else find_List.j0 (k + 1) t p true) = _
      rw [if_neg (by simp), find_List.j0, if_pos rfl]
    · unfold hogsheadref3_List.f
      rw [h2, some_bind]
      show (if false = true then _ else hogsheadref3_List.j0 (k + 1) t p true) = _
      rw [if_neg (by simp), hogsheadref3_List.j0, if_pos rfl]
/-! ### Sub -/
theorem refSub_l0 (t : List Nd) (ht : t.length ≤ 1000) (p : ByteArray) : ∀ (f j k : Nat) (acc : List Nd), j + f = t.length → acc.length ≤ j → 1400 + f < k → hogsheadref3_Sub.l0 k t p acc (j : Int) = some (acc ++ ((t.drop j).filter (fun n => under (L n.f0) (L p))).map (subN (L p)), true) := by
  intro f
  induction f with
  | zero =>
    intro j k acc hj ha hk
    obtain ⟨k, rfl⟩ : ∃ m, k = m + 1 := ⟨k - 1, by omega⟩
    rw [hogsheadref3_Sub.l0, if_neg (by omega), List.drop_of_length_le (by omega), List.filter_nil, List.map_nil, List.append_nil]
  | succ f ih =>
    intro j k acc hj ha hk
    obtain ⟨k, rfl⟩ : ∃ m, k = m + 1 := ⟨k - 1, by omega⟩
    have hjl : j < t.length := by omega
    rw [hogsheadref3_Sub.l0, if_pos (by omega), if_pos (by omega), rdN, refUnder_f _ _ k (by omega), some_bind, w_one j (by omega), toL, toL, List.drop_eq_getElem_cons hjl, ← at_lt t j hjl, List.filter_cons]
    cases hu : under (L (at_ t j).f0) (L p)
    · rw [if_neg (by simp), if_neg (by simp), ih (j + 1) k acc (by omega) (by omega) (by omega)]
    · obtain ⟨u1, u2, u3⟩ := under_may hu
      have hps := may_size u2
      rw [← size_L] at hps
      rw [if_pos rfl, if_pos rfl, List.map_cons]
      have hgo : ∀ y : Nd, y = subN (L p) (at_ t j) → hogsheadref3_Sub.l0 k t p (acc ++ [y]) ((j + 1 : Nat) : Int) = some (acc ++ (subN (L p) (at_ t j) :: ((t.drop (j + 1)).filter (fun n => under (L n.f0) (L p))).map (subN (L p))), true) := by
        rintro y rfl
        rw [ih (j + 1) k (acc ++ [subN (L p) (at_ t j)]) (by omega) (by rw [List.length_append, List.length_singleton]; omega) (by omega), List.append_assoc]; rfl
      by_cases e1 : L (at_ t j).f0 = L p
      · rw [if_pos e1, if_pos (by omega)]
        refine hgo _ ?_
        unfold subN
        rw [e1, rest_self]; rfl
      rw [if_neg e1]
      by_cases e2 : L p = []
      · rw [if_pos e2, if_pos (by omega)]
        refine hgo _ ?_
        unfold subN
        rw [e2, rest_root, mkB_L]
      rw [if_neg e2]
      have hr : rest (L p) (L (at_ t j).f0) ≠ [] := fun h => e1 (rest_nil u1 u3 h)
      have hj1 := jn u3 e2 hr
      have hsz : p.size + 1 ≤ (at_ t j).f0.size := by
        rw [size_L (at_ t j).f0, hj1, List.length_append, List.length_cons, ← size_L]; omega
      rw [show wrap64 ((p.size : Int) + 1) = ((p.size + 1 : Nat) : Int) from w_one p.size (by omega), if_pos (by omega), if_pos (by omega), if_pos (by omega), Int.toNat_natCast]
      refine hgo _ ?_
      unfold subN
      refine congrArg (fun z => (⟨z, (at_ t j).f1, (at_ t j).f2⟩ : Nd)) (L_inj ?_)
      rw [L_extract, L_mkB, size_L (at_ t j).f0, List.take_length]
      conv => lhs; rw [hj1]
      rw [size_L p, ← List.drop_drop, List.drop_left]; rfl
theorem sub_both (t : List Nd) (hl : t.length ≤ 1000) (p : ByteArray) (k : Nat) (hk : 9000 ≤ k) : ∃ R : List Nd × Bool, find_Sub.f k t p = some R ∧ hogsheadref3_Sub.f k t p = some R ∧ R.1.length ≤ t.length := by
  rcases look_both t hl p k (by omega) with ⟨j, hj, hm, e, _, h2⟩ | ⟨_, h1, h2⟩
  · refine ⟨_, sub_here hm hl (at_mem hj) p e.symm k (by omega), ?_, ?_⟩
    · unfold hogsheadref3_Sub.f
      rw [h2, some_bind]
      show (if true = true then hogsheadref3_Sub.l0 k t p [] 0 else _) = _
      rw [if_pos rfl]
      have := refSub_l0 t hl p t.length 0 k [] (by omega) (by simp) (by omega)
      rw [List.drop_zero, List.nil_append] at this
      exact this
    · show (subT (L p) t).length ≤ _
      unfold subT
      rw [List.length_map]; exact List.length_filter_le _ _
  · refine ⟨([], false), ?_, ?_, Nat.zero_le _⟩
    · unfold find_Sub.f
      rw [h1, some_bind]
      exact if_neg (by simp [noN])
    · unfold hogsheadref3_Sub.f
      rw [h2, some_bind]
      exact if_neg (by simp [noN])
/-! ### Graft -/
theorem behind_f (p a : ByteArray) (hp : p.size ≤ 1000) (ha : a.size ≤ 1000) : hogsheadref3_Behind.f p a = some (mkB (jp (L p) (L a))) := by
  unfold hogsheadref3_Behind.f jp
  rw [toL, toL]
  by_cases h2 : L p = []
  · rw [if_pos h2, h2]
    by_cases h1 : L a = []
    · rw [if_pos h1]; exact congrArg some (L_inj (by rw [h1]; rfl))
    · rw [if_neg h1, if_pos rfl, mkB_L]
  rw [if_neg h2]
  by_cases h1 : L a = []
  · rw [if_pos h1, if_pos h1, mkB_L]
  rw [if_neg h1, if_neg h1, if_neg h2, if_pos (by omega), if_pos (by rw [size_L (p ++ _), L_append, List.length_append, ← size_L]; show p.size + 1 + _ ≤ _; omega)]
  refine congrArg some (L_inj ?_)
  rw [L_append, L_append, L_mkB, List.append_assoc]; rfl
/-- The end of the reference's graft. -/
def fin3 (k : Nat) (y : List Nd) : Option (List Nd × Bool) := (hogsheadref2_Sort.f k y).bind fun z => (hogsheadref2_May.f k z).bind fun b => if b = true then some (z, true) else some (([] : List Nd), false)
theorem refGraft_l0 (p : ByteArray) (hp : p.size ≤ 1000) (s : List Nd) (hs : s.length ≤ 1000) (hn : ∀ n ∈ s, n.f0.size ≤ 1000) : ∀ (f j k : Nat) (acc : List Nd), j + f = s.length → f < k → acc.length ≤ 1000 + j → hogsheadref3_Graft.l0 k p s acc (j : Int) = fin3 (k - f - 1) (acc ++ (s.drop j).map (outN (L p))) := by
  intro f
  induction f with
  | zero =>
    intro j k acc hj hk ha
    obtain ⟨k, rfl⟩ : ∃ m, k = m + 1 := ⟨k - 1, by omega⟩
    rw [hogsheadref3_Graft.l0, if_neg (by omega), List.drop_of_length_le (by omega), List.map_nil, List.append_nil]; rfl
  | succ f ih =>
    intro j k acc hj hk ha
    obtain ⟨k, rfl⟩ : ∃ m, k = m + 1 := ⟨k - 1, by omega⟩
    have hjl : j < s.length := by omega
    rw [hogsheadref3_Graft.l0, if_pos (by omega), if_pos (by omega), rdN, behind_f p _ hp (hn _ (at_mem hjl)), some_bind, if_pos (by omega), w_one j (by omega), List.drop_eq_getElem_cons hjl, ← at_lt s j hjl, List.map_cons]
    have := ih (j + 1) k (acc ++ [outN (L p) (at_ s j)]) (by omega) (by omega) (by rw [List.length_append, List.length_singleton]; omega)
    rw [List.append_assoc, show k - f - 1 = k + 1 - (f + 1) - 1 by omega] at this
    exact this
/-- If what comes of grafting is a tree, the place's parent is a directory that was there. -/
theorem parent_there {t s Z : List Nd} {p : List UInt8} (hm : mayT t = true) (hs : mayT s = true) (hZ : mayT Z = true) (hsame : Same Z (t ++ s.map (outN p))) (hno : ∀ x ∈ t, L x.f0 ≠ p) : p ≠ [] ∧ may p = true ∧ ∃ y ∈ t, L y.f0 = dir p ∧ y.f1 = 1 := by
  obtain ⟨hp, x, hx, ex⟩ := may_p hs hZ hsame
  have hp0 : p ≠ [] := by
    rintro rfl
    obtain ⟨_, _, _, _, ⟨r, hr, e⟩, _⟩ := (mayT_char t).1 hm
    exact hno r hr e
  refine ⟨hp0, hp, ?_⟩
  obtain ⟨_, _, _, _, _, hpar⟩ := (mayT_char Z).1 hZ
  obtain ⟨y, hy, e1, e2⟩ := hpar x hx (by rw [ex]; exact hp0)
  rw [ex] at e1
  rcases (mem_Z hsame y).1 hy with h | ⟨n, hn, rfl⟩
  · exact ⟨y, h, e1, e2⟩
  · exfalso
    have h1 := (sub_out hp (good_may (((mayT_char s).1 hs).2.2.1 n hn))).1
    rw [e1, P_dir hp hp0] at h1
    have := h1.length_le
    rw [List.length_dropLast] at this
    have h0 : (P p).length ≠ 0 := fun e => hp0 (P_eq_nil.1 (List.eq_nil_of_length_eq_zero e))
    omega
theorem graft_both (t s : List Nd) (hl : t.length ≤ 100) (hsl : s.length ≤ 100) (p : ByteArray) (hp : p.size ≤ 300) (K : Nat) (hK : 1000000200 ≤ K) :
    ∃ R : List Nd × Bool, find_Graft.f K t p s = some R ∧ hogsheadref3_Graft.f K t p s = some R ∧ R.1.length ≤ t.length + s.length := by
  obtain ⟨K, rfl⟩ : ∃ m, K = m + 2 := ⟨K - 2, by omega⟩
  have hpar := parent_f p (K + 2) (by omega)
  obtain ⟨⟨q, ok⟩, hq⟩ : ∃ z : ByteArray × Bool, path_Parent.f (K + 2) p = some z := ⟨_, hpar⟩
  have hno : find_Graft.j0 (K + 2) t p s true = some ([], false) := by rw [find_Graft.j0, if_pos rfl]
  have hno3 : hogsheadref3_Graft.j0 (K + 2) t p s true = some ([], false) := by rw [hogsheadref3_Graft.j0, if_pos rfl]
  have hfa : ∀ (c : Bool) (x y : Option (List Nd × Bool)) , x = y → (if c = true then x else y) = y := fun c x y h => by rw [h]; split <;> rfl
  unfold find_Graft.f hogsheadref3_Graft.f
  rw [hq, some_bind, refMayT_f t (by omega) _ (by omega), refMayT_f s (by omega) _ (by omega), mayT_f s (by omega) _ (by omega)]
  have hlq := look_both t (by omega) q (K + 2) (by omega)
  have hlp := look_both t (by omega) p (K + 2) (by omega)
  show ∃ R : List Nd × Bool, ((find_Lookup.f (K + 2) t q).bind _) = some R ∧ _
  rcases hlp with ⟨j, hj, hm, e, h1, h2⟩ | ⟨hnone, h1, h2⟩
  · -- there is something there
    refine ⟨([], false), ?_, ?_, Nat.zero_le _⟩
    · obtain ⟨⟨a, b, c, d⟩, e1⟩ : ∃ z : ByteArray × Int × ByteArray × Bool, find_Lookup.f (K + 2) t q = some z := by
        rcases hlq with ⟨i, _, _, _, g1, _⟩ | ⟨_, g1, _⟩ <;> exact ⟨_, g1⟩
      rw [e1, h1]
      simp only [some_bind, if_true, hno, ite_self]
    · rw [h2]
      simp only [some_bind, hm, if_true, hno3, ite_self]
  · cases hm : mayT t
    · refine ⟨([], false), ?_, ?_, Nat.zero_le _⟩
      · rcases hlq with ⟨i, _, hm', _, _, _⟩ | ⟨_, g1, _⟩
        · rw [hm] at hm'; cases hm'
        · rw [g1, h1]
          simp only [some_bind, noN, hno, Bool.false_eq_true, if_false, ite_self]
      · rw [h2]
        simp only [some_bind, hno3, Bool.false_eq_true, if_false, ite_self]
    replace hnone := hnone hm
    cases hs : mayT s
    · refine ⟨([], false), ?_, ?_, Nat.zero_le _⟩
      · obtain ⟨⟨a, b, c, d⟩, e1⟩ : ∃ z : ByteArray × Int × ByteArray × Bool, find_Lookup.f (K + 2) t q = some z := by
          rcases hlq with ⟨i, _, _, _, g1, _⟩ | ⟨_, g1, _⟩ <;> exact ⟨_, g1⟩
        rw [e1, h1]
        simp only [some_bind, noN, hno, Bool.false_eq_true, if_false, Bool.not_false, ite_self]
      · rw [h2]
        simp only [some_bind, hno3, Bool.false_eq_true, if_false, if_true, ite_self]
    have hsz : ∀ n ∈ s, n.f0.size ≤ 1000 := fun n hn => by
      have := (goodN_size (((mayT_char s).1 hs).2.2.1 n hn)).1
      rw [← size_L] at this
      omega
    have hYl : (t ++ s.map (outN (L p))).length = t.length + s.length := by rw [List.length_append, List.length_map]
    obtain ⟨Z, z1, z2, z3⟩ := ref_sort (t := t ++ s.map (outN (L p))) (by omega) 1000000000 (by omega)
    obtain ⟨Z', y1, y2, y3, y4⟩ := sort_f (t ++ s.map (outN (L p))) (by omega) 1000000000 (by omega)
    rw [z1] at y1
    obtain rfl := Option.some.inj y1
    have z1' : ∀ k, 1000000000 ≤ k → tree_Sort.f k (t ++ s.map (outN (L p))) = some Z := fun k hk => at_rounds (g := fun k => tree_Sort.f k (t ++ s.map (outN (L p)))) (tree_Sort.mono _) hk z1
    have z2' : ∀ k, 1000000000 ≤ k → hogsheadref2_Sort.f k (t ++ s.map (outN (L p))) = some Z := fun k hk => at_rounds (g := fun k => hogsheadref2_Sort.f k (t ++ s.map (outN (L p)))) (hogsheadref2_Sort.mono _) hk z2
    rw [hYl] at z3
    have href : hogsheadref3_Graft.j0 (K + 2) t p s false = some (if mayT Z = true then (Z, true) else ([], false)) := by
      rw [hogsheadref3_Graft.j0, if_neg (by simp), if_pos (by simp only [List.length_nil]; omega), List.nil_append]
      have := refGraft_l0 p (by omega) s (by omega) hsz s.length 0 (K + 1) t (by omega) (by omega) (by omega)
      rw [List.drop_zero] at this
      refine this.trans ?_
      unfold fin3
      rw [z2' _ (by omega), some_bind, refMayT_f Z (by omega) _ (by omega), some_bind]
      cases mayT Z <;> rfl
    have hR : (if mayT Z = true then (Z, true) else (([] : List Nd), false)).1.length ≤ t.length + s.length := by
      cases mayT Z
      · exact Nat.zero_le _
      · exact Nat.le_of_eq z3
    refine ⟨_, ?_, ?_, hR⟩
    · have hfd : find_Graft.j0 (K + 2) t p s false = some (if mayT Z = true then (Z, true) else ([], false)) := by
        have hcl : api_Node_47.f t = some t := by
          unfold api_Node_47.f
          rw [some_bind, if_pos (by simp; omega)]; rfl
        rw [find_Graft.j0, if_neg (by simp), hcl, some_bind, eachO_f p (by omega) s (by omega) hsz true (K + 1) (by omega), some_bind, if_pos (by rw [List.length_map]; omega), z1' _ (by omega), some_bind, mayT_f Z (by omega) (K + 1) (by omega), some_bind]
        cases mayT Z <;> rfl
      by_cases hz : mayT Z = true
      · -- a tree: what the program asks ahead of it is so
        obtain ⟨p0, pm, y, hy, f1, f2⟩ := parent_there hm hs hz y3 hnone
        rw [hpar, if_neg p0, if_pos pm] at hq
        obtain ⟨rfl, rfl⟩ := Prod.mk.inj (Option.some.inj hq)
        rcases hlq with ⟨i, hi, _, g0, g1, _⟩ | ⟨hnot, _, _⟩
        · obtain ⟨i', hi', rfl⟩ := mem_at hy
          have : i = i' := up_inj (up_may hm) hi hi' (by rw [g0, L_mkB, f1])
          subst this
          rw [g1, h1]
          simp only [some_bind, if_true, f2, noN, Bool.false_eq_true, if_false, Bool.not_true, hfd]
        · exact absurd (by rw [f1, L_mkB]) (hnot hm y hy)
      · rw [if_neg hz] at hfd ⊢
        obtain ⟨⟨a, b, c, d⟩, e1⟩ : ∃ z : ByteArray × Int × ByteArray × Bool, find_Lookup.f (K + 2) t q = some z := by
          rcases hlq with ⟨i, _, _, _, g1, _⟩ | ⟨_, g1, _⟩ <;> exact ⟨_, g1⟩
        rw [e1, h1]
        simp only [some_bind, noN, hno, hfd, Bool.false_eq_true, if_false, Bool.not_true, ite_self]
    · rw [h2]
      simp only [some_bind, if_true, noN]
      exact href
end Go.Proofs.YtkloomnkpfaijaaDoor.RefFind
/- The plain law behind FindTells. -/
namespace Go.Proofs.YtkloomnkpfaijaaDoor.Pure
open Go.RowKit Go.Proofs.YtkloomnkpfaijaaDoorX Go.Proofs.YtkloomnkpfaijaaDoorW.PrintWords Go.Proofs.YtkloomnkpfaijaaDoorW.PrintLast Go.Proofs.YtkloomnkpfaijaaDoorW.PrintMore Go.Proofs.YtkloomnkpfaijaaDoor.P Go.Proofs.YtkloomnkpfaijaaDoor.Pa Go.Proofs.YtkloomnkpfaijaaDoor.PaTh Go.Proofs.YtkloomnkpfaijaaDoor.TreeTh Go.Proofs.YtkloomnkpfaijaaDoor.RefFind
set_option linter.unusedVariables false
set_option linter.unusedSimpArgs false
set_option maxRecDepth 100000 in
theorem awake_5000 : hogsheadlaw3_awake.f 5000 = some true := by decide +kernel
theorem awake_f (k : Nat) (hk : 5000 ≤ k) : hogsheadlaw3_awake.f k = some true := at_rounds (g := fun k => hogsheadlaw3_awake.f k) hogsheadlaw3_awake.mono hk awake_5000
theorem overN_l0 : ∀ (f j k : Nat) (l : List Nd), l.length ≤ 1000000 → j + f = l.length → f < k → hogsheadlaw0_OverNodes.l0 k l (j : Int) = some () := by
  intro f
  induction f with
  | zero =>
    intro j k l hl hj hk
    obtain ⟨k, rfl⟩ : ∃ m, k = m + 1 := ⟨k - 1, by omega⟩
    rw [hogsheadlaw0_OverNodes.l0, if_neg (by omega), if_pos (by omega)]
  | succ f ih =>
    intro j k l hl hj hk
    obtain ⟨k, rfl⟩ : ∃ m, k = m + 1 := ⟨k - 1, by omega⟩
    rw [hogsheadlaw0_OverNodes.l0, if_pos (by omega), if_pos (by omega), w_one j (by omega), ih (j + 1) k _ (by rw [List.length_set]; omega) (by rw [List.length_set]; omega) (by omega)]
theorem overN_f (l : List Nd) (hl : l.length ≤ 1000000) (k : Nat) (hk : l.length < k) : hogsheadlaw0_OverNodes.f k l = some () := by
  unfold hogsheadlaw0_OverNodes.f
  exact overN_l0 l.length 0 k l hl (by omega) hk
theorem FindTells : hogsheadlaw3_FindTells.Pure := by
  intro t p s ⟨hl, _⟩ _ ⟨hsl, _⟩
  have hl' : t.length ≤ 9223372036854775807 := by unfold maxLen at hl; exact hl
  have hsl' : s.length ≤ 9223372036854775807 := by unfold maxLen at hsl; exact hsl
  refine ⟨1000001000, ?_⟩
  have yes : ∀ k, 6000 ≤ k → hogsheadlaw3_FindTells.j0 k t p s true = some true := fun k hk => by
    obtain ⟨k, rfl⟩ : ∃ m, k = m + 1 := ⟨k - 1, by omega⟩
    rw [hogsheadlaw3_FindTells.j0, if_pos rfl, awake_f k (by omega), some_bind]
  unfold hogsheadlaw3_FindTells.f
  rw [show (60 : Int) = ((60 : Nat) : Int) from rfl, great_f t 60 (by omega) hl' _ (by omega), some_bind]
  by_cases hg : great t 60 = true
  · rw [if_pos hg]; exact yes _ (by omega)
  rw [if_neg hg, show (30 : Int) = ((30 : Nat) : Int) from rfl, great_f s 30 (by omega) hsl' _ (by omega), some_bind]
  by_cases hgs : great s 30 = true
  · rw [if_pos hgs]; exact yes _ (by omega)
  rw [if_neg hgs]
  obtain ⟨h60, _⟩ := great_not hg
  obtain ⟨h30, _⟩ := great_not hgs
  by_cases hp : (p.size : Int) > 300
  · rw [decide_eq_true hp]; exact yes _ (by omega)
  rw [decide_eq_false hp]
  show hogsheadlaw3_FindTells.j0 (1000000999 + 1) t p s false = _
  rw [hogsheadlaw3_FindTells.j0, if_neg (by simp)]
  unfold hogsheadlaw0_LendNodes.f
  rw [if_pos (by omega), some_bind]
  obtain ⟨R1, a1, b1⟩ : ∃ R, find_Lookup.f 1000000999 t p = some R ∧ hogsheadref3_Lookup.f 1000000999 t p = some R := by
    rcases look_both t (by omega) p 1000000999 (by omega) with ⟨j, _, _, _, h1, h2⟩ | ⟨_, h1, h2⟩
    · exact ⟨_, h1, h2⟩
    · exact ⟨_, h1, h2⟩
  obtain ⟨R2, a2, b2, c2⟩ := list_both t (by omega) p 1000000999 (by omega)
  obtain ⟨R3, a3, b3, c3⟩ := sub_both t (by omega) p 1000000999 (by omega)
  obtain ⟨R4, a4, b4, c4⟩ := graft_both t s (by omega) (by omega) p (by omega) 1000000999 (by omega)
  rw [a1, some_bind, b1, some_bind, a2, some_bind, b2, some_bind, a3, some_bind, b3, some_bind, a4, some_bind, b4, some_bind, if_pos (by simp), if_pos (by simp), same_f _ _ (by omega) _ (by omega), some_bind, if_pos (decide_eq_true rfl), if_pos (by simp),
    sameN_f _ _ (by omega) _ (by omega), some_bind, if_pos (sameN_self _), if_pos (by simp), sameN_f _ _ (by omega) _ (by omega), some_bind, if_pos (sameN_self _)]
  show hogsheadlaw3_FindTells.j1 (1000000998 + 1) t t R2.1 R3.1 R4.1 (R4.2 == R4.2) = _
  rw [hogsheadlaw3_FindTells.j1, over_f R2.1 (by omega) _ (by omega), some_bind, overN_f R3.1 (by omega) _ (by omega), some_bind, overN_f R4.1 (by omega) _ (by omega), some_bind, if_pos (by simp)]
  unfold hogsheadlaw0_KeptNodes.f
  rw [sameN_f t t (by omega) _ (by omega), some_bind, if_pos (sameN_self t), awake_f _ (by omega), some_bind]
end Go.Proofs.YtkloomnkpfaijaaDoor.Pure
