/- What stands in a tree at a path, and what is listed there: the printed functions as plain ones. -/
import Derived.Test.YtkloomnkpfaijaaDoorTreeChar
import Derived.Test.YtkloomnkpfaijaaDoorPartsTh
namespace Go.Proofs.YtkloomnkpfaijaaDoor.FindTh
open Go.RowKit Go.Proofs.YtkloomnkpfaijaaDoorX Go.Proofs.YtkloomnkpfaijaaDoorW.PrintWords Go.Proofs.YtkloomnkpfaijaaDoorW.PrintLast Go.Proofs.YtkloomnkpfaijaaDoorW.PrintMore Go.Proofs.YtkloomnkpfaijaaDoor.P Go.Proofs.YtkloomnkpfaijaaDoor.Pa Go.Proofs.YtkloomnkpfaijaaDoor.PaTh Go.Proofs.YtkloomnkpfaijaaDoor.TreeTh Go.Proofs.YtkloomnkpfaijaaDoor.TreeUp
set_option linter.unusedVariables false
set_option linter.unusedSimpArgs false
def isAt (p : List UInt8) (n : Nd) : Bool := decide (L n.f0 = p)
theorem idx_none (q : Nd → Bool) : ∀ (l : List Nd) (i : Nat), (∀ x ∈ l, q x = false) → idxN q l i = -1
  | [], _, _ => rfl
  | x :: l, i, h => by rw [idxN, if_neg (by rw [h x (List.mem_cons_self ..)]; simp)]; exact idx_none q l (i + 1) (fun y hy => h y (List.mem_cons_of_mem _ hy))
theorem idx_some (q : Nd → Bool) : ∀ (l : List Nd) (i j : Nat), j < l.length → q (at_ l j) = true → (∀ m, m < j → q (at_ l m) = false) → idxN q l i = ((i + j : Nat) : Int)
  | [], _, j, h, _, _ => absurd h (by simp)
  | x :: l, i, 0, _, h, _ => by
    have : q x = true := h
    rw [idxN, if_pos this]; rfl
  | x :: l, i, j + 1, hj, h, hm => by
    have h0 : q x = false := hm 0 (by omega)
    rw [idxN, if_neg (by rw [h0]; simp), idx_some q l (i + 1) j (by simpa using hj) h (fun m h' => hm (m + 1) (by omega))]
    omega
section
variable {t : List Nd} (hm : mayT t = true) (hl : t.length ≤ 1000)
include hm hl
theorem at_f (p : ByteArray) (k : Nat) (hk : 1100 ≤ k) : find_at.f k t p = some (idxN (isAt (L p)) t 0) := by
  unfold find_at.f
  rw [mayT_f t (by omega) k hk, some_bind, if_pos hm]
  refine congrArg (fun q => some (idxN q t 0)) (funext fun n => ?_)
  show (n.f0.toList == p.toList) = _
  rw [toL, toL, beqD]
  rfl
theorem look_here {j : Nat} (hj : j < t.length) (p : ByteArray) (hp : L p = L (at_ t j).f0) (k : Nat) (hk : 1100 ≤ k) : find_Lookup.f k t p = some ((at_ t j).f0, (at_ t j).f1, (at_ t j).f2, true) := by
  have hu := up_may hm
  have hi : idxN (isAt (L p)) t 0 = (j : Int) := by
    rw [idx_some _ t 0 j hj (by unfold isAt; rw [decide_eq_true hp.symm]) (fun m h => by
      unfold isAt
      refine decide_eq_false fun e => ?_
      have := up_inj hu (by omega) hj (e.trans hp)
      omega)]
    omega
  unfold find_Lookup.f
  rw [at_f hm hl p k hk, some_bind, hi, if_neg (by omega), if_pos (by omega), if_pos (by omega), rdN]
end
/-- Is a node right below a place? -/
def child (p : List UInt8) (n : Nd) : Bool := decide (L n.f0 ≠ []) && (may (L n.f0) && decide (dir (L n.f0) = p))
theorem child_f (p : ByteArray) (n : Nd) (k : Nat) (hk : 1100 ≤ k) : find_place_child.f k p n.f0 n.f1 n.f2 = some (child (L p) n) := by
  unfold find_place_child.f child
  rw [parent_f n.f0 k hk, some_bind]
  by_cases h : L n.f0 = []
  · rw [if_pos h, if_neg (by simp), decide_eq_false (by simp [h])]; rfl
  rw [if_neg h, decide_eq_true h]
  cases hm : may (L n.f0)
  · rw [if_neg (by simp)]; rfl
  · rw [if_pos rfl, if_pos rfl, toL, toL, L_mkB, beqD]; rfl
theorem filter_l0 (pf : Nat → ByteArray → Int → ByteArray → Option Bool) (q : Nd → Bool) (K : Nat) (hq : ∀ k n, K ≤ k → pf k n.f0 n.f1 n.f2 = some (q n)) (t : List Nd) (ht : t.length ≤ 1000) :
    ∀ (f j k : Nat) (out : List Nd), j + f = t.length → K + f < k → out.length ≤ j → tree_FilterG.l0 pf k out t (t.length : Int) (j : Int) = some (out ++ (t.drop j).filter q) := by
  intro f
  induction f with
  | zero =>
    intro j k out hj hk ho
    obtain ⟨k, rfl⟩ : ∃ m, k = m + 1 := ⟨k - 1, by omega⟩
    rw [tree_FilterG.l0, if_neg (by omega), List.drop_of_length_le (by omega), List.filter_nil, List.append_nil]
  | succ f ih =>
    intro j k out hj hk ho
    obtain ⟨k, rfl⟩ : ∃ m, k = m + 1 := ⟨k - 1, by omega⟩
    rw [tree_FilterG.l0, if_pos (by omega), if_pos (by omega), if_pos (by omega), rdN, hq k _ (by omega), some_bind, w_one j (by omega), List.drop_eq_getElem_cons (show j < t.length by omega), ← at_lt t j (by omega), List.filter_cons]
    cases q (at_ t j)
    · rw [if_neg (by simp), if_neg (by simp), ih (j + 1) k out (by omega) (by omega) (by omega)]
    · rw [if_pos rfl, if_pos rfl, if_pos (by omega), Nd_eta, ih (j + 1) k _ (by omega) (by omega) (by simp; omega), List.append_assoc]
      rfl
theorem filter_f (pf : Nat → ByteArray → Int → ByteArray → Option Bool) (q : Nd → Bool) (K : Nat) (hq : ∀ k n, K ≤ k → pf k n.f0 n.f1 n.f2 = some (q n)) (t : List Nd) (ht : t.length ≤ 1000) (k : Nat) (hk : K + 1001 ≤ k) : tree_FilterG.f pf k t = some (t.filter q) := by
  unfold tree_FilterG.f
  have := filter_l0 pf q K hq t ht t.length 0 k [] (by omega) (by omega) (by simp)
  rw [List.drop_zero, List.nil_append] at this
  exact this
theorem fchild_f (t : List Nd) (ht : t.length ≤ 1000) (p : ByteArray) (k : Nat) (hk : 2200 ≤ k) : find_FilterChild.f k t p = some (t.filter (child (L p))) := by
  unfold find_FilterChild.f
  exact filter_f _ _ 1100 (fun k n h => child_f p n k h) t ht k (by omega)
theorem list_l0 (c : List Nd) (hc : c.length ≤ 1000) (hm : ∀ n ∈ c, may (L n.f0) = true) : ∀ (f j k : Nat) (out : List ByteArray), j + f = c.length → 1100 + f < k → out.length ≤ j →
    find_List.l0 k out c (c.length : Int) (j : Int) = some (out ++ (c.drop j).map (fun n => mkB (base (L n.f0))), true) := by
  intro f
  induction f with
  | zero =>
    intro j k out hj hk ho
    obtain ⟨k, rfl⟩ : ∃ m, k = m + 1 := ⟨k - 1, by omega⟩
    rw [find_List.l0, if_neg (by omega), List.drop_of_length_le (by omega), List.map_nil, List.append_nil]
  | succ f ih =>
    intro j k out hj hk ho
    obtain ⟨k, rfl⟩ : ∃ m, k = m + 1 := ⟨k - 1, by omega⟩
    rw [find_List.l0, if_pos (by omega), if_pos (by omega), if_pos (by omega), rdN, base_f _ k (by omega), some_bind, if_pos (by omega), w_one j (by omega), List.drop_eq_getElem_cons (show j < c.length by omega), List.map_cons, ← at_lt c j (by omega),
      if_pos (hm _ (by rw [at_lt c j (by omega)]; exact List.getElem_mem _)), ih (j + 1) k _ (by omega) (by omega) (by simp; omega), List.append_assoc]
    rfl
/-- The names in a directory. -/
def names (p : List UInt8) (t : List Nd) : List ByteArray := (t.filter (child p)).map (fun n => mkB (base (L n.f0)))
theorem list_here {t : List Nd} (hm : mayT t = true) (hl : t.length ≤ 1000) {j : Nat} (hj : j < t.length) (p : ByteArray) (hp : L p = L (at_ t j).f0) (k : Nat) (hk : 4000 ≤ k) : find_List.f k t p = some (if (at_ t j).f1 = 1 then (names (L p) t, true) else ([], false)) := by
  obtain ⟨k, rfl⟩ : ∃ m, k = m + 1 := ⟨k - 1, by omega⟩
  unfold find_List.f
  rw [look_here hm hl hj p hp (k + 1) (by omega), some_bind, if_pos rfl]
  show find_List.j0 (k + 1) t p ((at_ t j).f1 != 1) = _
  rw [find_List.j0]
  by_cases h : (at_ t j).f1 = 1
  · have hc : (t.filter (child (L p))).length ≤ 1000 := Nat.le_trans (List.length_filter_le _ _) hl
    have := list_l0 (t.filter (child (L p))) hc (fun n hn => by
      have h' := (List.mem_filter.1 hn).2
      unfold child at h'
      rw [Bool.and_eq_true, Bool.and_eq_true] at h'
      exact h'.2.1) (t.filter (child (L p))).length 0 k [] (by omega) (by omega) (by simp)
    rw [show ((0 : Nat) : Int) = 0 from rfl] at this
    rw [if_pos h, if_neg (by rw [h]; simp), fchild_f t hl p k (by omega), some_bind, this]
    rfl
  · rw [if_neg h, if_pos (by simpa using h)]
end Go.Proofs.YtkloomnkpfaijaaDoor.FindTh
/- What stands under a path of a tree: again a tree; the printed find.Sub as a plain one. -/
namespace Go.Proofs.YtkloomnkpfaijaaDoor.FindSub
open Go.RowKit Go.Proofs.YtkloomnkpfaijaaDoorX Go.Proofs.YtkloomnkpfaijaaDoorW.PrintWords Go.Proofs.YtkloomnkpfaijaaDoorW.PrintLast Go.Proofs.YtkloomnkpfaijaaDoorW.PrintMore Go.Proofs.YtkloomnkpfaijaaDoor.P Go.Proofs.YtkloomnkpfaijaaDoor.Pa Go.Proofs.YtkloomnkpfaijaaDoor.PaTh Go.Proofs.YtkloomnkpfaijaaDoor.TreeTh Go.Proofs.YtkloomnkpfaijaaDoor.TreeUp Go.Proofs.YtkloomnkpfaijaaDoor.PartsTh Go.Proofs.YtkloomnkpfaijaaDoor.TreeChar Go.Proofs.YtkloomnkpfaijaaDoor.FindTh
set_option linter.unusedVariables false
set_option linter.unusedSimpArgs false
/-- A node as it is seen from a place above it. -/
def subN (p : List UInt8) (n : Nd) : Nd := ⟨mkB (rest p (L n.f0)), n.f1, n.f2⟩
/-- What stands under a place. -/
def subT (p : List UInt8) (t : List Nd) : List Nd := (t.filter (fun n => under (L n.f0) p)).map (subN p)
theorem trim_f (a b : ByteArray) : strings_TrimPrefix.f a b = some (if L b <+: L a then mkB ((L a).drop (L b).length) else a) := by
  have h := hasPrefix_f a b
  unfold strings_HasPrefix.f at h
  obtain ⟨x, hx, h2⟩ := Option.bind_eq_some_iff.1 h
  unfold strings_TrimPrefix.f stringslite_TrimPrefix.f
  rw [hx, some_bind]
  obtain rfl := Option.some.inj h2
  by_cases hp : L b <+: L a
  · have := hp.length_le
    rw [decide_eq_true hp, if_pos rfl, if_pos (by omega), if_pos (by rw [size_L, size_L]; omega), if_pos hp, some_bind, Int.toNat_natCast]
    refine congrArg some (L_inj ?_)
    rw [L_extract, L_mkB, size_L a, List.take_length]; rfl
  · rw [decide_eq_false hp, if_neg (by simp), if_neg hp, some_bind]
theorem inner_f (p : ByteArray) (n : Nd) (hp : may (L p) = true) (hn : may (L n.f0) = true) (h : P (L p) <+: P (L n.f0)) : find_place_inner.f p n.f0 n.f1 n.f2 = some (mkB (rest (L p) (L n.f0)), n.f1, n.f2) := by
  unfold find_place_inner.f
  have hs : L (⟨#[47]⟩ : ByteArray) = [47] := rfl
  have hpre : L p <+: L n.f0 := U_pre ((U_iff hn hp).2 h)
  rw [trim_f, some_bind, if_pos hpre, trim_f, some_bind, hs, L_mkB]
  refine congrArg (fun z => some (z, n.f1, n.f2)) ?_
  have hrok : OkP ((P (L n.f0)).drop (P (L p)).length) := (P_ok hn).drop _
  by_cases hr : rest (L p) (L n.f0) = []
  · have e := rest_nil hn h hr
    rw [hr, e, List.drop_length, if_neg (by rintro ⟨s, e⟩; simp at e)]
  by_cases h0 : L p = []
  · rw [h0, rest_root, List.length_nil, List.drop_zero, if_neg]
    have := slash_not (P_ok hn)
    rw [J_P] at this
    exact this
  · have e := jn h h0 hr
    have e2 : (L n.f0).drop (L p).length = 47 :: rest (L p) (L n.f0) := by
      conv => lhs; rw [e]
      exact List.drop_left
    rw [e2, if_pos ⟨rest (L p) (L n.f0), rfl⟩]; rfl
theorem each_l0 (p : ByteArray) (hp : may (L p) = true) (t : List Nd) (ht : t.length ≤ 1000) (hn : ∀ n ∈ t, may (L n.f0) = true ∧ P (L p) <+: P (L n.f0)) :
    ∀ (f j k : Nat) (out : List Nd), j + f = t.length → f < k → out.length ≤ j → find_each.l0 k p out t (t.length : Int) (j : Int) = some (out ++ (t.drop j).map (subN (L p))) := by
  intro f
  induction f with
  | zero =>
    intro j k out hj hk ho
    obtain ⟨k, rfl⟩ : ∃ m, k = m + 1 := ⟨k - 1, by omega⟩
    rw [find_each.l0, if_neg (by omega), List.drop_of_length_le (by omega), List.map_nil, List.append_nil]
  | succ f ih =>
    intro j k out hj hk ho
    obtain ⟨k, rfl⟩ : ∃ m, k = m + 1 := ⟨k - 1, by omega⟩
    have hm := hn _ (at_mem (show j < t.length by omega))
    rw [find_each.l0, if_pos (by omega), if_pos (by omega), if_pos (by omega), rdN, inner_f p _ hp hm.1 hm.2, some_bind, if_pos (by omega), w_one j (by omega), List.drop_eq_getElem_cons (show j < t.length by omega), ← at_lt t j (by omega), List.map_cons]
    have := ih (j + 1) k (out ++ [subN (L p) (at_ t j)]) (by omega) (by omega) (by simp; omega)
    rw [List.append_assoc] at this
    exact this
theorem under_may {a b : List UInt8} (h : under a b = true) : may a = true ∧ may b = true ∧ P b <+: P a := by
  have h' := h
  unfold under at h'
  rw [Bool.and_eq_true, Bool.and_eq_true] at h'
  exact ⟨h'.1.1, h'.1.2, (under_iff h'.1.1 h'.1.2).1 h⟩
theorem each_f (p : ByteArray) (t : List Nd) (ht : t.length ≤ 1000) (hn : ∀ n ∈ t, under (L n.f0) (L p) = true) (hp : may (L p) = true) (z : Bool) (k : Nat) (hk : 1001 ≤ k) : find_each.f k t p z = some (t.map (subN (L p))) := by
  unfold find_each.f
  have := each_l0 p hp t ht (fun n h => ⟨(under_may (hn n h)).1, (under_may (hn n h)).2.2⟩) t.length 0 k [] (by omega) (by omega) (by simp)
  rw [List.drop_zero, List.nil_append] at this
  exact this
theorem funder_f (t : List Nd) (ht : t.length ≤ 1000) (p : ByteArray) (k : Nat) (hk : 2200 ≤ k) : find_FilterUnder.f k t p = some (t.filter (fun n => under (L n.f0) (L p))) := by
  unfold find_FilterUnder.f
  exact filter_f _ _ 300 (fun k n hk => by unfold find_place_under.f; rw [under_f n.f0 p k hk, some_bind]) t ht k (by omega)
theorem sub_here {t : List Nd} (hm : mayT t = true) (hl : t.length ≤ 1000) {x : Nd} (hx : x ∈ t) (p : ByteArray) (hp : L p = L x.f0) (k : Nat) (hk : 4000 ≤ k) : find_Sub.f k t p = some (subT (L p) t, true) := by
  obtain ⟨j, hj, rfl⟩ := mem_at hx
  have hmp : may (L p) = true := by rw [hp]; exact good_may (((mayT_char t).1 hm).2.2.1 _ (at_mem hj))
  unfold find_Sub.f
  rw [look_here hm hl hj p hp k (by omega), some_bind, if_pos rfl, funder_f t hl p k (by omega), some_bind, each_f p _ (Nat.le_trans (List.length_filter_le _ _) hl) (fun n hn => (List.mem_filter.1 hn).2) hmp true k (by omega), some_bind]
  rfl
section
variable {t : List Nd} (hm : mayT t = true) {x : Nd} (hx : x ∈ t)
theorem rest_less {p a b : List UInt8} (ha : may a = true) (hb : may b = true) (h1 : P p <+: P a) (h2 : P p <+: P b) (h : Op.bytesLess a b = true) : Op.bytesLess (rest p a) (rest p b) = true := by
  by_cases h0 : p = []
  · rw [h0, rest_root, rest_root]; exact h
  by_cases hra : rest p a = []
  · rw [hra]
    by_cases hrb : rest p b = []
    · rw [rest_nil ha h1 hra, rest_nil hb h2 hrb, less_irr] at h
      cases h
    · exact nil_less hrb
  by_cases hrb : rest p b = []
  · rw [rest_nil hb h2 hrb, jn h1 h0 hra] at h
    have h4 : Op.bytesLess (p ++ 47 :: rest p a) p = false := less_prefix p _ (List.prefix_append _ _)
    rw [h4] at h
    cases h
  rw [jn h1 h0 hra, jn h2 h0 hrb, less_pre] at h
  have : Op.bytesLess ([47] ++ rest p a) ([47] ++ rest p b) = true := h
  rw [less_pre] at this
  exact this
include hm hx
theorem subT_mem {n : Nd} : n ∈ subT (L x.f0) t ↔ ∃ m ∈ t, P (L x.f0) <+: P (L m.f0) ∧ subN (L x.f0) m = n := by
  have hg := ((mayT_char t).1 hm).2.2.1
  unfold subT
  rw [List.mem_map]
  constructor
  · rintro ⟨m, h1, h2⟩
    obtain ⟨h1, h3⟩ := List.mem_filter.1 h1
    exact ⟨m, h1, (under_may h3).2.2, h2⟩
  · rintro ⟨m, h1, h2, h3⟩
    exact ⟨m, List.mem_filter.2 ⟨h1, (under_iff (good_may (hg m h1)) (good_may (hg x hx))).2 h2⟩, h3⟩
theorem subT_tree : mayT (subT (L x.f0) t) = true := by
  obtain ⟨c1, c2, c3, c4, c5, c6⟩ := (mayT_char t).1 hm
  have hroot : subN (L x.f0) x ∈ subT (L x.f0) t := (subT_mem hm hx).2 ⟨x, hx, List.prefix_refl _, rfl⟩
  refine (mayT_char _).2 ⟨fun e => by rw [e] at hroot; simp at hroot, ?_, ?_, ?_, ⟨_, hroot, ?_⟩, ?_⟩
  · unfold subT
    rw [List.length_map]
    exact Nat.le_trans (List.length_filter_le _ _) c2
  · intro n hn
    obtain ⟨m, h1, h2, rfl⟩ := (subT_mem hm hx).1 hn
    have hg := c3 m h1
    unfold goodN good at hg ⊢
    rw [Bool.and_eq_true] at hg
    show (may (rest (L x.f0) (L m.f0)) && _) = true
    rw [may_rest hg.1, Bool.true_and]
    exact hg.2
  · rw [up_pw]
    unfold subT
    refine List.Pairwise.map _ (R := fun a b => lt (subN (L x.f0) a) (subN (L x.f0) b)) (fun _ _ h => h) ?_
    refine List.Pairwise.imp_of_mem (R := lt) ?_ (((up_pw t).1 c4).filter _)
    intro a b ha hb h
    have ha' := under_may (List.mem_filter.1 ha).2
    have hb' := under_may (List.mem_filter.1 hb).2
    exact rest_less ha'.1 hb'.1 ha'.2.2 hb'.2.2 h
  · exact rest_self _
  · intro n hn hne
    obtain ⟨m, h1, h2, rfl⟩ := (subT_mem hm hx).1 hn
    replace hne : rest (L x.f0) (L m.f0) ≠ [] := hne
    have hmay := good_may (c3 m h1)
    have hm0 : L m.f0 ≠ [] := fun e => hne (by rw [e]; unfold rest; rw [P_nil, List.drop_nil]; rfl)
    obtain ⟨y, hy, e1, e2⟩ := c6 m h1 hm0
    have hr : (P (L m.f0)).drop (P (L x.f0)).length ≠ [] := fun e => hne (by unfold rest; rw [e]; rfl)
    have hs := P_split h2
    have hdl : P (L y.f0) = P (L x.f0) ++ ((P (L m.f0)).drop (P (L x.f0)).length).dropLast := by
      rw [e1, P_dir hmay hm0]
      conv => lhs; rw [hs]
      exact List.dropLast_append_of_ne_nil hr
    refine ⟨subN (L x.f0) y, (subT_mem hm hx).2 ⟨y, hy, ⟨_, hdl.symm⟩, rfl⟩, ?_, e2⟩
    show rest (L x.f0) (L y.f0) = dir (rest (L x.f0) (L m.f0))
    rw [dir_P hne, P_rest hmay]
    unfold rest
    rw [hdl, List.drop_left]
end
end Go.Proofs.YtkloomnkpfaijaaDoor.FindSub
/- The plain law behind FindDeep. -/
namespace Go.Proofs.YtkloomnkpfaijaaDoor.Pure
open Go.RowKit Go.Proofs.YtkloomnkpfaijaaDoorX Go.Proofs.YtkloomnkpfaijaaDoorW.PrintWords Go.Proofs.YtkloomnkpfaijaaDoorW.PrintLast Go.Proofs.YtkloomnkpfaijaaDoorW.PrintMore Go.Proofs.YtkloomnkpfaijaaDoor.P Go.Proofs.YtkloomnkpfaijaaDoor.Pa Go.Proofs.YtkloomnkpfaijaaDoor.PaTh Go.Proofs.YtkloomnkpfaijaaDoor.TreeTh Go.Proofs.YtkloomnkpfaijaaDoor.TreeUp Go.Proofs.YtkloomnkpfaijaaDoor.PartsTh Go.Proofs.YtkloomnkpfaijaaDoor.TreeChar Go.Proofs.YtkloomnkpfaijaaDoor.FindTh Go.Proofs.YtkloomnkpfaijaaDoor.FindSub
set_option linter.unusedVariables false
set_option linter.unusedSimpArgs false
set_option maxRecDepth 100000 in
theorem awake_5000 : hogsheadlaw3_awake.f 5000 = some true := by decide +kernel
theorem awake_f (k : Nat) (hk : 5000 ≤ k) : hogsheadlaw3_awake.f k = some true := at_rounds (g := fun k => hogsheadlaw3_awake.f k) hogsheadlaw3_awake.mono hk awake_5000
theorem low_f (x n : Int) (h : 1 ≤ n) (h' : n ≤ 4611686018427387904) : hogsheadlaw0_Low.f x n = some ((x % 18446744073709551616) % n) := by
  unfold hogsheadlaw0_Low.f
  exact Go.Proofs.YtkloomnkpfaijaaDoor.Bs.low_expr x n h h'
section
variable {t : List Nd} (hm : mayT t = true) {x y : Nd} (hx : x ∈ t) (hy : y ∈ t) (hxy : P (L x.f0) <+: P (L y.f0))
include hm hx hy hxy
/-- What stands under what stands under a place. -/
theorem sub_sub : subT (rest (L x.f0) (L y.f0)) (subT (L x.f0) t) = subT (L y.f0) t := by
  have hg := ((mayT_char t).1 hm).2.2.1
  have hmx := good_may (hg x hx)
  have hmy := good_may (hg y hy)
  have hs := P_split hxy
  have key : ∀ n ∈ t, (under (L (subN (L x.f0) n).f0) (rest (L x.f0) (L y.f0)) && under (L n.f0) (L x.f0)) = under (L n.f0) (L y.f0) := by
    intro n hn
    have hmn := good_may (hg n hn)
    rw [Bool.eq_iff_iff, Bool.and_eq_true, under_iff hmn hmy, under_iff hmn hmx]
    show under (rest (L x.f0) (L n.f0)) _ = true ∧ _ ↔ _
    rw [under_iff (may_rest hmn) (may_rest hmy), P_rest hmn, P_rest hmy]
    constructor
    · rintro ⟨h1, h2⟩
      rw [hs, P_split h2]
      exact (List.prefix_append_right_inj _).2 h1
    · intro h
      have h2 : P (L x.f0) <+: P (L n.f0) := hxy.trans h
      refine ⟨?_, h2⟩
      rw [hs, P_split h2] at h
      exact (List.prefix_append_right_inj _).1 h
  unfold subT
  rw [List.filter_map, List.filter_filter, List.map_map]
  have hf : t.filter (fun a => ((fun n => under (L n.f0) (rest (L x.f0) (L y.f0))) ∘ subN (L x.f0)) a && under (L a.f0) (L x.f0)) = t.filter (fun n => under (L n.f0) (L y.f0)) := List.filter_congr key
  rw [hf]
  refine List.map_congr_left fun n hn => ?_
  obtain ⟨h1, h2⟩ := List.mem_filter.1 hn
  have h3 := under_may h2
  show (⟨mkB (rest (rest (L x.f0) (L y.f0)) (rest (L x.f0) (L n.f0))), n.f1, n.f2⟩ : Nd) = ⟨mkB (rest (L y.f0) (L n.f0)), n.f1, n.f2⟩
  have : rest (rest (L x.f0) (L y.f0)) (rest (L x.f0) (L n.f0)) = rest (L y.f0) (L n.f0) := by
    unfold rest
    have e1 := P_rest (p := L x.f0) h3.1
    have e2 := P_rest (p := L x.f0) hmy
    unfold rest at e1 e2
    rw [e1, e2, List.drop_drop, List.length_drop]
    have := hxy.length_le
    rw [show (P (L x.f0)).length + ((P (L y.f0)).length - (P (L x.f0)).length) = (P (L y.f0)).length by omega]
  rw [this]
/-- What is listed there. -/
theorem sub_names : names (rest (L x.f0) (L y.f0)) (subT (L x.f0) t) = names (L y.f0) t := by
  have hg := ((mayT_char t).1 hm).2.2.1
  have hmx := good_may (hg x hx)
  have hmy := good_may (hg y hy)
  have hs := P_split hxy
  have ch : ∀ (p l : List UInt8), may l = true → (decide (l ≠ []) && (may l && decide (dir l = p))) = decide (l ≠ [] ∧ (P l).dropLast = P p) := by
    intro p l hl
    rw [hl, Bool.true_and, Bool.eq_iff_iff, Bool.and_eq_true, decide_eq_true_iff, decide_eq_true_iff, decide_eq_true_iff]
    constructor
    · rintro ⟨h1, h2⟩
      exact ⟨h1, by rw [← h2, P_dir hl h1]⟩
    · rintro ⟨h1, h2⟩
      exact ⟨h1, P_inj (by rw [P_dir hl h1, h2])⟩
  have hne : ∀ l : List UInt8, l ≠ [] ↔ P l ≠ [] := fun l => not_congr P_eq_nil.symm
  have key : ∀ n ∈ t, (child (rest (L x.f0) (L y.f0)) (subN (L x.f0) n) && under (L n.f0) (L x.f0)) = child (L y.f0) n := by
    intro n hn
    have hmn := good_may (hg n hn)
    have e1 : child (rest (L x.f0) (L y.f0)) (subN (L x.f0) n) = decide (rest (L x.f0) (L n.f0) ≠ [] ∧ (P (rest (L x.f0) (L n.f0))).dropLast = P (rest (L x.f0) (L y.f0))) := ch _ _ (may_rest hmn)
    have e2 : child (L y.f0) n = decide (L n.f0 ≠ [] ∧ (P (L n.f0)).dropLast = P (L y.f0)) := ch _ _ hmn
    rw [e1, e2, Bool.eq_iff_iff, Bool.and_eq_true, under_iff hmn hmx, decide_eq_true_iff, decide_eq_true_iff, hne, hne, P_rest hmn, P_rest hmy]
    constructor
    · rintro ⟨⟨h1, h2⟩, h3⟩
      have h4 := P_split h3
      refine ⟨fun e => h1 (by rw [e, List.drop_nil]), ?_⟩
      rw [h4, List.dropLast_append_of_ne_nil h1, h2, ← hs]
    · rintro ⟨h1, h2⟩
      have h3 : P (L x.f0) <+: P (L n.f0) := hxy.trans (by rw [← h2]; exact List.dropLast_prefix _)
      have h4 := P_split h3
      have h5 : (P (L n.f0)).drop (P (L x.f0)).length ≠ [] := by
        intro e
        rw [e, List.append_nil] at h4
        have h6 := hxy.length_le
        rw [← h2, List.length_dropLast, h4] at h6
        have : (P (L x.f0)).length ≠ 0 := fun e0 => h1 (by rw [h4]; exact List.eq_nil_of_length_eq_zero e0)
        omega
      refine ⟨⟨h5, ?_⟩, h3⟩
      rw [h4, List.dropLast_append_of_ne_nil h5, hs] at h2
      exact List.append_cancel_left h2
  unfold names subT
  rw [List.filter_map, List.filter_filter, List.map_map]
  have hf : t.filter (fun a => (child (rest (L x.f0) (L y.f0)) ∘ subN (L x.f0)) a && under (L a.f0) (L x.f0)) = t.filter (child (L y.f0)) := List.filter_congr key
  rw [hf]
  refine List.map_congr_left fun n hn => ?_
  obtain ⟨h1, h2⟩ := List.mem_filter.1 hn
  have h3 := key n h1
  rw [h2, Bool.and_eq_true] at h3
  have hmn := good_may (hg n h1)
  have h4 := under_may h3.2
  have hn0 : L n.f0 ≠ [] := by
    unfold child at h2
    rw [Bool.and_eq_true, decide_eq_true_iff] at h2
    exact h2.1
  have hr0 : rest (L x.f0) (L n.f0) ≠ [] := by
    have h5 := h3.1
    unfold child at h5
    rw [Bool.and_eq_true, decide_eq_true_iff] at h5
    exact h5.1
  show mkB (base (rest (L x.f0) (L n.f0))) = mkB (base (L n.f0))
  rw [base_P hr0, base_P hn0, P_rest hmn]
  have h6 : (P (L n.f0)).drop (P (L x.f0)).length ≠ [] := fun e => hr0 (by unfold rest; rw [e]; rfl)
  conv => rhs; rw [P_split h4.2.2]
  rw [List.getLastD_eq_getLast?, List.getLastD_eq_getLast?, List.getLast?_append, List.getLast?_eq_some_getLast h6, Option.some_or]
end
theorem FindDeep : hogsheadlaw3_FindDeep.Pure := by
  intro t j i ⟨hl, _⟩ _ _
  have hl' : t.length ≤ 9223372036854775807 := by unfold maxLen at hl; exact hl
  refine ⟨10002, ?_⟩
  unfold hogsheadlaw3_FindDeep.f
  rw [show (60 : Int) = ((60 : Nat) : Int) from rfl, great_f t 60 (by omega) hl' _ (by omega), some_bind]
  by_cases hg : great t 60 = true
  · rw [if_pos hg, hogsheadlaw3_FindDeep.j0, if_pos rfl, awake_f _ (by omega), some_bind]
  rw [if_neg hg]
  obtain ⟨h60, _⟩ := great_not hg
  rw [mayT_f t (by omega) _ (by omega), some_bind]
  by_cases hm : mayT t = true
  case neg =>
    rw [Bool.not_eq_true] at hm
    rw [hm, hogsheadlaw3_FindDeep.j0, if_pos (by rfl), awake_f _ (by omega), some_bind]
  rw [hm, hogsheadlaw3_FindDeep.j0, if_neg (by simp)]
  have h0 : t.length ≠ 0 := ((mayT_iff t).1 hm).1
  rw [low_f j t.length (by omega) (by omega), some_bind]
  obtain ⟨hr1, hr2⟩ := Go.Proofs.YtkloomnkpfaijaaDoor.Bs.low_range j t.length (by omega)
  generalize (j % 18446744073709551616) % (t.length : Int) = jj at hr1 hr2
  obtain ⟨a, rfl⟩ := Int.eq_ofNat_of_zero_le hr1
  have ha : a < t.length := by omega
  rw [if_pos (by omega), if_pos (by omega), rdN]
  have hx := at_mem ha
  generalize at_ t a = x at hx
  rw [sub_here hm (by omega) hx x.f0 rfl _ (by omega), some_bind]
  have hst := subT_tree hm hx
  have hsl : (subT (L x.f0) t).length ≤ 60 := by
    unfold subT
    rw [List.length_map]
    exact Nat.le_trans (List.length_filter_le _ _) h60
  have hs0 : (subT (L x.f0) t).length ≠ 0 := ((mayT_iff _).1 hst).1
  show (if true = true then (if ((subT (L x.f0) t).length : Int) = 0 then _ else _) else _) = _
  rw [if_pos rfl, if_neg (by omega)]
  show ((tree_May.f _ (subT (L x.f0) t)).bind _) = _
  rw [mayT_f _ (by omega) _ (by omega), some_bind, hst, hogsheadlaw3_FindDeep.j1, if_neg (by simp), low_f i ((subT (L x.f0) t).length : Int) (by omega) (by omega), some_bind]
  obtain ⟨hq1, hq2⟩ := Go.Proofs.YtkloomnkpfaijaaDoor.Bs.low_range i (subT (L x.f0) t).length (by omega)
  generalize (i % 18446744073709551616) % ((subT (L x.f0) t).length : Int) = ii at hq1 hq2
  obtain ⟨b, rfl⟩ := Int.eq_ofNat_of_zero_le hq1
  have hb : b < (subT (L x.f0) t).length := by omega
  rw [if_pos (by omega), if_pos (by omega), rdN]
  have hz := at_mem hb
  have hzb : at_ (subT (L x.f0) t) b = at_ (subT (L x.f0) t) b := rfl
  obtain ⟨y, hy, hxy, hyz⟩ := (subT_mem hm hx).1 hz
  have hG := ((mayT_char t).1 hm).2.2.1
  have hmx := good_may (hG x hx)
  have hmy := good_may (hG y hy)
  have hq : L (at_ (subT (L x.f0) t) b).f0 = rest (L x.f0) (L y.f0) := by rw [← hyz]; rfl
  obtain ⟨c, hc, hyc⟩ := mem_at hy
  have hpl : (P (L x.f0)).length ≤ 10 := ((may_iff _).1 hmx).2.2
  have hql : (P (rest (L x.f0) (L y.f0))).length ≤ 10 := ((may_iff _).1 (may_rest hmy)).2.2
  have hpp : P (L x.f0) ++ P (rest (L x.f0) (L y.f0)) = P (L y.f0) := by rw [P_rest hmy]; exact (P_split hxy).symm
  have hjoin : path_Join.f 10000 ((P (L x.f0)).map mkB ++ (P (rest (L x.f0) (L y.f0))).map mkB) = some (mkB (L y.f0), true) := by
    have hyl := ((may_iff _).1 hmy)
    rw [← List.map_append, hpp, join_f _ (by omega) (by rw [J_P]; omega) _ (by omega), if_pos (List.all_eq_true.2 hyl.2.1), J_P]
    unfold fin
    rw [hmy]; rfl
  have hlk1 := look_here hst (by omega) hb (at_ (subT (L x.f0) t) b).f0 rfl 10000 (by omega)
  have hlk2 := look_here hm (by omega) hc (mkB (L y.f0)) (by rw [hyc, L_mkB]) 10000 (by omega)
  have hli1 := list_here hst (by omega) hb (at_ (subT (L x.f0) t) b).f0 rfl 10000 (by omega)
  have hli2 := list_here hm (by omega) hc (mkB (L y.f0)) (by rw [hyc, L_mkB]) 10000 (by omega)
  have hsu1 := sub_here hst (by omega) (at_mem hb) (at_ (subT (L x.f0) t) b).f0 rfl 10000 (by omega)
  have hsu2 := sub_here hm (by omega) hy (mkB (L y.f0)) (by rw [L_mkB]) 10000 (by omega)
  have hk1 : (at_ (subT (L x.f0) t) b).f1 = y.f1 := by rw [← hyz]; rfl
  have hk2 : (at_ (subT (L x.f0) t) b).f2 = y.f2 := by rw [← hyz]; rfl
  rw [hyc] at hlk2 hli2
  rw [hq] at hli1 hsu1
  rw [L_mkB] at hli2 hsu2
  rw [sub_names hm hx hy hxy, hk1] at hli1
  rw [sub_sub hm hx hy hxy] at hsu1
  have hnl : (names (L y.f0) t).length ≤ 1000 := by
    unfold names
    rw [List.length_map]
    have := List.length_filter_le (child (L y.f0)) t
    omega
  have hbl : (subT (L y.f0) t).length ≤ 1000 := by
    unfold subT
    rw [List.length_map]
    exact Nat.le_trans (List.length_filter_le _ _) (by omega)
  rw [split_f _ _ (by omega), some_bind, split_f _ _ (by omega), some_bind, split_P hmx, hq, split_P (may_rest hmy), if_pos (by rw [List.length_map, List.length_map]; omega), hjoin, some_bind, if_pos rfl]
  rw [hsu1, some_bind, hsu2, some_bind, hli1, some_bind, hli2, some_bind, hlk1, some_bind, hlk2, some_bind, if_pos rfl, if_pos rfl, sameN_f _ _ (show (subT (L y.f0) t).length ≤ 1000000 by omega) _ (show (subT (L y.f0) t).length < 10000 by omega), some_bind, if_pos (sameN_self _), if_pos (beq_self_eq_true _),
    same_f _ _ (by by_cases h : y.f1 = 1 <;> simp only [h, if_true, if_false] <;> first | exact hnl | simp) _ (by omega), some_bind, if_pos (decide_eq_true rfl), if_pos rfl, if_pos rfl]
  show (if (at_ (subT (L x.f0) t) b).f1 = y.f1 then (if (at_ (subT (L x.f0) t) b).f2.toList = y.f2.toList then (if y.f0.toList = (mkB (L y.f0)).toList then _ else _) else _) else _) = _
  rw [if_pos hk1, if_pos (by rw [hk2]), if_pos (by rw [mkB_L]), awake_f _ (by omega), some_bind]
end Go.Proofs.YtkloomnkpfaijaaDoor.Pure
