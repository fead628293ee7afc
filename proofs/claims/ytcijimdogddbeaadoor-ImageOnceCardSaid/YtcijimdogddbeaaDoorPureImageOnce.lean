/- slices.SortStableFunc at tree.order, as the print has it: what comes is in order, and at each path the nodes are the same, in the same order. -/
import Derived.Test.YtcijimdogddbeaaDoorNarTh
import Derived.Test.YtcijimdogddbeaaDoorImLay
namespace Go.Proofs.YtcijimdogddbeaaDoor.SortAll
open Go.RowKit Go.Proofs.YtcijimdogddbeaaDoorX Go.Proofs.YtcijimdogddbeaaDoorW.PrintWords Go.Proofs.YtcijimdogddbeaaDoorW.PrintLast Go.Proofs.YtcijimdogddbeaaDoorW.PrintMore Go.Proofs.YtcijimdogddbeaaDoor.P Go.Proofs.YtcijimdogddbeaaDoor.Pa Go.Proofs.YtcijimdogddbeaaDoor.PaTh Go.Proofs.YtcijimdogddbeaaDoor.TreeTh Go.Proofs.YtcijimdogddbeaaDoor.TreeUp
set_option linter.unusedVariables false
set_option linter.unusedSimpArgs false
def isAt (p : List UInt8) (n : Nd) : Bool := decide (L n.f0 = p)
/-- In order: none behind a greater one. -/
def Up (s : List Nd) : Prop := s.Pairwise (fun a b => Op.bytesLess (L b.f0) (L a.f0) = false)
/-- At each path the same nodes, in the same order. -/
def Same (s t : List Nd) : Prop := ∀ p, s.filter (isAt p) = t.filter (isAt p)
theorem Same.refl (s : List Nd) : Same s s := fun _ => rfl
theorem Same.trans {s t u : List Nd} (h : Same s t) (k : Same t u) : Same s u := fun p => (h p).trans (k p)
theorem Same.symm {s t : List Nd} (h : Same s t) : Same t s := fun p => (h p).symm
theorem Same.frame {s t : List Nd} (h : Same s t) (A B : List Nd) : Same (A ++ s ++ B) (A ++ t ++ B) := fun p => by
  simp only [List.filter_append, h p]
theorem Same.mem {s t : List Nd} (h : Same s t) {x : Nd} (hx : x ∈ s) : x ∈ t := by
  have : x ∈ s.filter (isAt (L x.f0)) := List.mem_filter.2 ⟨hx, by unfold isAt; simp⟩
  rw [h] at this
  exact (List.mem_filter.1 this).1
theorem same_turn (A X Y B : List Nd) (h : ∀ x ∈ X, ∀ y ∈ Y, L x.f0 ≠ L y.f0) : Same (A ++ Y ++ X ++ B) (A ++ X ++ Y ++ B) := by
  intro p
  simp only [List.filter_append, List.append_assoc]
  congr 1
  rw [← List.append_assoc, ← List.append_assoc]
  congr 1
  by_cases hX : X.filter (isAt p) = []
  · rw [hX]; simp
  · obtain ⟨x, hx⟩ := List.exists_mem_of_ne_nil _ hX
    obtain ⟨hx1, hx2⟩ := List.mem_filter.1 hx
    have hY : Y.filter (isAt p) = [] := by
      rw [List.filter_eq_nil_iff]
      intro y hy hy2
      unfold isAt at hx2 hy2
      exact h x hx1 y hy ((of_decide_eq_true hx2).trans (of_decide_eq_true hy2).symm)
    rw [hY]; simp
theorem less_eq {a b : List UInt8} (h : Op.bytesLess a b = false) (k : Op.bytesLess b a = false) : a = b := by
  have := less_tri a b
  rw [h, k] at this
  simpa using this
theorem up_same : ∀ (s t : List Nd), Up s → Up t → Same s t → s = t := by
  intro s
  induction s with
  | nil =>
    intro t _ _ h
    cases t with
    | nil => rfl
    | cons y t => exact absurd (h.symm.mem (List.mem_cons_self ..)) (by simp)
  | cons x s ih =>
    intro t hs ht h
    cases t with
    | nil => exact absurd (h.mem (List.mem_cons_self ..)) (by simp)
    | cons y t =>
      have hk : L x.f0 = L y.f0 := by
        have a : Op.bytesLess (L x.f0) (L y.f0) = false := by
          rcases List.mem_cons.1 (h.mem (List.mem_cons_self (a := x) (l := s))) with e | e
          · rw [e]; exact less_irr _
          · exact (List.pairwise_cons.1 ht).1 x e
        have b : Op.bytesLess (L y.f0) (L x.f0) = false := by
          rcases List.mem_cons.1 (h.symm.mem (List.mem_cons_self (a := y) (l := t))) with e | e
          · rw [e]; exact less_irr _
          · exact (List.pairwise_cons.1 hs).1 y e
        exact less_eq a b
      have hx : isAt (L x.f0) x = true := by unfold isAt; simp
      have hy : isAt (L x.f0) y = true := by unfold isAt; simp [hk]
      have h1 := h (L x.f0)
      rw [List.filter_cons, List.filter_cons, if_pos hx, if_pos hy] at h1
      obtain ⟨rfl, _⟩ := List.cons.inj h1
      refine congrArg (x :: ·) (ih t (List.pairwise_cons.1 hs).2 (List.pairwise_cons.1 ht).2 fun p => ?_)
      have h2 := h p
      rw [List.filter_cons, List.filter_cons] at h2
      by_cases e : isAt p x = true
      · rw [if_pos e, if_pos e] at h2; exact (List.cons.inj h2).2
      · rw [if_neg e, if_neg e] at h2; exact h2
theorem rd_mid (P : List Nd) (u : Nd) (R : List Nd) (i : Int) (h : i = P.length) : rd_T46 (P ++ u :: R) i = u := by
  subst h
  unfold rd_T46
  rw [Int.toNat_natCast, List.getD_eq_getElem?_getD, List.getElem?_append_right (Nat.le_refl _), Nat.sub_self]
  rfl
theorem set_mid : ∀ (P : List Nd) (u : Nd) (R : List Nd) (v : Nd), (P ++ u :: R).set P.length v = P ++ v :: R
  | [], u, R, v => rfl
  | x :: P, u, R, v => by rw [List.cons_append, List.length_cons, List.set_cons_succ, set_mid P u R v]; rfl
/-- Two ranges that are alike long, exchanged. -/
theorem swap_l0 : ∀ (U V : List Nd), U.length = V.length → ∀ (P M B : List Nd) (a b n i : Int) (k : Nat), 0 ≤ a → 0 ≤ b → 0 ≤ i → a + i = P.length → b + i = P.length + U.length + M.length → n = i + U.length → P.length + U.length + M.length + V.length + B.length ≤ 1000000 → U.length < k →
    api_Node_86.l0 k (P ++ U ++ M ++ V ++ B) a b n i = some (P ++ V ++ M ++ U ++ B) := by
  intro U
  induction U with
  | nil =>
    intro V hV P M B a b n i k ha hb hi h1 h2 h3 hz hk
    obtain ⟨k, rfl⟩ : ∃ m, k = m + 1 := ⟨k - 1, by omega⟩
    obtain rfl : V = [] := List.eq_nil_of_length_eq_zero (by simpa using hV.symm)
    simp only [List.length_nil] at h3
    rw [api_Node_86.l0, if_neg (by omega)]
  | cons u U ih =>
    intro V hV P M B a b n i k ha hb hi h1 h2 h3 hz hk
    obtain ⟨k, rfl⟩ : ∃ m, k = m + 1 := ⟨k - 1, by omega⟩
    cases V with
    | nil => simp at hV
    | cons v V =>
      simp only [List.length_cons] at hV h2 h3 hz hk
      have e1 : P ++ (u :: U) ++ M ++ (v :: V) ++ B = P ++ u :: (U ++ M ++ v :: V ++ B) := by simp
      have e2 : P ++ (u :: U) ++ M ++ (v :: V) ++ B = (P ++ u :: U ++ M) ++ v :: (V ++ B) := by simp
      have hlen : (P ++ (u :: U) ++ M ++ (v :: V) ++ B).length = P.length + (U.length + 1) + M.length + (V.length + 1) + B.length := by simp; omega
      have r1 : rd_T46 (P ++ (u :: U) ++ M ++ (v :: V) ++ B) (a + i) = u := by rw [e1]; exact rd_mid _ _ _ _ (by omega)
      have r2 : rd_T46 (P ++ (u :: U) ++ M ++ (v :: V) ++ B) (b + i) = v := by rw [e2]; exact rd_mid _ _ _ _ (by simp; omega)
      have s1 : (P ++ (u :: U) ++ M ++ (v :: V) ++ B).set P.length v = P ++ v :: U ++ M ++ v :: V ++ B := by rw [e1, set_mid]; simp
      have s2 : (P ++ v :: U ++ M ++ v :: V ++ B).set (P ++ v :: U ++ M).length u = P ++ v :: U ++ M ++ u :: V ++ B := by
        rw [show P ++ v :: U ++ M ++ v :: V ++ B = (P ++ v :: U ++ M) ++ v :: (V ++ B) by simp, set_mid]; simp
      rw [api_Node_86.l0, if_pos (by omega), show wrap64 (b + i) = b + i from wrap_in (by omega) (by omega), show wrap64 (a + i) = a + i from wrap_in (by omega) (by omega), if_pos (by omega), if_pos (by rw [hlen]; omega), if_pos (by omega), if_pos (by rw [hlen]; omega),
        r1, r2, Nd_eta, Nd_eta, show (a + i).toNat = P.length by omega, show (b + i).toNat = (P ++ v :: U ++ M).length by simp; omega, s1, s2, show wrap64 (i + 1) = i + 1 from wrap_in (by omega) (by omega)]
      have := ih V (by omega) (P ++ [v]) (M ++ [u]) B a b n (i + 1) k ha hb (by omega) (by simp; omega) (by simp; omega) (by omega) (by simp; omega) (by omega)
      rw [show P ++ v :: U ++ M ++ u :: V ++ B = P ++ [v] ++ U ++ (M ++ [u]) ++ V ++ B by simp, this]
      simp
theorem swap_f (P U M V B : List Nd) (hUV : U.length = V.length) (a b n : Int) (z : Bool) (k : Nat) (ha : a = P.length) (hb : b = P.length + U.length + M.length) (hn : n = U.length) (hz : P.length + U.length + M.length + V.length + B.length ≤ 1000000) (hk : U.length < k) :
    api_Node_86.f k (P ++ U ++ M ++ V ++ B) a b n z = some (P ++ V ++ M ++ U ++ B) := by
  unfold api_Node_86.f
  exact swap_l0 U V hUV P M B a b n 0 k (by omega) (by omega) (by omega) (by omega) (by omega) (by omega) hz hk
/-- Two blocks behind one another, exchanged. -/
theorem rot_l0 : ∀ (f : Nat) (X Y A B : List Nd) (m i j : Int) (z : Bool) (k : Nat), X.length + Y.length ≤ f → X ≠ [] → Y ≠ [] → m = A.length + X.length → i = X.length → j = Y.length → A.length + X.length + Y.length + B.length ≤ 1000000 → 2 * f + 2 ≤ k →
    api_Node_79.l0 k (A ++ X ++ Y ++ B) m z i j = some (A ++ Y ++ X ++ B) := by
  intro f
  induction f with
  | zero =>
    intro X Y A B m i j z k hf hX
    exact absurd (List.eq_nil_of_length_eq_zero (by omega)) hX
  | succ f ih =>
    intro X Y A B m i j z k hf hX hY hm hi hj hz hk
    obtain ⟨k, rfl⟩ : ∃ m, k = m + 1 := ⟨k - 1, by omega⟩
    have lX : X.length ≠ 0 := fun e => hX (List.eq_nil_of_length_eq_zero e)
    have lY : Y.length ≠ 0 := fun e => hY (List.eq_nil_of_length_eq_zero e)
    rw [api_Node_79.l0, show wrap64 (m - i) = m - i from wrap_in (by omega) (by omega)]
    by_cases h1 : i = j
    · have := swap_f A X [] Y B (by omega) (m - i) m i z k (by omega) (by simp; omega) hi (by simp; omega) (by omega)
      rw [List.append_nil] at this
      rw [if_pos h1, this, some_bind, List.append_nil]
    rw [if_neg h1]
    by_cases h2 : i > j
    · obtain ⟨X1, X2, rfl, h3⟩ : ∃ X1 X2, X = X1 ++ X2 ∧ X1.length = Y.length := ⟨X.take Y.length, X.drop Y.length, (List.take_append_drop ..).symm, by rw [List.length_take]; omega⟩
      rw [List.length_append] at hf hm hi hz lX
      have := swap_f A X1 X2 Y B h3 (m - i) m j z k (by omega) (by omega) (by omega) (by omega) (by omega)
      rw [if_pos h2, ← List.append_assoc A X1 X2, this, some_bind, show wrap64 (i - j) = i - j from wrap_in (by omega) (by omega), ih X2 X1 (A ++ Y) B m (i - j) j z k (by omega) (fun e => by rw [e] at hi; simp at hi; omega) (fun e => by rw [e] at h3; simp at h3; omega) (by rw [List.length_append]; omega) (by omega) (by omega) (by rw [List.length_append]; omega) (by omega)]
      simp
    · obtain ⟨Y1, Y2, rfl, h3⟩ : ∃ Y1 Y2, Y = Y1 ++ Y2 ∧ Y2.length = X.length := ⟨Y.take (Y.length - X.length), Y.drop (Y.length - X.length), (List.take_append_drop ..).symm, by rw [List.length_drop]; omega⟩
      rw [List.length_append] at hf hj hz lY
      have := swap_f A X Y1 Y2 B h3.symm (m - i) (m + j - i) i z k (by omega) (by omega) (by omega) (by omega) (by omega)
      rw [if_neg h2, show wrap64 (m + j) = m + j from wrap_in (by omega) (by omega), show wrap64 (m + j - i) = m + j - i from wrap_in (by omega) (by omega), show A ++ X ++ (Y1 ++ Y2) ++ B = A ++ X ++ Y1 ++ Y2 ++ B by simp, this, some_bind, show wrap64 (j - i) = j - i from wrap_in (by omega) (by omega),
        show A ++ Y2 ++ Y1 ++ X ++ B = A ++ Y2 ++ Y1 ++ (X ++ B) by simp, ih Y2 Y1 A (X ++ B) m i (j - i) z k (by omega) (fun e => by rw [e] at h3; simp at h3; omega) (fun e => by rw [e] at hj; simp at hj; omega) (by omega) (by omega) (by omega) (by rw [List.length_append]; omega) (by omega)]
      simp
theorem rot_f (A X Y B : List Nd) (hX : X ≠ []) (hY : Y ≠ []) (a m b : Int) (z : Bool) (k : Nat) (ha : a = A.length) (hm : m = A.length + X.length) (hb : b = A.length + X.length + Y.length) (hz : A.length + X.length + Y.length + B.length ≤ 1000000) (hk : 2 * (X.length + Y.length) + 2 ≤ k) :
    api_Node_79.f k (A ++ X ++ Y ++ B) a m b z = some (A ++ Y ++ X ++ B) := by
  unfold api_Node_79.f
  rw [show wrap64 (m - a) = m - a from wrap_in (by omega) (by omega), show wrap64 (b - m) = b - m from wrap_in (by omega) (by omega)]
  exact rot_l0 _ X Y A B m (m - a) (b - m) z k (Nat.le_refl _) hX hY hm (by omega) (by omega) hz hk
theorem order_f (a b : Nd) : tree_order.f a.f0 a.f1 a.f2 b.f0 b.f1 b.f2 = some (if Op.bytesLess (L a.f0) (L b.f0) = true then -1 else if Op.bytesLess (L b.f0) (L a.f0) = true then 1 else 0) := by
  unfold tree_order.f cmp_Compare_string.f cmp_isNaN_string.f
  rw [bne_self_eq_false, bne_self_eq_false, some_bind, some_bind, if_neg (by simp), if_neg (by simp), toL, toL]
  by_cases h : Op.bytesLess (L a.f0) (L b.f0) = true
  · rw [if_pos h, if_pos h]; rfl
  rw [if_neg h, if_neg h]
  by_cases h2 : Op.bytesLess (L b.f0) (L a.f0) = true
  · rw [if_pos h2, if_pos h2]; rfl
  · rw [if_neg h2, if_neg h2]; rfl
theorem mid_ {x y : Int} (h0 : 0 ≤ x) (h1 : 0 ≤ y) (hx : x ≤ 1000000) (hy : y ≤ 1000000) : wrap64 ((IntKind.u64.wrap (wrap64 (x + y))) / 2) = (x + y) / 2 := by
  rw [wrap_in (a := x + y) (by omega) (by omega), show IntKind.u64.wrap (x + y) = x + y by show (x + y) % 18446744073709551616 = x + y; exact Int.emod_eq_of_lt (by omega) (by omega)]
  exact wrap_in (by omega) (by omega)
/-- Is a node's path ahead of another's? -/
def lt (a b : Nd) : Bool := Op.bytesLess (L a.f0) (L b.f0)
theorem ord_lt (a b : Nd) : ∃ r, tree_order.f a.f0 a.f1 a.f2 b.f0 b.f1 b.f2 = some r ∧ (r < 0 ↔ lt a b = true) := by
  refine ⟨_, order_f a b, ?_⟩
  unfold lt
  by_cases h : Op.bytesLess (L a.f0) (L b.f0) = true
  · rw [if_pos h]; exact ⟨fun _ => h, fun _ => by omega⟩
  · rw [if_neg h]
    refine ⟨fun e => ?_, fun e => absurd e h⟩
    by_cases h2 : Op.bytesLess (L b.f0) (L a.f0) = true
    · rw [if_pos h2] at e; omega
    · rw [if_neg h2] at e; omega
theorem lt_trans {a b c : Nd} (h : lt a b = true) (k : lt b c = true) : lt a c = true := less_trans h k
theorem lt_not {a b : Nd} (h : lt a b = true) : lt b a = false := less_not h
theorem lt_irr (a : Nd) : lt a a = false := less_irr _
theorem le_lt {a b c : Nd} (h : lt b a = false) (k : lt b c = true) : lt a c = true := by
  cases e : lt a b
  · have : L b.f0 = L a.f0 := less_eq h e
    unfold lt at k ⊢; rw [← this]; exact k
  · exact lt_trans e k
theorem lt_le {a b c : Nd} (h : lt a b = true) (k : lt c b = false) : lt a c = true := by
  cases e : lt b c
  · have : L c.f0 = L b.f0 := less_eq k e
    unfold lt at h ⊢; rw [this]; exact h
  · exact lt_trans h e
theorem le_trans {a b c : Nd} (h : lt b a = false) (k : lt c b = false) : lt c a = false := by
  cases e : lt c a
  · rfl
  · rw [lt_le e h] at k; cases k
theorem lt_ne {a b : Nd} (h : lt a b = true) : L a.f0 ≠ L b.f0 := fun e => by
  unfold lt at h
  rw [e, less_irr] at h
  cases h
theorem up_mid {P : List Nd} {y : Nd} {R : List Nd} (h : Up (P ++ R)) (h1 : ∀ p ∈ P, lt y p = false) (h2 : ∀ r ∈ R, lt r y = false) : Up (P ++ y :: R) := by
  unfold Up at *
  rw [List.pairwise_append] at *
  refine ⟨h.1, List.pairwise_cons.2 ⟨fun r hr => h2 r hr, h.2.1⟩, fun p hp r hr => ?_⟩
  rcases List.mem_cons.1 hr with e | e
  · subst e; exact h1 p hp
  · exact h.2.2 p hp r e
/-- One node goes forward among what is in order. -/
theorem ins_l1 : ∀ (n : Nat) (P1 P2 A R : List Nd) (y : Nd) (a b i j : Int) (k : Nat), P1.length = n → a = A.length → j = A.length + P1.length → A.length + P1.length + 1 + P2.length + R.length ≤ 1000000 → P1.length + 2 ≤ k → Up (P1 ++ P2) → (∀ p ∈ P2, lt y p = true) →
    ∃ Q k', api_Node_70.l1 k (A ++ (P1 ++ y :: P2) ++ R) a b i j = api_Node_70.l0 k' (A ++ Q ++ R) a b (wrap64 (i + 1)) ∧ k ≤ k' + n + 1 ∧ Up Q ∧ Same Q (P1 ++ y :: P2) ∧ Q.length = P1.length + 1 + P2.length := by
  intro n
  induction n with
  | zero =>
    intro P1 P2 A R y a b i j k hn ha hj hz hk hu hy
    obtain ⟨k, rfl⟩ : ∃ m, k = m + 1 := ⟨k - 1, by omega⟩
    obtain rfl : P1 = [] := List.eq_nil_of_length_eq_zero hn
    refine ⟨y :: P2, k, ?_, by omega, up_mid (P := []) hu (by simp) (fun r hr => lt_not (hy r hr)), Same.refl _, by simp; omega⟩
    simp only [List.length_nil] at hj
    rw [api_Node_70.l1, if_neg (by omega)]
    rfl
  | succ n ih =>
    intro P1 P2 A R y a b i j k hn ha hj hz hk hu hy
    obtain ⟨k, rfl⟩ : ∃ m, k = m + 1 := ⟨k - 1, by omega⟩
    obtain ⟨P, x, rfl⟩ : ∃ P x, P1 = P ++ [x] := ⟨P1.dropLast, P1.getLast (fun e => by rw [e] at hn; simp at hn), (List.dropLast_concat_getLast _).symm⟩
    simp only [List.length_append, List.length_cons, List.length_nil] at hn hj hz hk
    have hlen : (A ++ (P ++ [x] ++ y :: P2) ++ R).length = A.length + P.length + 1 + 1 + P2.length + R.length := by simp; omega
    have r1 : rd_T46 (A ++ (P ++ [x] ++ y :: P2) ++ R) j = y := by
      rw [show A ++ (P ++ [x] ++ y :: P2) ++ R = (A ++ P ++ [x]) ++ y :: (P2 ++ R) by simp]; exact rd_mid _ _ _ _ (by simp; omega)
    have r2 : rd_T46 (A ++ (P ++ [x] ++ y :: P2) ++ R) (j - 1) = x := by
      rw [show A ++ (P ++ [x] ++ y :: P2) ++ R = (A ++ P) ++ x :: (y :: P2 ++ R) by simp]; exact rd_mid _ _ _ _ (by simp; omega)
    obtain ⟨r, hr, hr0⟩ := ord_lt y x
    rw [api_Node_70.l1, if_pos (by omega), if_pos (by omega), if_pos (by rw [hlen]; omega), show wrap64 (j - 1) = j - 1 from wrap_in (by omega) (by omega), if_pos (by omega), if_pos (by rw [hlen]; omega), r1, r2, hr, some_bind]
    cases e : lt y x
    · refine ⟨P ++ [x] ++ y :: P2, k, ?_, by omega, ?_, Same.refl _, by simp; omega⟩
      · rw [if_neg (fun h => by rw [hr0.1 h] at e; cases e)]
      · refine up_mid hu (fun p hp => ?_) (fun r hr => lt_not (hy r hr))
        rcases List.mem_append.1 hp with hp | hp
        · have := (List.pairwise_append.1 (List.pairwise_append.1 hu).1).2.2 p hp x (by simp)
          exact le_trans this e
        · rw [List.mem_singleton.1 hp]; exact e
    · have s1 : (A ++ (P ++ [x] ++ y :: P2) ++ R).set j.toNat x = A ++ (P ++ [x] ++ x :: P2) ++ R := by
        rw [show A ++ (P ++ [x] ++ y :: P2) ++ R = (A ++ P ++ [x]) ++ y :: (P2 ++ R) by simp, show j.toNat = (A ++ P ++ [x]).length by simp; omega, set_mid]; simp
      have s2 : (A ++ (P ++ [x] ++ x :: P2) ++ R).set (j - 1).toNat y = A ++ (P ++ y :: (x :: P2)) ++ R := by
        rw [show A ++ (P ++ [x] ++ x :: P2) ++ R = (A ++ P) ++ x :: (x :: P2 ++ R) by simp, show (j - 1).toNat = (A ++ P).length by simp; omega, set_mid]; simp
      rw [if_pos (hr0.2 e), Nd_eta, Nd_eta, s1, s2]
      obtain ⟨Q, k', h1, h2, h3, h4, h5⟩ := ih P (x :: P2) A R y a b i (j - 1) k (by omega) ha (by omega) (by simp; omega) (by omega) (by simpa using hu) (fun p hp => by
        rcases List.mem_cons.1 hp with hp | hp
        · rw [hp]; exact e
        · exact hy p hp)
      refine ⟨Q, k', h1, by omega, h3, h4.trans ?_, by rw [h5]; simp; omega⟩
      have := same_turn P [x] [y] P2 (fun a ha b hb => by
        rw [List.mem_singleton.1 ha, List.mem_singleton.1 hb]
        exact fun h => lt_ne e h.symm)
      simpa using this
theorem ins_l0 (N : Nat) (A B : List Nd) (a b : Int) (ha : a = A.length) (hz : A.length + N + B.length ≤ 1000000) : ∀ (f : Nat) (P R : List Nd) (i : Int) (k : Nat), R.length = f → P.length + R.length = N → P ≠ [] → i = A.length + P.length → b = i + R.length → Up P → (f + 1) * (N + 3) ≤ k →
    ∃ Z, api_Node_70.l0 k (A ++ P ++ R ++ B) a b i = some (A ++ Z ++ B) ∧ Up Z ∧ Same Z (P ++ R) ∧ Z.length = N := by
  intro f
  induction f with
  | zero =>
    intro P R i k hf hN hP hi hb hu hk
    obtain ⟨k, rfl⟩ : ∃ m, k = m + 1 := ⟨k - 1, by omega⟩
    obtain rfl : R = [] := List.eq_nil_of_length_eq_zero hf
    refine ⟨P, ?_, hu, by rw [List.append_nil]; exact Same.refl _, by simpa using hN⟩
    simp only [List.length_nil] at hb
    rw [api_Node_70.l0, if_neg (by omega), List.append_nil]
  | succ f ih =>
    intro P R i k hf hN hP hi hb hu hk
    have hk2 : (f + 1 + 1) * (N + 3) = (f + 1) * (N + 3) + (N + 3) := by rw [Nat.add_mul, Nat.one_mul]
    obtain ⟨k, rfl⟩ : ∃ m, k = m + 1 := ⟨k - 1, by omega⟩
    cases R with
    | nil => simp at hf
    | cons y R =>
      simp only [List.length_cons] at hf hN hb
      obtain ⟨Q, k', h1, h2, h3, h4, h5⟩ := ins_l1 P.length P [] A (R ++ B) y a b i i k rfl ha hi (by rw [List.length_append, List.length_nil]; omega) (by omega) (by rw [List.append_nil]; exact hu) (by simp)
      rw [api_Node_70.l0, if_pos (by omega), show A ++ P ++ y :: R ++ B = A ++ (P ++ y :: []) ++ (R ++ B) by simp, h1, show wrap64 (i + 1) = i + 1 from wrap_in (by omega) (by omega), ← List.append_assoc]
      simp only [List.length_nil] at h5
      obtain ⟨Z, z1, z2, z3, z4⟩ := ih Q R (i + 1) k' (by omega) (by omega) (fun e => by rw [e] at h5; simp at h5) (by omega) (by omega) h3 (by omega)
      refine ⟨Z, z1, z2, z3.trans ?_, z4⟩
      have := (h4.frame [] R)
      simpa using this
/-- A block put in order. -/
theorem insert_f (A X B : List Nd) (a b : Int) (z : Bool) (k : Nat) (ha : a = A.length) (hb : b = A.length + X.length) (hz : A.length + X.length + B.length ≤ 1000000) (hk : (X.length + 1) * (X.length + 3) ≤ k) :
    ∃ Z, api_Node_70.f k (A ++ X ++ B) a b z = some (A ++ Z ++ B) ∧ Up Z ∧ Same Z X ∧ Z.length = X.length := by
  unfold api_Node_70.f
  rw [show wrap64 (a + 1) = a + 1 from wrap_in (by omega) (by omega)]
  cases X with
  | nil =>
    simp only [List.length_nil] at hb hk
    obtain ⟨k, rfl⟩ : ∃ m, k = m + 1 := ⟨k - 1, by omega⟩
    refine ⟨[], ?_, List.Pairwise.nil, Same.refl _, rfl⟩
    rw [api_Node_70.l0, if_neg (by omega)]
  | cons x X =>
    simp only [List.length_cons] at hb hz hk
    obtain ⟨Z, h1, h2, h3, h4⟩ := ins_l0 (X.length + 1) A B a b ha (by omega) X.length [x] X (a + 1) k rfl (by simp; omega) (by simp) (by simp; omega) (by omega) (List.pairwise_singleton _ _) (by
      refine Nat.le_trans (Nat.mul_le_mul_right _ (by omega)) hk)
    refine ⟨Z, ?_, h2, by simpa using h3, by rw [h4]; rfl⟩
    rw [← h1]
    simp
theorem up_left {P R : List Nd} (h : Up (P ++ R)) : Up P := (List.pairwise_append.1 h).1
theorem up_right {P R : List Nd} (h : Up (P ++ R)) : Up R := (List.pairwise_append.1 h).2.1
theorem up_cross {P R : List Nd} (h : Up (P ++ R)) {p r : Nd} (hp : p ∈ P) (hr : r ∈ R) : lt r p = false := (List.pairwise_append.1 h).2.2 p hp r hr
theorem up_join {P R : List Nd} (h : Up P) (k : Up R) (c : ∀ p ∈ P, ∀ r ∈ R, lt r p = false) : Up (P ++ R) := List.pairwise_append.2 ⟨h, k, c⟩
/-- A row parted at a place. -/
theorem part_at (Y : List Nd) (n : Nat) (h : n < Y.length) : ∃ U v W, Y = U ++ v :: W ∧ U.length = n := ⟨Y.take n, Y[n], Y.drop (n + 1), by rw [← List.drop_eq_getElem_cons h, List.take_append_drop], by rw [List.length_take]; omega⟩
/-- Where one node that stands ahead goes among those behind it. -/
theorem sm0_find (A B : List Nd) (x : Nd) (a : Int) (ha : a = A.length) : ∀ (f : Nat) (Y1 Ym Y2 : List Nd) (i j : Int) (k : Nat), Ym.length ≤ f → i = a + 1 + Y1.length → j = i + Ym.length → A.length + 1 + Y1.length + Ym.length + Y2.length + B.length ≤ 1000000 → f + 1 ≤ k → Up (Y1 ++ Ym ++ Y2) → (∀ y ∈ Y1, lt y x = true) → (∀ y ∈ Y2, lt y x = false) →
    ∃ U V k', Y1 ++ Ym ++ Y2 = U ++ V ∧ api_Node_71.l0 k (A ++ x :: (Y1 ++ Ym ++ Y2) ++ B) a i j = api_Node_71.l1 k' (A ++ x :: (U ++ V) ++ B) (a + 1 + U.length) a ∧ k ≤ k' + f + 1 ∧ (∀ y ∈ U, lt y x = true) ∧ (∀ y ∈ V, lt y x = false) := by
  intro f
  induction f with
  | zero =>
    intro Y1 Ym Y2 i j k hf hi hj hz hk hu h1 h2
    obtain ⟨k, rfl⟩ : ∃ m, k = m + 1 := ⟨k - 1, by omega⟩
    obtain rfl : Ym = [] := List.eq_nil_of_length_eq_zero (by omega)
    simp only [List.length_nil] at hj
    refine ⟨Y1, Y2, k, by simp, ?_, by omega, h1, h2⟩
    rw [api_Node_71.l0, if_neg (by omega), hi]
    simp
  | succ f ih =>
    intro Y1 Ym Y2 i j k hf hi hj hz hk hu h1 h2
    obtain ⟨k, rfl⟩ : ∃ m, k = m + 1 := ⟨k - 1, by omega⟩
    by_cases e0 : Ym.length = 0
    · obtain rfl : Ym = [] := List.eq_nil_of_length_eq_zero e0
      simp only [List.length_nil] at hj
      refine ⟨Y1, Y2, k, by simp, ?_, by omega, h1, h2⟩
      rw [api_Node_71.l0, if_neg (by omega), hi]
      simp
    obtain ⟨U, v, W, rfl, hU⟩ := part_at Ym ((i + j) / 2 - i).toNat (by omega)
    simp only [List.length_append, List.length_cons] at hf hj hz
    have hlen : (A ++ x :: (Y1 ++ (U ++ v :: W) ++ Y2) ++ B).length = A.length + 1 + Y1.length + U.length + 1 + W.length + Y2.length + B.length := by simp; omega
    have r1 : rd_T46 (A ++ x :: (Y1 ++ (U ++ v :: W) ++ Y2) ++ B) ((i + j) / 2) = v := by
      rw [show A ++ x :: (Y1 ++ (U ++ v :: W) ++ Y2) ++ B = (A ++ x :: (Y1 ++ U)) ++ v :: (W ++ Y2 ++ B) by simp]; exact rd_mid _ _ _ _ (by simp; omega)
    have r2 : rd_T46 (A ++ x :: (Y1 ++ (U ++ v :: W) ++ Y2) ++ B) a = x := by
      rw [show A ++ x :: (Y1 ++ (U ++ v :: W) ++ Y2) ++ B = A ++ x :: (Y1 ++ (U ++ v :: W) ++ Y2 ++ B) by simp]; exact rd_mid _ _ _ _ ha
    obtain ⟨r, hr, hr0⟩ := ord_lt v x
    rw [api_Node_71.l0, if_pos (by omega), mid_ (by omega) (by omega) (by omega) (by omega), if_pos (by omega), if_pos (by rw [hlen]; omega), if_pos (by omega), if_pos (by rw [hlen]; omega), r1, r2, hr, some_bind]
    have hu' : Up (Y1 ++ (U ++ (v :: W ++ Y2))) := by simpa using hu
    cases e : lt v x
    · rw [if_neg (fun h => by rw [hr0.1 h] at e; cases e)]
      obtain ⟨P, V, k', q1, q2, q3, q4, q5⟩ := ih Y1 U (v :: W ++ Y2) i ((i + j) / 2) k (by omega) hi (by omega) (by simp; omega) (by omega) (by simpa using hu) h1 (fun y hy => by
        rcases List.mem_append.1 hy with hy | hy
        · rcases List.mem_cons.1 hy with hy | hy
          · rw [hy]; exact e
          · have : lt y v = false := (List.pairwise_cons.1 (up_left (R := Y2) (up_right (up_right hu')))).1 y hy
            exact le_trans (a := x) (b := v) (c := y) e this
        · exact h2 y hy)
      refine ⟨P, V, k', by rw [← q1]; simp, ?_, by omega, q4, q5⟩
      rw [← q2]; simp
    · rw [if_pos (hr0.2 e), show wrap64 ((i + j) / 2 + 1) = (i + j) / 2 + 1 from wrap_in (by omega) (by omega)]
      obtain ⟨P, V, k', q1, q2, q3, q4, q5⟩ := ih (Y1 ++ U ++ [v]) W Y2 ((i + j) / 2 + 1) j k (by omega) (by simp; omega) (by omega) (by simp; omega) (by omega) (by simpa using hu) (fun y hy => by
        rcases List.mem_append.1 hy with hy | hy
        · rcases List.mem_append.1 hy with hy | hy
          · exact h1 y hy
          · have : lt v y = false := up_cross (up_right hu') hy (by simp)
            exact le_lt this e
        · rw [List.mem_singleton.1 hy]; exact e) h2
      refine ⟨P, V, k', by rw [← q1]; simp, ?_, by omega, q4, q5⟩
      rw [← q2]; simp
/-- One node carried behind others. -/
theorem sm1_move (x : Nd) (R : List Nd) (i : Int) : ∀ (U A : List Nd) (c : Int) (k : Nat), c = A.length → i = c + 1 + U.length → A.length + 1 + U.length + R.length ≤ 1000000 → U.length < k → api_Node_71.l1 k (A ++ x :: U ++ R) i c = some (A ++ U ++ x :: R) := by
  intro U
  induction U with
  | nil =>
    intro A c k hc hi hz hk
    obtain ⟨k, rfl⟩ : ∃ m, k = m + 1 := ⟨k - 1, by omega⟩
    simp only [List.length_nil] at hi
    rw [api_Node_71.l1, show wrap64 (i - 1) = i - 1 from wrap_in (by omega) (by omega), if_neg (by omega)]
    simp
  | cons u U ih =>
    intro A c k hc hi hz hk
    obtain ⟨k, rfl⟩ : ∃ m, k = m + 1 := ⟨k - 1, by omega⟩
    simp only [List.length_cons] at hi hz hk
    have hlen : (A ++ x :: (u :: U) ++ R).length = A.length + 1 + (U.length + 1) + R.length := by simp; omega
    have r1 : rd_T46 (A ++ x :: (u :: U) ++ R) (c + 1) = u := by
      rw [show A ++ x :: (u :: U) ++ R = (A ++ [x]) ++ u :: (U ++ R) by simp]; exact rd_mid _ _ _ _ (by simp; omega)
    have r2 : rd_T46 (A ++ x :: (u :: U) ++ R) c = x := by
      rw [show A ++ x :: (u :: U) ++ R = A ++ x :: (u :: U ++ R) by simp]; exact rd_mid _ _ _ _ hc
    have s1 : (A ++ x :: (u :: U) ++ R).set c.toNat u = A ++ u :: (u :: U) ++ R := by
      rw [show A ++ x :: (u :: U) ++ R = A ++ x :: (u :: U ++ R) by simp, show c.toNat = A.length by omega, set_mid]; simp
    have s2 : (A ++ u :: (u :: U) ++ R).set (c + 1).toNat x = (A ++ [u]) ++ x :: U ++ R := by
      rw [show A ++ u :: (u :: U) ++ R = (A ++ [u]) ++ u :: (U ++ R) by simp, show (c + 1).toNat = (A ++ [u]).length by simp; omega, set_mid]; simp
    rw [api_Node_71.l1, show wrap64 (i - 1) = i - 1 from wrap_in (by omega) (by omega), if_pos (by omega), show wrap64 (c + 1) = c + 1 from wrap_in (by omega) (by omega), if_pos (by omega), if_pos (by rw [hlen]; omega), if_pos (by omega), if_pos (by rw [hlen]; omega), r1, r2, Nd_eta, Nd_eta, s1, s2,
      ih (A ++ [u]) (c + 1) k (by simp; omega) (by omega) (by simp; omega) (by omega)]
    simp
/-- The merge of one node with those behind it. -/
theorem sm0_f (A Y B : List Nd) (x : Nd) (a b : Int) (ha : a = A.length) (hb : b = a + 1 + Y.length) (hz : A.length + 1 + Y.length + B.length ≤ 1000000) (k : Nat) (hk : 2 * Y.length + 3 ≤ k) (hu : Up Y) :
    ∃ Z, api_Node_71.l0 k (A ++ x :: Y ++ B) a (a + 1) b = some (A ++ Z ++ B) ∧ Up Z ∧ Same Z (x :: Y) ∧ Z.length = 1 + Y.length := by
  obtain ⟨U, V, k', q1, q2, q3, q4, q5⟩ := sm0_find A B x a ha Y.length [] Y [] (a + 1) b k (Nat.le_refl _) (by simp) (by omega) (by simp; omega) (by omega) (by simpa using hu) (by simp) (by simp)
  simp only [List.nil_append, List.append_nil] at q1 q2
  have hl : Y.length = U.length + V.length := by rw [q1, List.length_append]
  rw [q2, show A ++ x :: (U ++ V) ++ B = A ++ x :: U ++ (V ++ B) by simp, sm1_move x (V ++ B) _ U A a k' ha rfl (by rw [List.length_append]; omega) (by omega)]
  rw [q1] at hu ⊢
  refine ⟨U ++ x :: V, by simp, up_mid hu (fun p hp => lt_not (q4 p hp)) q5, ?_, by simp; omega⟩
  have := same_turn [] [x] U V (fun a ha b hb => by
    rw [List.mem_singleton.1 ha]
    exact fun h => lt_ne (q4 b hb) h.symm)
  simpa using this
/-- Where one node that stands behind goes among those ahead of it. -/
theorem sm2_find (A B : List Nd) (y : Nd) (a m : Int) (ha : a = A.length) : ∀ (f : Nat) (Y1 Ym Y2 : List Nd) (i j : Int) (k : Nat), Ym.length ≤ f → i = a + Y1.length → j = i + Ym.length → m = a + Y1.length + Ym.length + Y2.length → A.length + 1 + Y1.length + Ym.length + Y2.length + B.length ≤ 1000000 → f + 1 ≤ k → Up (Y1 ++ Ym ++ Y2) → (∀ x ∈ Y1, lt y x = false) → (∀ x ∈ Y2, lt y x = true) →
    ∃ U V k', Y1 ++ Ym ++ Y2 = U ++ V ∧ api_Node_71.l2 k (A ++ (Y1 ++ Ym ++ Y2) ++ y :: B) m i j = api_Node_71.l3 k' (A ++ (U ++ V) ++ y :: B) (a + U.length) m ∧ k ≤ k' + f + 1 ∧ (∀ x ∈ U, lt y x = false) ∧ (∀ x ∈ V, lt y x = true) := by
  intro f
  induction f with
  | zero =>
    intro Y1 Ym Y2 i j k hf hi hj hm hz hk hu h1 h2
    obtain ⟨k, rfl⟩ : ∃ m, k = m + 1 := ⟨k - 1, by omega⟩
    obtain rfl : Ym = [] := List.eq_nil_of_length_eq_zero (by omega)
    simp only [List.length_nil] at hj
    refine ⟨Y1, Y2, k, by simp, ?_, by omega, h1, h2⟩
    rw [api_Node_71.l2, if_neg (by omega), hi]
    simp
  | succ f ih =>
    intro Y1 Ym Y2 i j k hf hi hj hm hz hk hu h1 h2
    obtain ⟨k, rfl⟩ : ∃ m, k = m + 1 := ⟨k - 1, by omega⟩
    by_cases e0 : Ym.length = 0
    · obtain rfl : Ym = [] := List.eq_nil_of_length_eq_zero e0
      simp only [List.length_nil] at hj
      refine ⟨Y1, Y2, k, by simp, ?_, by omega, h1, h2⟩
      rw [api_Node_71.l2, if_neg (by omega), hi]
      simp
    obtain ⟨U, v, W, rfl, hU⟩ := part_at Ym ((i + j) / 2 - i).toNat (by omega)
    simp only [List.length_append, List.length_cons] at hf hj hm hz
    have hlen : (A ++ (Y1 ++ (U ++ v :: W) ++ Y2) ++ y :: B).length = A.length + 1 + Y1.length + U.length + 1 + W.length + Y2.length + B.length := by simp; omega
    have r1 : rd_T46 (A ++ (Y1 ++ (U ++ v :: W) ++ Y2) ++ y :: B) ((i + j) / 2) = v := by
      rw [show A ++ (Y1 ++ (U ++ v :: W) ++ Y2) ++ y :: B = (A ++ (Y1 ++ U)) ++ v :: (W ++ Y2 ++ y :: B) by simp]; exact rd_mid _ _ _ _ (by simp; omega)
    have r2 : rd_T46 (A ++ (Y1 ++ (U ++ v :: W) ++ Y2) ++ y :: B) m = y := rd_mid _ _ _ _ (by simp; omega)
    obtain ⟨r, hr, hr0⟩ := ord_lt y v
    rw [api_Node_71.l2, if_pos (by omega), mid_ (by omega) (by omega) (by omega) (by omega), if_pos (by omega), if_pos (by rw [hlen]; omega), if_pos (by omega), if_pos (by rw [hlen]; omega), r1, r2, hr, some_bind]
    have hu' : Up (Y1 ++ (U ++ (v :: W ++ Y2))) := by simpa using hu
    cases e : lt y v
    · rw [if_neg (fun h => by rw [hr0.1 h] at e; cases e), show wrap64 ((i + j) / 2 + 1) = (i + j) / 2 + 1 from wrap_in (by omega) (by omega)]
      obtain ⟨P, V, k', q1, q2, q3, q4, q5⟩ := ih (Y1 ++ U ++ [v]) W Y2 ((i + j) / 2 + 1) j k (by omega) (by simp; omega) (by omega) (by simp; omega) (by simp; omega) (by omega) (by simpa using hu) (fun x hx => by
        rcases List.mem_append.1 hx with hx | hx
        · rcases List.mem_append.1 hx with hx | hx
          · exact h1 x hx
          · have : lt v x = false := up_cross (up_right hu') hx (by simp)
            exact le_trans (a := x) (b := v) (c := y) this e
        · rw [List.mem_singleton.1 hx]; exact e) h2
      refine ⟨P, V, k', by rw [← q1]; simp, ?_, by omega, q4, q5⟩
      rw [← q2]; simp
    · rw [if_pos (hr0.2 e)]
      obtain ⟨P, V, k', q1, q2, q3, q4, q5⟩ := ih Y1 U (v :: W ++ Y2) i ((i + j) / 2) k (by omega) hi (by omega) (by simp; omega) (by simp; omega) (by omega) (by simpa using hu) h1 (fun x hx => by
        rcases List.mem_append.1 hx with hx | hx
        · rcases List.mem_cons.1 hx with hx | hx
          · rw [hx]; exact e
          · have : lt x v = false := (List.pairwise_cons.1 (up_left (R := Y2) (up_right (up_right hu')))).1 x hx
            exact lt_le e this
        · exact h2 x hx)
      refine ⟨P, V, k', by rw [← q1]; simp, ?_, by omega, q4, q5⟩
      rw [← q2]; simp
/-- One node carried ahead of others. -/
theorem sm3_move (y : Nd) (A : List Nd) (i : Int) (hi : i = A.length) : ∀ (n : Nat) (V R : List Nd) (c : Int) (k : Nat), V.length = n → c = i + V.length → A.length + 1 + V.length + R.length ≤ 1000000 → n < k → api_Node_71.l3 k (A ++ V ++ y :: R) i c = some (A ++ y :: V ++ R) := by
  intro n
  induction n with
  | zero =>
    intro V R c k hn hc hz hk
    obtain ⟨k, rfl⟩ : ∃ m, k = m + 1 := ⟨k - 1, by omega⟩
    obtain rfl : V = [] := List.eq_nil_of_length_eq_zero hn
    simp only [List.length_nil] at hc
    rw [api_Node_71.l3, if_neg (by omega)]
    simp
  | succ n ih =>
    intro V R c k hn hc hz hk
    obtain ⟨k, rfl⟩ : ∃ m, k = m + 1 := ⟨k - 1, by omega⟩
    obtain ⟨P, x, rfl⟩ : ∃ P x, V = P ++ [x] := ⟨V.dropLast, V.getLast (fun e => by rw [e] at hn; simp at hn), (List.dropLast_concat_getLast _).symm⟩
    simp only [List.length_append, List.length_cons, List.length_nil] at hn hc hz
    have hlen : (A ++ (P ++ [x]) ++ y :: R).length = A.length + P.length + 1 + 1 + R.length := by simp; omega
    have r1 : rd_T46 (A ++ (P ++ [x]) ++ y :: R) c = y := rd_mid _ _ _ _ (by simp; omega)
    have r2 : rd_T46 (A ++ (P ++ [x]) ++ y :: R) (c - 1) = x := by
      rw [show A ++ (P ++ [x]) ++ y :: R = (A ++ P) ++ x :: (y :: R) by simp]; exact rd_mid _ _ _ _ (by simp; omega)
    have s1 : (A ++ (P ++ [x]) ++ y :: R).set c.toNat x = A ++ (P ++ [x]) ++ x :: R := by
      rw [show c.toNat = (A ++ (P ++ [x])).length by simp; omega, set_mid]
    have s2 : (A ++ (P ++ [x]) ++ x :: R).set (c - 1).toNat y = A ++ P ++ y :: (x :: R) := by
      rw [show A ++ (P ++ [x]) ++ x :: R = (A ++ P) ++ x :: (x :: R) by simp, show (c - 1).toNat = (A ++ P).length by simp; omega, set_mid]
    rw [api_Node_71.l3, if_pos (by omega), show wrap64 (c - 1) = c - 1 from wrap_in (by omega) (by omega), if_pos (by omega), if_pos (by rw [hlen]; omega), if_pos (by omega), if_pos (by rw [hlen]; omega), r1, r2, Nd_eta, Nd_eta, s1, s2,
      ih P (x :: R) (c - 1) k (by omega) (by omega) (by simp; omega) (by omega)]
    simp
/-- The merge of one node with those ahead of it. -/
theorem sm2_f (A X B : List Nd) (y : Nd) (a m : Int) (ha : a = A.length) (hm : m = a + X.length) (hz : A.length + 1 + X.length + B.length ≤ 1000000) (k : Nat) (hk : 2 * X.length + 3 ≤ k) (hu : Up X) :
    ∃ Z, api_Node_71.l2 k (A ++ X ++ y :: B) m a m = some (A ++ Z ++ B) ∧ Up Z ∧ Same Z (X ++ [y]) ∧ Z.length = X.length + 1 := by
  obtain ⟨U, V, k', q1, q2, q3, q4, q5⟩ := sm2_find A B y a m ha X.length [] X [] a m k (Nat.le_refl _) (by simp) hm (by simp; omega) (by simp; omega) (by omega) (by simpa using hu) (by simp) (by simp)
  simp only [List.nil_append, List.append_nil] at q1 q2
  have hl : X.length = U.length + V.length := by rw [q1, List.length_append]
  rw [q2, show A ++ (U ++ V) ++ y :: B = (A ++ U) ++ V ++ y :: B by simp, sm3_move y (A ++ U) _ (by simp; omega) V.length V B m k' rfl (by omega) (by simp; omega) (by omega)]
  rw [q1] at hu ⊢
  refine ⟨U ++ y :: V, by simp, up_mid hu q4 (fun r hr => lt_not (q5 r hr)), ?_, by simp; omega⟩
  have := same_turn U V [y] [] (fun a ha b hb => by
    rw [List.mem_singleton.1 hb]
    exact fun h => lt_ne (q5 a ha) h.symm)
  simpa using this
/-- Where two blocks that are in order part, as the search tells it. -/
theorem search_ (x : List Nd) (a m b mid n p lo r0 : Int) (z : Bool) (hx : (x.length : Int) ≤ 1000000) (ha : 0 ≤ a) (hlo : a ≤ lo) (hr0 : r0 ≤ m) (hm : m ≤ b) (hb : b ≤ x.length) (hn : n = mid + m) (hp : p = n - 1) (hmid : 0 ≤ mid ∧ mid ≤ b) (hpc : ∀ c, lo ≤ c → c < r0 → m ≤ p - c ∧ p - c < b)
    (hX : ∀ i j, a ≤ i → i ≤ j → j < m → lt (rd_T46 x j) (rd_T46 x i) = false) (hY : ∀ i j, m ≤ i → i ≤ j → j < b → lt (rd_T46 x j) (rd_T46 x i) = false) :
    ∀ (f : Nat) (s r : Int) (k : Nat), r - s ≤ f → f + 1 ≤ k → lo ≤ s → s ≤ r → r ≤ r0 → (∀ c, lo ≤ c → c < s → lt (rd_T46 x (p - c)) (rd_T46 x c) = false) → (∀ c, r ≤ c → c < r0 → lt (rd_T46 x (p - c)) (rd_T46 x c) = true) →
    ∃ c k', api_Node_71.l4 k x a m b z mid n s r p = api_Node_71.j6 k' x a m b z mid c (n - c) (decide (c < m ∧ m < n - c)) ∧ k ≤ k' + f + 1 ∧ lo ≤ c ∧ c ≤ r0 ∧ (∀ c', lo ≤ c' → c' < c → lt (rd_T46 x (p - c')) (rd_T46 x c') = false) ∧ (∀ c', c ≤ c' → c' < r0 → lt (rd_T46 x (p - c')) (rd_T46 x c') = true) := by
  have hend : ∀ (s : Int) (k : Nat) (f : Nat), f + 1 ≤ k → lo ≤ s → s ≤ r0 → (∀ c, lo ≤ c → c < s → lt (rd_T46 x (p - c)) (rd_T46 x c) = false) → (∀ c, s ≤ c → c < r0 → lt (rd_T46 x (p - c)) (rd_T46 x c) = true) →
    ∃ c k', api_Node_71.l4 k x a m b z mid n s s p = api_Node_71.j6 k' x a m b z mid c (n - c) (decide (c < m ∧ m < n - c)) ∧ k ≤ k' + f + 1 ∧ lo ≤ c ∧ c ≤ r0 ∧ (∀ c', lo ≤ c' → c' < c → lt (rd_T46 x (p - c')) (rd_T46 x c') = false) ∧ (∀ c', c ≤ c' → c' < r0 → lt (rd_T46 x (p - c')) (rd_T46 x c') = true) := by
    intro s k f hk h1 h2 h3 h4
    obtain ⟨k, rfl⟩ : ∃ m, k = m + 1 := ⟨k - 1, by omega⟩
    refine ⟨s, k, ?_, by omega, h1, h2, h3, h4⟩
    rw [api_Node_71.l4, if_neg (by omega), show wrap64 (n - s) = n - s from wrap_in (by omega) (by omega)]
    by_cases e : s < m
    · rw [if_pos e]
      by_cases e2 : m < n - s
      · rw [decide_eq_true e2, decide_eq_true ⟨e, e2⟩]
      · rw [decide_eq_false e2, decide_eq_false (fun h => e2 h.2)]
    · rw [if_neg e, decide_eq_false (fun h => e h.1)]
  intro f
  induction f with
  | zero =>
    intro s r k hf hk h1 h2 h3 h4 h5
    obtain rfl : s = r := by omega
    exact hend s k 0 hk h1 h3 h4 h5
  | succ f ih =>
    intro s r k hf hk h1 h2 h3 h4 h5
    by_cases e : s < r
    · obtain ⟨k, rfl⟩ : ∃ m, k = m + 1 := ⟨k - 1, by omega⟩
      have hc := hpc ((s + r) / 2) (by omega) (by omega)
      obtain ⟨q, hq, hq0⟩ := ord_lt (rd_T46 x (p - (s + r) / 2)) (rd_T46 x ((s + r) / 2))
      rw [api_Node_71.l4, if_pos e, mid_ (by omega) (by omega) (by omega) (by omega), show wrap64 (p - (s + r) / 2) = p - (s + r) / 2 from wrap_in (by omega) (by omega), if_pos (by omega), if_pos (by omega), if_pos (by omega), if_pos (by omega), hq, some_bind]
      cases el : lt (rd_T46 x (p - (s + r) / 2)) (rd_T46 x ((s + r) / 2))
      · rw [if_neg (fun h => by rw [hq0.1 h] at el; cases el), show wrap64 ((s + r) / 2 + 1) = (s + r) / 2 + 1 from wrap_in (by omega) (by omega)]
        obtain ⟨c, k', q1, q2, q3⟩ := ih ((s + r) / 2 + 1) r k (by omega) (by omega) (by omega) (by omega) h3 (fun c c1 c2 => by
          by_cases hcs : c < s
          · exact h4 c c1 hcs
          · have u1 := hX c ((s + r) / 2) (by omega) (by omega) (by omega)
            have u2 := hY (p - (s + r) / 2) (p - c) (by omega) (by omega) (hpc c c1 (by omega)).2
            exact le_trans u1 (le_trans el u2)) h5
        exact ⟨c, k', q1, by omega, q3⟩
      · rw [if_pos (hq0.2 el)]
        obtain ⟨c, k', q1, q2, q3⟩ := ih s ((s + r) / 2) k (by omega) (by omega) h1 (by omega) (by omega) h4 (fun c c1 c2 => by
          by_cases hcs : r ≤ c
          · exact h5 c hcs c2
          · have u1 := hX ((s + r) / 2) c (by omega) (by omega) (by omega)
            have u2 := hY (p - c) (p - (s + r) / 2) (hpc c (by omega) c2).1 (by omega) (by omega)
            exact le_lt u2 (lt_le el u1))
        exact ⟨c, k', q1, by omega, q3⟩
    · obtain rfl : s = r := by omega
      obtain ⟨c, k', q1, q2, q3⟩ := hend s k f (by omega) h1 h3 h4 h5
      exact ⟨c, k', q1, by omega, q3⟩
theorem rd_at (P Q R : List Nd) (i : Int) (j : Nat) (h : j < Q.length) (hi : i = P.length + j) : rd_T46 (P ++ Q ++ R) i = Q[j] := by
  obtain ⟨U, v, W, e, hU⟩ := part_at Q j h
  have : Q[j] = v := by subst hU; simp [e]
  rw [this, e, show P ++ (U ++ v :: W) ++ R = (P ++ U) ++ v :: (W ++ R) by simp]
  exact rd_mid _ _ _ _ (by rw [List.length_append]; omega)
theorem up_at {Q : List Nd} (h : Up Q) {i j : Nat} (hi : i ≤ j) (hj : j < Q.length) : lt Q[j] Q[i] = false := by
  by_cases e : i = j
  · subst e; exact lt_irr _
  · exact (List.pairwise_iff_getElem.1 h) i j (by omega) hj (by omega)
theorem up_idx (P Q R : List Nd) (h : Up Q) (i j : Int) (h1 : (P.length : Int) ≤ i) (h2 : i ≤ j) (h3 : j < P.length + Q.length) : lt (rd_T46 (P ++ Q ++ R) j) (rd_T46 (P ++ Q ++ R) i) = false := by
  rw [rd_at P Q R i (i - P.length).toNat (by omega) (by omega), rd_at P Q R j (j - P.length).toNat (by omega) (by omega)]
  exact up_at h (by omega) (by omega)
/-- Two blocks that are in order, merged. -/
theorem merge_f : ∀ (f : Nat) (X Y A B : List Nd) (a m b : Int) (z : Bool) (k : Nat), X.length + Y.length ≤ f → X ≠ [] → Y ≠ [] → a = A.length → m = a + X.length → b = m + Y.length → A.length + X.length + Y.length + B.length ≤ 400000 → 40 * f + 40 ≤ k → Up X → Up Y →
    ∃ Z, api_Node_71.f k (A ++ X ++ Y ++ B) a m b z = some (A ++ Z ++ B) ∧ Up Z ∧ Same Z (X ++ Y) ∧ Z.length = X.length + Y.length := by
  intro f
  induction f using Nat.strongRecOn with
  | _ f ih =>
    intro X Y A B a m b z k hf hXn hYn ha hm hb hz hk hX hY
    have lX : X.length ≠ 0 := fun e => hXn (List.eq_nil_of_length_eq_zero e)
    have lY : Y.length ≠ 0 := fun e => hYn (List.eq_nil_of_length_eq_zero e)
    obtain ⟨k, rfl⟩ : ∃ m, k = m + 1 := ⟨k - 1, by omega⟩
    rw [api_Node_71.f, show wrap64 (m - a) = m - a from wrap_in (by omega) (by omega), show wrap64 (b - m) = b - m from wrap_in (by omega) (by omega)]
    by_cases e1 : m - a = 1
    · rw [if_pos e1]
      obtain ⟨x, rfl⟩ : ∃ x, X = [x] := List.length_eq_one_iff.1 (by omega)
      simp only [List.length_cons, List.length_nil] at hm hf hz
      obtain ⟨Z, h1, h2, h3, h4⟩ := sm0_f A Y B x a b ha (by omega) (by omega) k (by omega) hY
      refine ⟨Z, ?_, h2, by simpa using h3, by rw [h4]; rfl⟩
      rw [show m = a + 1 by omega, ← h1]
      simp
    rw [if_neg e1]
    by_cases e2 : b - m = 1
    · rw [if_pos e2]
      obtain ⟨y, rfl⟩ : ∃ y, Y = [y] := List.length_eq_one_iff.1 (by omega)
      simp only [List.length_cons, List.length_nil] at hb hf hz
      obtain ⟨Z, h1, h2, h3, h4⟩ := sm2_f A X B y a m ha hm (by omega) k (by omega) hX
      refine ⟨Z, ?_, h2, h3, h4⟩
      rw [← h1]
      simp
    rw [if_neg e2, mid_ (by omega) (by omega) (by omega) (by omega), show wrap64 ((a + b) / 2 + m) = (a + b) / 2 + m from wrap_in (by omega) (by omega), show wrap64 ((a + b) / 2 + m - b) = (a + b) / 2 + m - b from wrap_in (by omega) (by omega)]
    generalize hmid : (a + b) / 2 = mid
    obtain ⟨k, rfl⟩ : ∃ m, k = m + 1 := ⟨k - 1, by omega⟩
    have hlen : (A ++ X ++ Y ++ B).length = A.length + X.length + Y.length + B.length := by simp; omega
    have key : ∀ lo r0 : Int, a ≤ lo → lo ≤ r0 → r0 ≤ m → r0 ≤ mid → mid + m - b ≤ lo → (r0 = mid ∨ r0 = m) → (lo = a ∨ lo = mid + m - b) →
        ∃ Z, api_Node_71.j4 (k + 1) (A ++ X ++ Y ++ B) a m b z mid (mid + m) lo r0 = some (A ++ Z ++ B) ∧ Up Z ∧ Same Z (X ++ Y) ∧ Z.length = X.length + Y.length := by
      intro lo r0 g1 g2 g3 g4 g5 g6 g7
      rw [api_Node_71.j4, show wrap64 (mid + m - 1) = mid + m - 1 from wrap_in (by omega) (by omega)]
      obtain ⟨c, k', q1, q2, q3, q4, q5, q6⟩ := search_ (A ++ X ++ Y ++ B) a m b mid (mid + m) (mid + m - 1) lo r0 z (by rw [hlen]; omega) (by omega) g1 g3 (by omega) (by rw [hlen]; omega) rfl rfl (by omega) (fun c c1 c2 => by omega)
        (fun i j i1 i2 i3 => by rw [show A ++ X ++ Y ++ B = A ++ X ++ (Y ++ B) by simp]; exact up_idx A X (Y ++ B) hX i j (by omega) i2 (by omega))
        (fun i j i1 i2 i3 => up_idx (A ++ X) Y B hY i j (by rw [List.length_append]; omega) i2 (by rw [List.length_append]; omega)) f lo r0 k (by omega) (by omega) (by omega) g2 (by omega) (fun c c1 c2 => by omega) (fun c c1 c2 => by omega)
      rw [q1]
      obtain ⟨k', rfl⟩ : ∃ m, k' = m + 3 := ⟨k' - 3, by omega⟩
      obtain ⟨X1, X2, hXe, hX1⟩ : ∃ X1 X2, X = X1 ++ X2 ∧ (X1.length : Int) = c - a := ⟨X.take (c - a).toNat, X.drop (c - a).toNat, (List.take_append_drop ..).symm, by rw [List.length_take]; omega⟩
      obtain ⟨Y1, Y2, hYe, hY1⟩ : ∃ Y1 Y2, Y = Y1 ++ Y2 ∧ (Y1.length : Int) = mid - c := ⟨Y.take (mid - c).toNat, Y.drop (mid - c).toNat, (List.take_append_drop ..).symm, by rw [List.length_take]; omega⟩
      have lX2 : (X2.length : Int) = m - c := by have := congrArg List.length hXe; rw [List.length_append] at this; omega
      have lY2 : (Y2.length : Int) = b - (mid + m - c) := by have := congrArg List.length hYe; rw [List.length_append] at this; omega
      have hX' := hX
      have hY' := hY
      rw [hXe] at hX'
      rw [hYe] at hY'
      have cross : ∀ x ∈ X2, ∀ y ∈ Y1, lt y x = true := by
        intro x hx y hy
        have n2 := List.length_pos_of_mem hx
        have n1 := List.length_pos_of_mem hy
        have h6 := q6 c (by omega) (by omega)
        rw [show A ++ X ++ Y ++ B = (A ++ X) ++ Y1 ++ (Y2 ++ B) by rw [hYe]; simp, rd_at (A ++ X) Y1 (Y2 ++ B) _ (Y1.length - 1) (by omega) (by rw [List.length_append]; omega),
          show (A ++ X) ++ Y1 ++ (Y2 ++ B) = (A ++ X1) ++ X2 ++ (Y1 ++ Y2 ++ B) by rw [hXe]; simp, rd_at (A ++ X1) X2 (Y1 ++ Y2 ++ B) c 0 (by omega) (by rw [List.length_append]; omega)] at h6
        obtain ⟨i, hi, rfl⟩ := List.mem_iff_getElem.1 hx
        obtain ⟨j, hj, rfl⟩ := List.mem_iff_getElem.1 hy
        exact le_lt (up_at (up_left hY') (i := j) (j := Y1.length - 1) (by omega) (by omega)) (lt_le h6 (up_at (up_right hX') (i := 0) (j := i) (by omega) hi))
      have low : ∀ x ∈ X1, ∀ y ∈ Y2, lt y x = false := by
        intro x hx y hy
        have n2 := List.length_pos_of_mem hx
        have n1 := List.length_pos_of_mem hy
        have h5 := q5 (c - 1) (by omega) (by omega)
        rw [show A ++ X ++ Y ++ B = (A ++ X ++ Y1) ++ Y2 ++ B by rw [hYe]; simp, rd_at (A ++ X ++ Y1) Y2 B _ 0 (by omega) (by rw [List.length_append, List.length_append]; omega),
          show (A ++ X ++ Y1) ++ Y2 ++ B = A ++ X1 ++ (X2 ++ Y1 ++ Y2 ++ B) by rw [hXe]; simp, rd_at A X1 (X2 ++ Y1 ++ Y2 ++ B) (c - 1) (X1.length - 1) (by omega) (by omega)] at h5
        obtain ⟨i, hi, rfl⟩ := List.mem_iff_getElem.1 hx
        obtain ⟨j, hj, rfl⟩ := List.mem_iff_getElem.1 hy
        exact le_trans (up_at (up_left hX') (i := i) (j := X1.length - 1) (by omega) (by omega)) (le_trans h5 (up_at (up_right hY') (i := 0) (j := j) (by omega) hj))
      -- the exchange, where there is one
      have turn : api_Node_71.j6 (k' + 3) (A ++ X ++ Y ++ B) a m b z mid c (mid + m - c) (decide (c < m ∧ m < mid + m - c)) = api_Node_71.j7 (k' + 2) (A ++ X1 ++ Y1 ++ X2 ++ Y2 ++ B) a b z mid c (mid + m - c) := by
        rw [api_Node_71.j6]
        by_cases e : c < m ∧ m < mid + m - c
        · rw [decide_eq_true e, if_pos rfl, show A ++ X ++ Y ++ B = (A ++ X1) ++ X2 ++ Y1 ++ (Y2 ++ B) by rw [hXe, hYe]; simp, rot_f (A ++ X1) X2 Y1 (Y2 ++ B) (fun e' => by rw [e'] at lX2; simp at lX2; omega) (fun e' => by rw [e'] at hY1; simp at hY1; omega) c m (mid + m - c) z (k' + 2) (by rw [List.length_append]; omega) (by rw [List.length_append]; omega) (by rw [List.length_append]; omega) (by rw [List.length_append, List.length_append]; omega) (by omega), some_bind]
          simp
        · rw [decide_eq_false e, if_neg (by simp)]
          have : X2 ++ Y1 = Y1 ++ X2 := by
            by_cases e' : X2.length = 0
            · rw [List.eq_nil_of_length_eq_zero e']; simp
            · have : Y1 = [] := List.eq_nil_of_length_eq_zero (by omega)
              rw [this]; simp
          rw [show A ++ X ++ Y ++ B = A ++ X1 ++ (X2 ++ Y1) ++ Y2 ++ B by rw [hXe, hYe]; simp, this]
          simp
      rw [turn]
      have same : Same (X1 ++ Y1 ++ X2 ++ Y2) (X ++ Y) := by
        rw [hXe, hYe]
        have := same_turn X1 X2 Y1 Y2 (fun x hx y hy => fun h => lt_ne (cross x hx y hy) h.symm)
        simpa using this
      -- the left half, and the right one
      have left : ∃ ZL, Up ZL ∧ Same ZL (X1 ++ Y1) ∧ ZL.length = X1.length + Y1.length ∧ ((a < c ∧ c < mid → api_Node_71.f k' (A ++ X1 ++ Y1 ++ X2 ++ Y2 ++ B) a c mid z = some (A ++ ZL ++ X2 ++ Y2 ++ B)) ∧ (¬ (a < c ∧ c < mid) → ZL = X1 ++ Y1)) := by
        by_cases e : a < c ∧ c < mid
        · obtain ⟨ZL, z1, z2, z3, z4⟩ := ih (X1.length + Y1.length) (by omega) X1 Y1 A (X2 ++ Y2 ++ B) a c mid z k' (Nat.le_refl _) (fun e' => by rw [e'] at hX1; simp at hX1; omega) (fun e' => by rw [e'] at hY1; simp at hY1; omega) ha (by omega) (by omega) (by rw [List.length_append, List.length_append]; omega) (by omega) (up_left hX') (up_left hY')
          refine ⟨ZL, z2, z3, z4, fun _ => ?_, fun h => absurd e h⟩
          rw [show A ++ X1 ++ Y1 ++ X2 ++ Y2 ++ B = A ++ X1 ++ Y1 ++ (X2 ++ Y2 ++ B) by simp, z1]
          simp
        · refine ⟨X1 ++ Y1, ?_, Same.refl _, by simp, fun h => absurd h e, fun _ => rfl⟩
          by_cases e' : X1.length = 0
          · rw [List.eq_nil_of_length_eq_zero e']; exact up_left hY'
          · have : Y1 = [] := List.eq_nil_of_length_eq_zero (by omega)
            rw [this, List.append_nil]; exact up_left hX'
      obtain ⟨ZL, l1, l2, l3, l4, l5⟩ := left
      have right : ∃ ZR, Up ZR ∧ Same ZR (X2 ++ Y2) ∧ ZR.length = X2.length + Y2.length ∧ ((mid < mid + m - c ∧ mid + m - c < b → api_Node_71.f k' (A ++ ZL ++ X2 ++ Y2 ++ B) mid (mid + m - c) b z = some (A ++ ZL ++ ZR ++ B)) ∧ (¬ (mid < mid + m - c ∧ mid + m - c < b) → ZR = X2 ++ Y2)) := by
        by_cases e : mid < mid + m - c ∧ mid + m - c < b
        · obtain ⟨ZR, z1, z2, z3, z4⟩ := ih (X2.length + Y2.length) (by omega) X2 Y2 (A ++ ZL) B mid (mid + m - c) b z k' (Nat.le_refl _) (fun e' => by rw [e'] at lX2; simp at lX2; omega) (fun e' => by rw [e'] at lY2; simp at lY2; omega) (by rw [List.length_append]; omega) (by omega) (by omega) (by rw [List.length_append]; omega) (by omega) (up_right hX') (up_right hY')
          exact ⟨ZR, z2, z3, z4, fun _ => z1, fun h => absurd e h⟩
        · refine ⟨X2 ++ Y2, ?_, Same.refl _, by simp, fun h => absurd h e, fun _ => rfl⟩
          by_cases e' : X2.length = 0
          · rw [List.eq_nil_of_length_eq_zero e']; exact up_right hY'
          · have : Y2 = [] := List.eq_nil_of_length_eq_zero (by omega)
            rw [this, List.append_nil]; exact up_right hX'
      obtain ⟨ZR, r1, r2, r3, r4, r5⟩ := right
      have hup : Up (ZL ++ ZR) := up_join l1 r1 fun p hp r hr => by
        rcases List.mem_append.1 (l2.mem hp) with hp | hp <;> rcases List.mem_append.1 (r2.mem hr) with hr | hr
        · exact up_cross hX' hp hr
        · exact low p hp r hr
        · exact lt_not (cross r hr p hp)
        · exact up_cross hY' hp hr
      have hsame : Same (ZL ++ ZR) (X ++ Y) := by
        refine Same.trans (fun p => ?_) same
        simp only [List.filter_append, l2 p, r2 p, List.append_assoc]
      refine ⟨ZL ++ ZR, ?_, hup, hsame, by rw [List.length_append, l3, r3]; omega⟩
      have fin : (if mid < mid + m - c then (if mid + m - c < b then ((api_Node_71.f k' (A ++ ZL ++ X2 ++ Y2 ++ B) mid (mid + m - c) b z).bind fun t => some t) else some (A ++ ZL ++ X2 ++ Y2 ++ B)) else some (A ++ ZL ++ X2 ++ Y2 ++ B)) = some (A ++ (ZL ++ ZR) ++ B) := by
        by_cases e : mid < mid + m - c ∧ mid + m - c < b
        · rw [if_pos e.1, if_pos e.2, r4 e, some_bind]; simp
        · have h := r5 e
          subst h
          by_cases e' : mid < mid + m - c
          · rw [if_pos e', if_neg (fun h => e ⟨e', h⟩)]; simp
          · rw [if_neg e']; simp
      rw [api_Node_71.j7]
      by_cases e : a < c ∧ c < mid
      · rw [if_pos e.1, decide_eq_true e.2, api_Node_71.j8, if_pos rfl, l4 e, some_bind]
        exact fin
      · have h := l5 e
        rw [h] at fin
        have j8f : api_Node_71.j8 (k' + 1) (A ++ X1 ++ Y1 ++ X2 ++ Y2 ++ B) a b z mid c (mid + m - c) false = some (A ++ (ZL ++ ZR) ++ B) := by
          rw [api_Node_71.j8, if_neg (by simp), h, ← fin]
          simp only [List.append_assoc]
        by_cases e' : a < c
        · rw [if_pos e', decide_eq_false (fun h => e ⟨e', h⟩)]; exact j8f
        · rw [if_neg e']; exact j8f
    by_cases e3 : m > mid
    · rw [if_pos e3]
      exact key (mid + m - b) mid (by omega) (by omega) (by omega) (by omega) (by omega) (.inl rfl) (.inr rfl)
    · rw [if_neg e3]
      exact key a m (by omega) (by omega) (by omega) (by omega) (by omega) (.inr rfl) (.inl rfl)
/-- Blocks that are in order, each of one size but the last. -/
inductive Bk (s : Nat) : List Nd → Prop
  | last (X : List Nd) : X.length ≤ s → Up X → Bk s X
  | more (X R : List Nd) : X.length = s → Up X → Bk s R → Bk s (X ++ R)
theorem st_l0 (N : Nat) (hN : N ≤ 400000) (z : Bool) (K0 : Nat) : ∀ (f : Nat) (D R : List Nd) (a : Int) (k : Nat), R.length ≤ 20 * f → a = D.length → D.length + R.length = N → K0 + 1000 + f ≤ k →
    ∃ R', Bk 20 R' ∧ Same R' R ∧ R'.length = R.length ∧ ∃ k', K0 ≤ k' ∧ api_Node_59.l0 k (D ++ R) (N : Int) z 20 a (a + 20) = api_Node_59.l1 k' (D ++ R') (N : Int) z 20 := by
  intro f
  induction f with
  | zero =>
    intro D R a k hf ha hD hk
    obtain ⟨k, rfl⟩ : ∃ m, k = m + 1 := ⟨k - 1, by omega⟩
    obtain rfl : R = [] := List.eq_nil_of_length_eq_zero (by omega)
    obtain ⟨Z, h1, h2, h3, h4⟩ := insert_f D [] [] a N z k ha (by simp at hD ⊢; omega) (by simp at hD ⊢; omega) (by simp; omega)
    refine ⟨[], .last _ (by simp) List.Pairwise.nil, Same.refl _, rfl, k, by omega, ?_⟩
    have hZ : Z = [] := List.eq_nil_of_length_eq_zero (by simpa using h4)
    subst hZ
    simp only [List.append_nil, List.length_nil] at h1 hD ⊢
    rw [api_Node_59.l0, if_neg (by omega), h1, some_bind]
  | succ f ih =>
    intro D R a k hf ha hD hk
    obtain ⟨k, rfl⟩ : ∃ m, k = m + 1 := ⟨k - 1, by omega⟩
    rw [api_Node_59.l0]
    by_cases h : a + 20 ≤ (N : Int)
    · obtain ⟨X, T, rfl, hX⟩ : ∃ X T, R = X ++ T ∧ X.length = 20 := ⟨R.take 20, R.drop 20, (List.take_append_drop ..).symm, by rw [List.length_take]; omega⟩
      rw [List.length_append] at hf hD
      obtain ⟨Z, h1, h2, h3, h4⟩ := insert_f D X T a (a + 20) z k ha (by omega) (by omega) (by rw [hX]; omega)
      obtain ⟨T', t1, t2, t3, k', t4, t5⟩ := ih (D ++ Z) T (a + 20) k (by omega) (by rw [List.length_append]; omega) (by rw [List.length_append]; omega) (by omega)
      refine ⟨Z ++ T', .more Z T' (by omega) h2 t1, fun p => by simp only [List.filter_append, h3 p, t2 p], by rw [List.length_append, List.length_append, h4, t3], k', t4, ?_⟩
      rw [if_pos h, ← List.append_assoc, h1, some_bind, show wrap64 (a + 20 + 20) = a + 20 + 20 from wrap_in (by omega) (by omega), t5, List.append_assoc]
    · obtain ⟨Z, h1, h2, h3, h4⟩ := insert_f D R [] a N z k ha (by omega) (by simp; omega) (by
        have : R.length ≤ 19 := by omega
        exact Nat.le_trans (Nat.mul_le_mul (show R.length + 1 ≤ 20 by omega) (show R.length + 3 ≤ 22 by omega)) (by omega))
      rw [List.append_nil] at h1
      refine ⟨Z, .last _ (by omega) h2, h3, h4, k, by omega, ?_⟩
      rw [if_neg h, h1, some_bind, List.append_nil]
theorem Bk.inv {s : Nat} {R : List Nd} (h : Bk s R) (hR : s < R.length) : ∃ X T, R = X ++ T ∧ X.length = s ∧ Up X ∧ Bk s T := by
  cases h with
  | last X h1 h2 => omega
  | more X T h1 h2 h3 => exact ⟨X, T, rfl, h1, h2, h3⟩
theorem Bk.small {s : Nat} {R : List Nd} (h : Bk s R) (hR : R.length ≤ s) (hs : 0 < s) : Up R := by
  induction h with
  | last X h1 h2 => exact h2
  | more X T h1 h2 h3 ih =>
    rw [List.length_append] at hR
    have : T = [] := List.eq_nil_of_length_eq_zero (by omega)
    rw [this, List.append_nil]; exact h2
theorem st_l2 (N s : Nat) (hN : N ≤ 400000) (hs : 0 < s) (hsN : s ≤ 400000) (z : Bool) (K0 : Nat) : ∀ (f : Nat) (D R : List Nd) (a : Int) (k : Nat), R.length ≤ f → a = D.length → D.length + R.length = N → K0 + 40 * N + 100 + f ≤ k → Bk s R →
    ∃ R', Bk (2 * s) R' ∧ Same R' R ∧ R'.length = R.length ∧ ∃ k', K0 ≤ k' ∧ api_Node_59.l2 k (D ++ R) (N : Int) z (s : Int) a (a + 2 * s) = api_Node_59.l1 k' (D ++ R') (N : Int) z (wrap64 ((s : Int) * 2)) := by
  intro f
  induction f using Nat.strongRecOn with
  | _ f ih =>
    intro D R a k hf ha hD hk hB
    obtain ⟨k, rfl⟩ : ∃ m, k = m + 1 := ⟨k - 1, by omega⟩
    rw [api_Node_59.l2, show wrap64 (a + s) = a + s from wrap_in (by omega) (by omega)]
    by_cases h : a + 2 * (s : Int) ≤ (N : Int)
    · obtain ⟨X, T, rfl, hX, uX, bT⟩ := hB.inv (by omega)
      rw [List.length_append] at hf hD
      obtain ⟨Y, T2, rfl, hY, uY, bT2⟩ : ∃ Y T2, T = Y ++ T2 ∧ Y.length = s ∧ Up Y ∧ Bk s T2 := by
        by_cases e : s < T.length
        · exact bT.inv e
        · exact ⟨T, [], by simp, by omega, bT.small (by omega) hs, .last _ (by simp) List.Pairwise.nil⟩
      rw [List.length_append] at hf hD
      obtain ⟨Z, h1, h2, h3, h4⟩ := merge_f (2 * s) X Y D T2 a (a + s) (a + 2 * s) z k (by omega) (fun e => by rw [e] at hX; simp at hX; omega) (fun e => by rw [e] at hY; simp at hY; omega) ha (by omega) (by omega) (by omega) (by omega) uX uY
      obtain ⟨T', t1, t2, t3, k', t4, t5⟩ := ih (T2.length) (by omega) (D ++ Z) T2 (a + 2 * s) k (Nat.le_refl _) (by rw [List.length_append]; omega) (by rw [List.length_append]; omega) (by omega) bT2
      refine ⟨Z ++ T', .more Z T' (by omega) h2 t1, fun p => by simp only [List.filter_append, h3 p, t2 p, List.append_assoc], by simp only [List.length_append]; omega, k', t4, ?_⟩
      rw [if_pos h, show D ++ (X ++ (Y ++ T2)) = D ++ X ++ Y ++ T2 by simp, h1, some_bind, show wrap64 (2 * (s : Int)) = 2 * s from wrap_in (by omega) (by omega), show wrap64 (a + 2 * (s : Int) + 2 * s) = a + 2 * s + 2 * s from wrap_in (by omega) (by omega), t5, List.append_assoc]
    · rw [if_neg h]
      by_cases h' : a + (s : Int) < (N : Int)
      · obtain ⟨X, T, rfl, hX, uX, bT⟩ := hB.inv (by omega)
        rw [List.length_append] at hf hD
        obtain ⟨Z, h1, h2, h3, h4⟩ := merge_f N X T D [] a (a + s) N z k (by omega) (fun e => by rw [e] at hX; simp at hX; omega) (fun e => by rw [e] at hD; simp at hD; omega) ha (by omega) (by omega) (by simp; omega) (by omega) uX (bT.small (by omega) hs)
        rw [List.append_nil] at h1
        refine ⟨Z, .last _ (by omega) h2, h3, by rw [h4, List.length_append], k, by omega, ?_⟩
        rw [if_pos h', ← List.append_assoc, h1, some_bind, List.append_nil]
      · refine ⟨R, .last _ (by omega) (hB.small (by omega) hs), Same.refl _, rfl, k, by omega, ?_⟩
        rw [if_neg h']
theorem st_l1 (N : Nat) (hN : N ≤ 400000) (z : Bool) : ∀ (f s : Nat) (R : List Nd) (k : Nat), 0 < s → s ≤ 400000 → N ≤ s * 2 ^ f → R.length = N → (f + 1) * (42 * N + 200) ≤ k → Bk s R →
    ∃ Z, api_Node_59.l1 k R (N : Int) z (s : Int) = some Z ∧ Up Z ∧ Same Z R ∧ Z.length = N := by
  intro f
  induction f with
  | zero =>
    intro s R k hs hs4 hf hR hk hB
    obtain ⟨k, rfl⟩ : ∃ m, k = m + 1 := ⟨k - 1, by omega⟩
    refine ⟨R, ?_, hB.small (by omega) hs, Same.refl _, hR⟩
    rw [api_Node_59.l1, if_neg (by omega)]
  | succ f ih =>
    intro s R k hs hs4 hf hR hk hB
    have hk2 : (f + 1 + 1) * (42 * N + 200) = (f + 1) * (42 * N + 200) + (42 * N + 200) := by rw [Nat.add_mul, Nat.one_mul]
    have hp : s * 2 ^ (f + 1) = 2 * s * 2 ^ f := by rw [Nat.pow_succ, Nat.mul_comm (2 ^ f) 2, ← Nat.mul_assoc, Nat.mul_comm s 2]
    obtain ⟨k, rfl⟩ : ∃ m, k = m + 1 := ⟨k - 1, by omega⟩
    rw [api_Node_59.l1]
    by_cases h : (s : Int) < (N : Int)
    · obtain ⟨R', r1, r2, r3, k', r4, r5⟩ := st_l2 N s hN hs hs4 z ((f + 1) * (42 * N + 200)) N [] R 0 k (by omega) rfl (by simpa using hR) (by omega) hB
      simp only [List.nil_append] at r5
      rw [if_pos h, show wrap64 (2 * (s : Int)) = 0 + 2 * s by rw [wrap_in (by omega) (by omega)]; omega, r5, show wrap64 ((s : Int) * 2) = ((2 * s : Nat) : Int) by rw [wrap_in (by omega) (by omega)]; omega]
      by_cases h4 : 2 * s ≤ 400000
      · obtain ⟨Z, z1, z2, z3, z4⟩ := ih (2 * s) R' k' (by omega) h4 (by omega) (by omega) r4 r1
        exact ⟨Z, z1, z2, z3.trans r2, z4⟩
      · have e0 : k' ≠ 0 := by
          intro e
          rw [e] at r4
          have : 0 < (f + 1) * (42 * N + 200) := Nat.mul_pos (by omega) (by omega)
          omega
        obtain ⟨k', rfl⟩ : ∃ m, k' = m + 1 := ⟨k' - 1, by omega⟩
        refine ⟨R', ?_, r1.small (by omega) (by omega), r2, by omega⟩
        rw [api_Node_59.l1, if_neg (by omega)]
    · refine ⟨R, ?_, hB.small (by omega) hs, Same.refl _, hR⟩
      rw [if_neg h]
/-- tree.Sort: in order, and at each path the same nodes, in the same order. -/
theorem sort_f (t : List Nd) (hl : t.length ≤ 400000) (K : Nat) (hK : 1000000000 ≤ K) : ∃ Z, tree_Sort.f K t = some Z ∧ Up Z ∧ Same Z t ∧ Z.length = t.length := by
  unfold tree_Sort.f api_Node_39.f api_Node_40.f api_Node_59.f
  obtain ⟨R', r1, r2, r3, k', r4, r5⟩ := st_l0 t.length hl true 900000000 t.length [] t 0 K (by omega) rfl (by simp) (by omega)
  obtain ⟨Z, z1, z2, z3, z4⟩ := st_l1 t.length hl true 15 20 R' k' (by omega) (by omega) (by omega) r3 (by omega) r1
  refine ⟨Z, ?_, z2, z3.trans r2, z4⟩
  simp only [List.nil_append] at r5
  rw [some_bind, if_pos (by simp only [List.length_nil]; omega), some_bind, List.nil_append]
  rw [show ((0 : Int) + 20) = 20 from rfl] at r5
  rw [r5]
  rw [show ((20 : Nat) : Int) = 20 from rfl] at z1
  rw [z1]
  rfl
end Go.Proofs.YtcijimdogddbeaaDoor.SortAll
/- The plain law behind ImageOnce. -/
namespace Go.Proofs.YtcijimdogddbeaaDoor.Pure
open Go.RowKit Go.Proofs.YtcijimdogddbeaaDoorX Go.Proofs.YtcijimdogddbeaaDoorW.PrintWords Go.Proofs.YtcijimdogddbeaaDoorW.PrintLast Go.Proofs.YtcijimdogddbeaaDoorW.PrintMore Go.Proofs.YtcijimdogddbeaaDoor.P Go.Proofs.YtcijimdogddbeaaDoor.Pa Go.Proofs.YtcijimdogddbeaaDoor.PaTh Go.Proofs.YtcijimdogddbeaaDoor.TreeTh Go.Proofs.YtcijimdogddbeaaDoor.NarTh Go.Proofs.YtcijimdogddbeaaDoor.Im
open Go.Proofs.YtcijimdogddbeaaDoor.Bs (bytesOf_inj Bytes bytesOf_bytes bytesOf_strOfNums size_bytes)
open Go.Proofs.YtcijimdogddbeaaDoor.Tab (cutL cutL_inj cutL_facts Got GoodT put_some putGo_len putGo_mem putGo_at)
open Go.Proofs.YtcijimdogddbeaaDoor.SortAll (Up Same sort_f isAt)
set_option linter.unusedVariables false
set_option linter.unusedSimpArgs false
set_option maxRecDepth 100000 in
theorem awake_3000 : hogsheadlaw19_awake.f 3000 = some true := by decide +kernel
theorem awake_f (k : Nat) (hk : 3000 ≤ k) : hogsheadlaw19_awake.f k = some true := at_rounds (g := fun k => hogsheadlaw19_awake.f k) hogsheadlaw19_awake.mono hk awake_3000
theorem low_f (x n : Int) (h : 1 ≤ n) (h' : n ≤ 4611686018427387904) : hogsheadlaw0_Low.f x n = some ((x % 18446744073709551616) % n) := by
  unfold hogsheadlaw0_Low.f
  exact Go.Proofs.YtcijimdogddbeaaDoor.Bs.low_expr x n h h'
/-! ### lists in another order -/
open Classical in
theorem same_perm {s t : List Nd} (h : Same s t) : s.Perm t := by
  letI : BEq Nd := ⟨fun a b => decide (a = b)⟩
  haveI : LawfulBEq Nd := { eq_of_beq := fun e => of_decide_eq_true e, rfl := decide_eq_true rfl }
  rw [List.perm_iff_count]
  intro a
  have e : ∀ l : List Nd, List.count a l = List.count a (l.filter (isAt (L a.f0))) := fun l => by
    rw [List.count_filter (by unfold isAt; exact decide_eq_true rfl)]
  rw [e s, e t, h]
def sum (t : List Nd) : Nat := (t.map (fun n => n.f2.size)).sum
theorem sum_cons (n : Nd) (t : List Nd) : sum (n :: t) = n.f2.size + sum t := by unfold sum; rw [List.map_cons, List.sum_cons]
theorem sum_perm {s t : List Nd} (h : s.Perm t) : sum s = sum t := List.Perm.sum_nat (h.map _)
theorem sum_snoc (t : List Nd) (n : Nd) : sum (t ++ [n]) = sum t + n.f2.size := by unfold sum; rw [List.map_append, List.sum_append]; simp
theorem sum_le : ∀ t : List Nd, (∀ x ∈ t, x.f2.size ≤ 500) → sum t ≤ 500 * t.length
  | [], _ => by simp [sum]
  | x :: t, h => by
    have := sum_le t (fun y hy => h y (List.mem_cons_of_mem _ hy))
    have := h x (List.mem_cons_self ..)
    rw [sum_cons, List.length_cons]; omega
theorem size_l0 (t : List Nd) (ht : t.length ≤ 1000) (hs : ∀ x ∈ t, x.f2.size ≤ 500) : ∀ (f j k s : Nat), j + f = t.length → f < k → s + sum (t.drop j) ≤ 1000000 → tree_Size.l0 k (s : Int) t (t.length : Int) (j : Int) = some ((s + sum (t.drop j) : Nat) : Int) := by
  intro f
  induction f with
  | zero =>
    intro j k s hj hk h
    obtain ⟨k, rfl⟩ : ∃ m, k = m + 1 := ⟨k - 1, by omega⟩
    rw [tree_Size.l0, if_neg (by omega), List.drop_of_length_le (by omega)]; rfl
  | succ f ih =>
    intro j k s hj hk h
    obtain ⟨k, rfl⟩ : ∃ m, k = m + 1 := ⟨k - 1, by omega⟩
    rw [List.drop_eq_getElem_cons (show j < t.length by omega), sum_cons] at h ⊢
    rw [tree_Size.l0, if_pos (by omega), if_pos (by omega), if_pos (by omega), rdN, w_one j (by omega), at_lt t j (by omega), show wrap64 ((s : Int) + (t[j].f2.size : Int)) = ((s + t[j].f2.size : Nat) : Int) by rw [wrap_in (by omega) (by omega)]; omega,
      ih (j + 1) k _ (by omega) (by omega) (by omega)]
    refine congrArg some ?_
    omega
theorem size_f (t : List Nd) (ht : t.length ≤ 1000) (hs : ∀ x ∈ t, x.f2.size ≤ 500) (k : Nat) (hk : 1100 ≤ k) : tree_Size.f k t = some (sum t : Int) := by
  unfold tree_Size.f
  have h1 := sum_le t hs
  have := size_l0 t ht hs t.length 0 k 0 (by omega) (by omega) (by rw [List.drop_zero]; omega)
  rw [List.drop_zero, Nat.zero_add] at this
  exact this
/-! ### the blocks of a list of nodes -/
theorem mem_tab (p : ByteArray) : ∀ (t : List Nd) (T : List ByteArray), p ∈ tabOf T t ↔ p ∈ T ∨ ∃ n ∈ t, p ∈ cutL n.f2
  | [], T => by simp [tabOf]
  | n :: t, T => by
    rw [tabOf, mem_tab p t]
    constructor
    · rintro (h | ⟨m, hm, hp⟩)
      · rcases List.mem_append.1 h with h | h
        · exact .inl h
        · rcases putGo_mem T _ _ _ h with h | h
          · cases h
          · exact .inr ⟨n, List.mem_cons_self, h⟩
      · exact .inr ⟨m, List.mem_cons_of_mem _ hm, hp⟩
    · rintro (h | ⟨m, hm, hp⟩)
      · exact .inl (List.mem_append_left _ h)
      · rcases List.mem_cons.1 hm with rfl | hm
        · obtain ⟨j, hj, e⟩ := List.getElem_of_mem hp
          obtain ⟨i, _, h2⟩ := putGo_at T (cutL m.f2) [] j hj
          rw [e] at h2
          exact .inl (List.mem_of_getElem? h2)
        · exact .inr ⟨m, hm, hp⟩
theorem tab_perm {s t : List Nd} (h : ∀ p, (∃ n ∈ s, p ∈ cutL n.f2) ↔ ∃ n ∈ t, p ∈ cutL n.f2) : (tabOf [] s).Perm (tabOf [] t) :=
  (List.perm_ext_iff_of_nodup (tab_good s [] goodT_nil).1 (tab_good t [] goodT_nil).1).2 (fun p => by rw [mem_tab, mem_tab, h])
def psum (T : List ByteArray) : Nat := (T.map (fun b => (pk b).size)).sum
theorem psum_cons (b : ByteArray) (T : List ByteArray) : psum (b :: T) = (pk b).size + psum T := by unfold psum; rw [List.map_cons, List.sum_cons]
theorem psum_perm {s t : List ByteArray} (h : s.Perm t) : psum s = psum t := List.Perm.sum_nat (h.map _)
theorem psum_le : ∀ T : List ByteArray, (∀ b ∈ T, b.size ≤ 64) → psum T ≤ 65 * T.length
  | [], _ => by simp [psum]
  | b :: T, h => by
    have := psum_le T (fun y hy => h y (List.mem_cons_of_mem _ hy))
    have := h b (List.mem_cons_self ..)
    have := pk_size b
    rw [psum_cons, List.length_cons]; omega
theorem saved_l0 (T : List ByteArray) (hT : T.length ≤ 4000) (hb : ∀ b ∈ T, b.size ≤ 64) : ∀ (f j k : Nat) (x : Int), j + f = T.length → f + 1000 ≤ k → -1000000 - 65 * (f : Int) ≤ -1000000 → x ≤ 10000000 → -1000000 + (psum (T.drop j) : Int) ≤ x → image_Saved.l0 k x T (T.length : Int) (j : Int) = some (x - (psum (T.drop j) : Int)) := by
  intro f
  induction f with
  | zero =>
    intro j k x hj hk _ hx hx'
    obtain ⟨k, rfl⟩ : ∃ m, k = m + 1 := ⟨k - 1, by omega⟩
    rw [image_Saved.l0, if_neg (by omega), List.drop_of_length_le (by omega)]
    simp [psum]
  | succ f ih =>
    intro j k x hj hk _ hx hx'
    obtain ⟨k, rfl⟩ : ∃ m, k = m + 1 := ⟨k - 1, by omega⟩
    have hjl : j < T.length := by omega
    have hs := hb _ (List.getElem_mem hjl)
    have hpk := pk_size T[j]
    rw [List.drop_eq_getElem_cons hjl, psum_cons] at hx' ⊢
    rw [image_Saved.l0, if_pos (by omega), if_pos (by omega), if_pos (by omega), Tab.rdOf_nat T j hjl, PTh.pack_f T[j] (by omega) k (by omega), Bs.some_bind]
    show image_Saved.l0 k (wrap64 (x - ((pk T[j]).size : Int))) T (T.length : Int) (wrap64 ((j : Int) + 1)) = _
    rw [w_one j (by omega), wrap_in (by omega) (by omega), ih (j + 1) k _ (by omega) (by omega) (by omega) (by omega) (by omega)]
    refine congrArg some ?_
    omega
theorem saved_f (t : List Nd) (h : mayT t = true) (k : Nat) (hk : 10000 ≤ k) : image_Saved.f k t = some ((sum t : Int) - (psum (tabOf [] t) : Int)) := by
  obtain ⟨h4, hg⟩ := tree_sizes h
  have hd : ∀ n ∈ t, n.f2.size ≤ 500 := fun n hn => by have := (hg n hn).2; omega
  have hT := tab_len t [] hd
  have hG := fun b hb => ((tab_good t [] goodT_nil).2 b hb).2
  have hp := psum_le _ hG
  have hs := sum_le t hd
  rw [List.length_nil] at hT
  unfold image_Saved.f
  rw [mayT_f t (by omega) k (by omega), Bs.some_bind, if_pos h, parts_f t h4 hd k (by omega), Bs.some_bind, size_f t (by omega) hd k (by omega), Bs.some_bind]
  have := saved_l0 (tabOf [] t) (by omega) hG (tabOf [] t).length 0 k (sum t : Int) (by omega) (by omega) (by omega) (by omega) (by rw [List.drop_zero]; omega)
  rw [List.drop_zero] at this
  exact this
theorem blocks_f (t : List Nd) (h : mayT t = true) (k : Nat) (hk : 10000 ≤ k) : image_Blocks.f k t = some ((tabOf [] t).length : Int) := by
  obtain ⟨h4, hg⟩ := tree_sizes h
  unfold image_Blocks.f
  rw [mayT_f t (by omega) k (by omega), Bs.some_bind, if_pos h, parts_f t h4 (fun n hn => by have := (hg n hn).2; omega) k (by omega), Bs.some_bind]
/-! ### the law -/
theorem jt (l0 : List Nd) (a1 : Int) (k : Nat) (hk : 4000 ≤ k) : hogsheadlaw19_ImageOnce.j0 k l0 a1 true = some true := by
  obtain ⟨k, rfl⟩ : ∃ m, k = m + 1 := ⟨k - 1, by omega⟩
  rw [hogsheadlaw19_ImageOnce.j0, if_pos rfl, awake_f k (by omega)]; rfl
theorem ImageOnce : hogsheadlaw19_ImageOnce.Pure := by
  intro l0 a1 hl hwf
  refine ⟨2000000000, ?_⟩
  have hlen : l0.length ≤ 9223372036854775807 := hl.1
  unfold hogsheadlaw19_ImageOnce.f
  rw [show (30 : Int) = ((30 : Nat) : Int) from rfl, great_f l0 30 (by omega) hlen _ (by omega), Bs.some_bind]
  by_cases g0 : great l0 30 = true
  · rw [if_pos g0, jt _ _ _ (by omega)]
  rw [if_neg g0]
  obtain ⟨n0, _⟩ := great_not g0
  rw [mayT_f l0 (by omega) _ (by omega), Bs.some_bind]
  by_cases m0 : mayT l0 = true
  case neg => rw [if_neg m0, jt _ _ _ (by omega)]
  obtain ⟨hne, _, _⟩ := mayT_good m0
  have hpos : 0 < l0.length := List.length_pos_iff.2 hne
  rw [if_pos m0, if_pos (by omega)]
  cases hq : ((rd_T46 l0 0).f1 != 1)
  case true => exact jt _ _ _ (by omega)
  obtain ⟨s4, sg⟩ := tree_sizes m0
  rw [hogsheadlaw19_ImageOnce.j0, if_neg (by simp), low_f a1 l0.length (by omega) (by omega), Bs.some_bind]
  have h1 : 0 ≤ (a1 % 18446744073709551616) % (l0.length : Int) := Int.emod_nonneg _ (by omega)
  have h2 : (a1 % 18446744073709551616) % (l0.length : Int) < (l0.length : Int) := Int.emod_lt_of_pos _ (by omega)
  obtain ⟨i, hi⟩ := Int.eq_ofNat_of_zero_le h1
  rw [hi] at h1 h2 ⊢
  have hil : i < l0.length := by omega
  rw [if_pos h1, if_pos h2, if_pos (by rw [List.length_nil]; omega), Bs.some_bind, List.nil_append, if_pos (by omega), rdN, at_lt l0 i hil]
  obtain ⟨Z, z1, z2, z3, z4⟩ := sort_f (l0 ++ [(⟨(⟨#[122, 122, 122, 122, 122, 122, 122, 122, 122, 122]⟩ : ByteArray), 2, l0[i].f2⟩ : Nd)]) (by rw [List.length_append]; simp; omega) 1999999999 (by omega)
  have hzl : Z.length = l0.length + 1 := by rw [z4, List.length_append]; rfl
  rw [z1, Bs.some_bind, mayT_f Z (by omega) _ (by omega), Bs.some_bind]
  by_cases mz : mayT Z = true
  case neg => rw [if_neg mz, awake_f _ (by omega)]; rfl
  have hp := same_perm z3
  have hP : (tabOf [] Z).Perm (tabOf [] l0) := tab_perm (fun p => by
    constructor
    · rintro ⟨n, hn, h⟩
      rcases List.mem_append.1 (hp.mem_iff.1 hn) with hn | hn
      · exact ⟨n, hn, h⟩
      · rw [List.mem_singleton] at hn
        subst hn
        exact ⟨l0[i], List.getElem_mem hil, h⟩
    · rintro ⟨n, hn, h⟩
      exact ⟨n, hp.mem_iff.2 (List.mem_append_left _ hn), h⟩)
  have hs : sum Z = sum l0 + l0[i].f2.size := by rw [sum_perm hp, sum_snoc]
  have hd : ∀ n ∈ l0, n.f2.size ≤ 500 := fun n hn => by have := (sg n hn).2; omega
  have hT := tab_len l0 [] hd
  have hG := fun b hb => ((tab_good l0 [] goodT_nil).2 b hb).2
  have hps := psum_le _ hG
  have hss := sum_le l0 hd
  have hdi := hd _ (List.getElem_mem hil)
  rw [List.length_nil] at hT
  rw [if_pos mz, blocks_f Z mz _ (by omega), Bs.some_bind, blocks_f l0 m0 _ (by omega), Bs.some_bind, if_pos (by rw [hP.length_eq]), saved_f Z mz _ (by omega), Bs.some_bind, saved_f l0 m0 _ (by omega), Bs.some_bind, psum_perm hP, hs, wrap_in (by omega) (by omega), if_pos (by omega), awake_f _ (by omega)]; rfl
end Go.Proofs.YtcijimdogddbeaaDoor.Pure
