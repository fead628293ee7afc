/- slices.SortStableFunc at tree.order, as the print has it: what comes is in order, and at each path the nodes are the same, in the same order. -/
import Derived.Test.YtiamdmlbhmgnjaaDoorTreeChar
namespace Go.Proofs.YtiamdmlbhmgnjaaDoor.SortAll
open Go.RowKit Go.Proofs.YtiamdmlbhmgnjaaDoorX Go.Proofs.YtiamdmlbhmgnjaaDoorW.PrintWords Go.Proofs.YtiamdmlbhmgnjaaDoorW.PrintLast Go.Proofs.YtiamdmlbhmgnjaaDoorW.PrintMore Go.Proofs.YtiamdmlbhmgnjaaDoor.P Go.Proofs.YtiamdmlbhmgnjaaDoor.Pa Go.Proofs.YtiamdmlbhmgnjaaDoor.PaTh Go.Proofs.YtiamdmlbhmgnjaaDoor.TreeTh Go.Proofs.YtiamdmlbhmgnjaaDoor.TreeUp
set_option linter.unusedVariables false
set_option linter.unusedSimpArgs false
def isAt (p : List UInt8) (n : Nd) : Bool := decide (L n.f0 = p)
/-- In order: none behind a greater one. -/
def Up (s : List Nd) : Prop := s.Pairwise (fun a b => Op.bytesLess (L b.f0) (L a.f0) = false)
/-- At each path the same nodes, in the same order. -/
def Same (s t : List Nd) : Prop := ∀ p, s.filter (isAt p) = t.filter (isAt p)
theorem Same.refl (s : List Nd) : Same s s := fun _ => rfl
theorem Same.trans {s t u : List Nd} (h : Same s t) (k : Same t u) : Same s u := fun p => (h p).trans (k p)
theorem Same.symm {s t : List Nd} (h : Same s t) : Same t s := fun p => (h p).symm
theorem Same.frame {s t : List Nd} (h : Same s t) (A B : List Nd) : Same (A ++ s ++ B) (A ++ t ++ B) := fun p => by
  simp only [List.filter_append, h p]
theorem Same.mem {s t : List Nd} (h : Same s t) {x : Nd} (hx : x ∈ s) : x ∈ t := by
  have : x ∈ s.filter (isAt (L x.f0)) := List.mem_filter.2 ⟨hx, by unfold isAt; simp⟩
  rw [h] at this
  exact (List.mem_filter.1 this).1
theorem same_turn (A X Y B : List Nd) (h : ∀ x ∈ X, ∀ y ∈ Y, L x.f0 ≠ L y.f0) : Same (A ++ Y ++ X ++ B) (A ++ X ++ Y ++ B) := by
  intro p
  simp only [List.filter_append, List.append_assoc]
  congr 1
  rw [← List.append_assoc, ← List.append_assoc]
  congr 1
  by_cases hX : X.filter (isAt p) = []
  · rw [hX]; simp
  · obtain ⟨x, hx⟩ := List.exists_mem_of_ne_nil _ hX
    obtain ⟨hx1, hx2⟩ := List.mem_filter.1 hx
    have hY : Y.filter (isAt p) = [] := by
      rw [List.filter_eq_nil_iff]
      intro y hy hy2
      unfold isAt at hx2 hy2
      exact h x hx1 y hy ((of_decide_eq_true hx2).trans (of_decide_eq_true hy2).symm)
    rw [hY]; simp
theorem less_eq {a b : List UInt8} (h : Op.bytesLess a b = false) (k : Op.bytesLess b a = false) : a = b := by
  have := less_tri a b
  rw [h, k] at this
  simpa using this
theorem up_same : ∀ (s t : List Nd), Up s → Up t → Same s t → s = t := by
  intro s
  induction s with
  | nil =>
    intro t _ _ h
    cases t with
    | nil => rfl
    | cons y t => exact absurd (h.symm.mem (List.mem_cons_self ..)) (by simp)
  | cons x s ih =>
    intro t hs ht h
    cases t with
    | nil => exact absurd (h.mem (List.mem_cons_self ..)) (by simp)
    | cons y t =>
      have hk : L x.f0 = L y.f0 := by
        have a : Op.bytesLess (L x.f0) (L y.f0) = false := by
          rcases List.mem_cons.1 (h.mem (List.mem_cons_self (a := x) (l := s))) with e | e
          · rw [e]; exact less_irr _
          · exact (List.pairwise_cons.1 ht).1 x e
        have b : Op.bytesLess (L y.f0) (L x.f0) = false := by
          rcases List.mem_cons.1 (h.symm.mem (List.mem_cons_self (a := y) (l := t))) with e | e
          · rw [e]; exact less_irr _
          · exact (List.pairwise_cons.1 hs).1 y e
        exact less_eq a b
      have hx : isAt (L x.f0) x = true := by unfold isAt; simp
      have hy : isAt (L x.f0) y = true := by unfold isAt; simp [hk]
      have h1 := h (L x.f0)
      rw [List.filter_cons, List.filter_cons, if_pos hx, if_pos hy] at h1
      obtain ⟨rfl, _⟩ := List.cons.inj h1
      refine congrArg (x :: ·) (ih t (List.pairwise_cons.1 hs).2 (List.pairwise_cons.1 ht).2 fun p => ?_)
      have h2 := h p
      rw [List.filter_cons, List.filter_cons] at h2
      by_cases e : isAt p x = true
      · rw [if_pos e, if_pos e] at h2; exact (List.cons.inj h2).2
      · rw [if_neg e, if_neg e] at h2; exact h2
theorem rd_mid (P : List Nd) (u : Nd) (R : List Nd) (i : Int) (h : i = P.length) : rd_T37 (P ++ u :: R) i = u := by
  subst h
  unfold rd_T37
  rw [Int.toNat_natCast, List.getD_eq_getElem?_getD, List.getElem?_append_right (Nat.le_refl _), Nat.sub_self]
  rfl
theorem set_mid : ∀ (P : List Nd) (u : Nd) (R : List Nd) (v : Nd), (P ++ u :: R).set P.length v = P ++ v :: R
  | [], u, R, v => rfl
  | x :: P, u, R, v => by rw [List.cons_append, List.length_cons, List.set_cons_succ, set_mid P u R v]; rfl
/-- Two ranges that are alike long, exchanged. -/
theorem swap_l0 : ∀ (U V : List Nd), U.length = V.length → ∀ (P M B : List Nd) (a b n i : Int) (k : Nat), 0 ≤ a → 0 ≤ b → 0 ≤ i → a + i = P.length → b + i = P.length + U.length + M.length → n = i + U.length → P.length + U.length + M.length + V.length + B.length ≤ 1000000 → U.length < k →
    api_Node_59.l0 k (P ++ U ++ M ++ V ++ B) a b n i = some (P ++ V ++ M ++ U ++ B) := by
  intro U
  induction U with
  | nil =>
    intro V hV P M B a b n i k ha hb hi h1 h2 h3 hz hk
    obtain ⟨k, rfl⟩ : ∃ m, k = m + 1 := ⟨k - 1, by omega⟩
    obtain rfl : V = [] := List.eq_nil_of_length_eq_zero (by simpa using hV.symm)
    simp only [List.length_nil] at h3
    rw [api_Node_59.l0, if_neg (by omega)]
  | cons u U ih =>
    intro V hV P M B a b n i k ha hb hi h1 h2 h3 hz hk
    obtain ⟨k, rfl⟩ : ∃ m, k = m + 1 := ⟨k - 1, by omega⟩
    cases V with
    | nil => simp at hV
    | cons v V =>
      simp only [List.length_cons] at hV h2 h3 hz hk
      have e1 : P ++ (u :: U) ++ M ++ (v :: V) ++ B = P ++ u :: (U ++ M ++ v :: V ++ B) := by simp
      have e2 : P ++ (u :: U) ++ M ++ (v :: V) ++ B = (P ++ u :: U ++ M) ++ v :: (V ++ B) := by simp
      have hlen : (P ++ (u :: U) ++ M ++ (v :: V) ++ B).length = P.length + (U.length + 1) + M.length + (V.length + 1) + B.length := by simp; omega
      have r1 : rd_T37 (P ++ (u :: U) ++ M ++ (v :: V) ++ B) (a + i) = u := by rw [e1]; exact rd_mid _ _ _ _ (by omega)
      have r2 : rd_T37 (P ++ (u :: U) ++ M ++ (v :: V) ++ B) (b + i) = v := by rw [e2]; exact rd_mid _ _ _ _ (by simp; omega)
      have s1 : (P ++ (u :: U) ++ M ++ (v :: V) ++ B).set P.length v = P ++ v :: U ++ M ++ v :: V ++ B := by rw [e1, set_mid]; simp
      have s2 : (P ++ v :: U ++ M ++ v :: V ++ B).set (P ++ v :: U ++ M).length u = P ++ v :: U ++ M ++ u :: V ++ B := by
        rw [show P ++ v :: U ++ M ++ v :: V ++ B = (P ++ v :: U ++ M) ++ v :: (V ++ B) by simp, set_mid]; simp
      rw [api_Node_59.l0, if_pos (by omega), show wrap64 (b + i) = b + i from wrap_in (by omega) (by omega), show wrap64 (a + i) = a + i from wrap_in (by omega) (by omega), if_pos (by omega), if_pos (by rw [hlen]; omega), if_pos (by omega), if_pos (by rw [hlen]; omega),
        r1, r2, Nd_eta, Nd_eta, show (a + i).toNat = P.length by omega, show (b + i).toNat = (P ++ v :: U ++ M).length by simp; omega, s1, s2, show wrap64 (i + 1) = i + 1 from wrap_in (by omega) (by omega)]
      have := ih V (by omega) (P ++ [v]) (M ++ [u]) B a b n (i + 1) k ha hb (by omega) (by simp; omega) (by simp; omega) (by omega) (by simp; omega) (by omega)
      rw [show P ++ v :: U ++ M ++ u :: V ++ B = P ++ [v] ++ U ++ (M ++ [u]) ++ V ++ B by simp, this]
      simp
theorem swap_f (P U M V B : List Nd) (hUV : U.length = V.length) (a b n : Int) (z : Bool) (k : Nat) (ha : a = P.length) (hb : b = P.length + U.length + M.length) (hn : n = U.length) (hz : P.length + U.length + M.length + V.length + B.length ≤ 1000000) (hk : U.length < k) :
    api_Node_59.f k (P ++ U ++ M ++ V ++ B) a b n z = some (P ++ V ++ M ++ U ++ B) := by
  unfold api_Node_59.f
  exact swap_l0 U V hUV P M B a b n 0 k (by omega) (by omega) (by omega) (by omega) (by omega) (by omega) hz hk
/-- Two blocks behind one another, exchanged. -/
theorem rot_l0 : ∀ (f : Nat) (X Y A B : List Nd) (m i j : Int) (z : Bool) (k : Nat), X.length + Y.length ≤ f → X ≠ [] → Y ≠ [] → m = A.length + X.length → i = X.length → j = Y.length → A.length + X.length + Y.length + B.length ≤ 1000000 → 2 * f + 2 ≤ k →
    api_Node_53.l0 k (A ++ X ++ Y ++ B) m z i j = some (A ++ Y ++ X ++ B) := by
  intro f
  induction f with
  | zero =>
    intro X Y A B m i j z k hf hX
    exact absurd (List.eq_nil_of_length_eq_zero (by omega)) hX
  | succ f ih =>
    intro X Y A B m i j z k hf hX hY hm hi hj hz hk
    obtain ⟨k, rfl⟩ : ∃ m, k = m + 1 := ⟨k - 1, by omega⟩
    have lX : X.length ≠ 0 := fun e => hX (List.eq_nil_of_length_eq_zero e)
    have lY : Y.length ≠ 0 := fun e => hY (List.eq_nil_of_length_eq_zero e)
    rw [api_Node_53.l0, show wrap64 (m - i) = m - i from wrap_in (by omega) (by omega)]
    by_cases h1 : i = j
    · have := swap_f A X [] Y B (by omega) (m - i) m i z k (by omega) (by simp; omega) hi (by simp; omega) (by omega)
      rw [List.append_nil] at this
      rw [if_pos h1, this, some_bind, List.append_nil]
    rw [if_neg h1]
    by_cases h2 : i > j
    · obtain ⟨X1, X2, rfl, h3⟩ : ∃ X1 X2, X = X1 ++ X2 ∧ X1.length = Y.length := ⟨X.take Y.length, X.drop Y.length, (List.take_append_drop ..).symm, by rw [List.length_take]; omega⟩
      rw [List.length_append] at hf hm hi hz lX
      have := swap_f A X1 X2 Y B h3 (m - i) m j z k (by omega) (by omega) (by omega) (by omega) (by omega)
      rw [if_pos h2, ← List.append_assoc A X1 X2, this, some_bind, show wrap64 (i - j) = i - j from wrap_in (by omega) (by omega), ih X2 X1 (A ++ Y) B m (i - j) j z k (by omega) (fun e => by rw [e] at hi; simp at hi; omega) (fun e => by rw [e] at h3; simp at h3; omega) (by rw [List.length_append]; omega) (by omega) (by omega) (by rw [List.length_append]; omega) (by omega)]
      simp
    · obtain ⟨Y1, Y2, rfl, h3⟩ : ∃ Y1 Y2, Y = Y1 ++ Y2 ∧ Y2.length = X.length := ⟨Y.take (Y.length - X.length), Y.drop (Y.length - X.length), (List.take_append_drop ..).symm, by rw [List.length_drop]; omega⟩
      rw [List.length_append] at hf hj hz lY
      have := swap_f A X Y1 Y2 B h3.symm (m - i) (m + j - i) i z k (by omega) (by omega) (by omega) (by omega) (by omega)
      rw [if_neg h2, show wrap64 (m + j) = m + j from wrap_in (by omega) (by omega), show wrap64 (m + j - i) = m + j - i from wrap_in (by omega) (by omega), show A ++ X ++ (Y1 ++ Y2) ++ B = A ++ X ++ Y1 ++ Y2 ++ B by simp, this, some_bind, show wrap64 (j - i) = j - i from wrap_in (by omega) (by omega),
        show A ++ Y2 ++ Y1 ++ X ++ B = A ++ Y2 ++ Y1 ++ (X ++ B) by simp, ih Y2 Y1 A (X ++ B) m i (j - i) z k (by omega) (fun e => by rw [e] at h3; simp at h3; omega) (fun e => by rw [e] at hj; simp at hj; omega) (by omega) (by omega) (by omega) (by rw [List.length_append]; omega) (by omega)]
      simp
theorem rot_f (A X Y B : List Nd) (hX : X ≠ []) (hY : Y ≠ []) (a m b : Int) (z : Bool) (k : Nat) (ha : a = A.length) (hm : m = A.length + X.length) (hb : b = A.length + X.length + Y.length) (hz : A.length + X.length + Y.length + B.length ≤ 1000000) (hk : 2 * (X.length + Y.length) + 2 ≤ k) :
    api_Node_53.f k (A ++ X ++ Y ++ B) a m b z = some (A ++ Y ++ X ++ B) := by
  unfold api_Node_53.f
  rw [show wrap64 (m - a) = m - a from wrap_in (by omega) (by omega), show wrap64 (b - m) = b - m from wrap_in (by omega) (by omega)]
  exact rot_l0 _ X Y A B m (m - a) (b - m) z k (Nat.le_refl _) hX hY hm (by omega) (by omega) hz hk
theorem order_f (a b : Nd) : tree_order.f a.f0 a.f1 a.f2 b.f0 b.f1 b.f2 = some (if Op.bytesLess (L a.f0) (L b.f0) = true then -1 else if Op.bytesLess (L b.f0) (L a.f0) = true then 1 else 0) := by
  unfold tree_order.f cmp_Compare_string.f cmp_isNaN_string.f
  rw [bne_self_eq_false, bne_self_eq_false, some_bind, some_bind, if_neg (by simp), if_neg (by simp), toL, toL]
  by_cases h : Op.bytesLess (L a.f0) (L b.f0) = true
  · rw [if_pos h, if_pos h]; rfl
  rw [if_neg h, if_neg h]
  by_cases h2 : Op.bytesLess (L b.f0) (L a.f0) = true
  · rw [if_pos h2, if_pos h2]; rfl
  · rw [if_neg h2, if_neg h2]; rfl
theorem mid_ {x y : Int} (h0 : 0 ≤ x) (h1 : 0 ≤ y) (hx : x ≤ 1000000) (hy : y ≤ 1000000) : wrap64 ((IntKind.u64.wrap (wrap64 (x + y))) / 2) = (x + y) / 2 := by
  rw [wrap_in (a := x + y) (by omega) (by omega), show IntKind.u64.wrap (x + y) = x + y by show (x + y) % 18446744073709551616 = x + y; exact Int.emod_eq_of_lt (by omega) (by omega)]
  exact wrap_in (by omega) (by omega)
/-- Is a node's path ahead of another's? -/
def lt (a b : Nd) : Bool := Op.bytesLess (L a.f0) (L b.f0)
theorem ord_lt (a b : Nd) : ∃ r, tree_order.f a.f0 a.f1 a.f2 b.f0 b.f1 b.f2 = some r ∧ (r < 0 ↔ lt a b = true) := by
  refine ⟨_, order_f a b, ?_⟩
  unfold lt
  by_cases h : Op.bytesLess (L a.f0) (L b.f0) = true
  · rw [if_pos h]; exact ⟨fun _ => h, fun _ => by omega⟩
  · rw [if_neg h]
    refine ⟨fun e => ?_, fun e => absurd e h⟩
    by_cases h2 : Op.bytesLess (L b.f0) (L a.f0) = true
    · rw [if_pos h2] at e; omega
    · rw [if_neg h2] at e; omega
theorem lt_trans {a b c : Nd} (h : lt a b = true) (k : lt b c = true) : lt a c = true := less_trans h k
theorem lt_not {a b : Nd} (h : lt a b = true) : lt b a = false := less_not h
theorem lt_irr (a : Nd) : lt a a = false := less_irr _
theorem le_lt {a b c : Nd} (h : lt b a = false) (k : lt b c = true) : lt a c = true := by
  cases e : lt a b
  · have : L b.f0 = L a.f0 := less_eq h e
    unfold lt at k ⊢; rw [← this]; exact k
  · exact lt_trans e k
theorem lt_le {a b c : Nd} (h : lt a b = true) (k : lt c b = false) : lt a c = true := by
  cases e : lt b c
  · have : L c.f0 = L b.f0 := less_eq k e
    unfold lt at h ⊢; rw [this]; exact h
  · exact lt_trans h e
theorem le_trans {a b c : Nd} (h : lt b a = false) (k : lt c b = false) : lt c a = false := by
  cases e : lt c a
  · rfl
  · rw [lt_le e h] at k; cases k
theorem lt_ne {a b : Nd} (h : lt a b = true) : L a.f0 ≠ L b.f0 := fun e => by
  unfold lt at h
  rw [e, less_irr] at h
  cases h
theorem up_mid {P : List Nd} {y : Nd} {R : List Nd} (h : Up (P ++ R)) (h1 : ∀ p ∈ P, lt y p = false) (h2 : ∀ r ∈ R, lt r y = false) : Up (P ++ y :: R) := by
  unfold Up at *
  rw [List.pairwise_append] at *
  refine ⟨h.1, List.pairwise_cons.2 ⟨fun r hr => h2 r hr, h.2.1⟩, fun p hp r hr => ?_⟩
  rcases List.mem_cons.1 hr with e | e
  · subst e; exact h1 p hp
  · exact h.2.2 p hp r e
/-- One node goes forward among what is in order. -/
theorem ins_l1 : ∀ (n : Nat) (P1 P2 A R : List Nd) (y : Nd) (a b i j : Int) (k : Nat), P1.length = n → a = A.length → j = A.length + P1.length → A.length + P1.length + 1 + P2.length + R.length ≤ 1000000 → P1.length + 2 ≤ k → Up (P1 ++ P2) → (∀ p ∈ P2, lt y p = true) →
    ∃ Q k', api_Node_44.l1 k (A ++ (P1 ++ y :: P2) ++ R) a b i j = api_Node_44.l0 k' (A ++ Q ++ R) a b (wrap64 (i + 1)) ∧ k ≤ k' + n + 1 ∧ Up Q ∧ Same Q (P1 ++ y :: P2) ∧ Q.length = P1.length + 1 + P2.length := by
  intro n
  induction n with
  | zero =>
    intro P1 P2 A R y a b i j k hn ha hj hz hk hu hy
    obtain ⟨k, rfl⟩ : ∃ m, k = m + 1 := ⟨k - 1, by omega⟩
    obtain rfl : P1 = [] := List.eq_nil_of_length_eq_zero hn
    refine ⟨y :: P2, k, ?_, by omega, up_mid (P := []) hu (by simp) (fun r hr => lt_not (hy r hr)), Same.refl _, by simp; omega⟩
    simp only [List.length_nil] at hj
    rw [api_Node_44.l1, if_neg (by omega)]
    rfl
  | succ n ih =>
    intro P1 P2 A R y a b i j k hn ha hj hz hk hu hy
    obtain ⟨k, rfl⟩ : ∃ m, k = m + 1 := ⟨k - 1, by omega⟩
    obtain ⟨P, x, rfl⟩ : ∃ P x, P1 = P ++ [x] := ⟨P1.dropLast, P1.getLast (fun e => by rw [e] at hn; simp at hn), (List.dropLast_concat_getLast _).symm⟩
    simp only [List.length_append, List.length_cons, List.length_nil] at hn hj hz hk
    have hlen : (A ++ (P ++ [x] ++ y :: P2) ++ R).length = A.length + P.length + 1 + 1 + P2.length + R.length := by simp; omega
    have r1 : rd_T37 (A ++ (P ++ [x] ++ y :: P2) ++ R) j = y := by
      rw [show A ++ (P ++ [x] ++ y :: P2) ++ R = (A ++ P ++ [x]) ++ y :: (P2 ++ R) by simp]; exact rd_mid _ _ _ _ (by simp; omega)
    have r2 : rd_T37 (A ++ (P ++ [x] ++ y :: P2) ++ R) (j - 1) = x := by
      rw [show A ++ (P ++ [x] ++ y :: P2) ++ R = (A ++ P) ++ x :: (y :: P2 ++ R) by simp]; exact rd_mid _ _ _ _ (by simp; omega)
    obtain ⟨r, hr, hr0⟩ := ord_lt y x
    rw [api_Node_44.l1, if_pos (by omega), if_pos (by omega), if_pos (by rw [hlen]; omega), show wrap64 (j - 1) = j - 1 from wrap_in (by omega) (by omega), if_pos (by omega), if_pos (by rw [hlen]; omega), r1, r2, hr, some_bind]
    cases e : lt y x
    · refine ⟨P ++ [x] ++ y :: P2, k, ?_, by omega, ?_, Same.refl _, by simp; omega⟩
      · rw [if_neg (fun h => by rw [hr0.1 h] at e; cases e)]
      · refine up_mid hu (fun p hp => ?_) (fun r hr => lt_not (hy r hr))
        rcases List.mem_append.1 hp with hp | hp
        · have := (List.pairwise_append.1 (List.pairwise_append.1 hu).1).2.2 p hp x (by simp)
          exact le_trans this e
        · rw [List.mem_singleton.1 hp]; exact e
    · have s1 : (A ++ (P ++ [x] ++ y :: P2) ++ R).set j.toNat x = A ++ (P ++ [x] ++ x :: P2) ++ R := by
        rw [show A ++ (P ++ [x] ++ y :: P2) ++ R = (A ++ P ++ [x]) ++ y :: (P2 ++ R) by simp, show j.toNat = (A ++ P ++ [x]).length by simp; omega, set_mid]; simp
      have s2 : (A ++ (P ++ [x] ++ x :: P2) ++ R).set (j - 1).toNat y = A ++ (P ++ y :: (x :: P2)) ++ R := by
        rw [show A ++ (P ++ [x] ++ x :: P2) ++ R = (A ++ P) ++ x :: (x :: P2 ++ R) by simp, show (j - 1).toNat = (A ++ P).length by simp; omega, set_mid]; simp
      rw [if_pos (hr0.2 e), Nd_eta, Nd_eta, s1, s2]
      obtain ⟨Q, k', h1, h2, h3, h4, h5⟩ := ih P (x :: P2) A R y a b i (j - 1) k (by omega) ha (by omega) (by simp; omega) (by omega) (by simpa using hu) (fun p hp => by
        rcases List.mem_cons.1 hp with hp | hp
        · rw [hp]; exact e
        · exact hy p hp)
      refine ⟨Q, k', h1, by omega, h3, h4.trans ?_, by rw [h5]; simp; omega⟩
      have := same_turn P [x] [y] P2 (fun a ha b hb => by
        rw [List.mem_singleton.1 ha, List.mem_singleton.1 hb]
        exact fun h => lt_ne e h.symm)
      simpa using this
theorem ins_l0 (N : Nat) (A B : List Nd) (a b : Int) (ha : a = A.length) (hz : A.length + N + B.length ≤ 1000000) : ∀ (f : Nat) (P R : List Nd) (i : Int) (k : Nat), R.length = f → P.length + R.length = N → P ≠ [] → i = A.length + P.length → b = i + R.length → Up P → (f + 1) * (N + 3) ≤ k →
    ∃ Z, api_Node_44.l0 k (A ++ P ++ R ++ B) a b i = some (A ++ Z ++ B) ∧ Up Z ∧ Same Z (P ++ R) ∧ Z.length = N := by
  intro f
  induction f with
  | zero =>
    intro P R i k hf hN hP hi hb hu hk
    obtain ⟨k, rfl⟩ : ∃ m, k = m + 1 := ⟨k - 1, by omega⟩
    obtain rfl : R = [] := List.eq_nil_of_length_eq_zero hf
    refine ⟨P, ?_, hu, by rw [List.append_nil]; exact Same.refl _, by simpa using hN⟩
    simp only [List.length_nil] at hb
    rw [api_Node_44.l0, if_neg (by omega), List.append_nil]
  | succ f ih =>
    intro P R i k hf hN hP hi hb hu hk
    have hk2 : (f + 1 + 1) * (N + 3) = (f + 1) * (N + 3) + (N + 3) := by rw [Nat.add_mul, Nat.one_mul]
    obtain ⟨k, rfl⟩ : ∃ m, k = m + 1 := ⟨k - 1, by omega⟩
    cases R with
    | nil => simp at hf
    | cons y R =>
      simp only [List.length_cons] at hf hN hb
      obtain ⟨Q, k', h1, h2, h3, h4, h5⟩ := ins_l1 P.length P [] A (R ++ B) y a b i i k rfl ha hi (by rw [List.length_append, List.length_nil]; omega) (by omega) (by rw [List.append_nil]; exact hu) (by simp)
      rw [api_Node_44.l0, if_pos (by omega), show A ++ P ++ y :: R ++ B = A ++ (P ++ y :: []) ++ (R ++ B) by simp, h1, show wrap64 (i + 1) = i + 1 from wrap_in (by omega) (by omega), ← List.append_assoc]
      simp only [List.length_nil] at h5
      obtain ⟨Z, z1, z2, z3, z4⟩ := ih Q R (i + 1) k' (by omega) (by omega) (fun e => by rw [e] at h5; simp at h5) (by omega) (by omega) h3 (by omega)
      refine ⟨Z, z1, z2, z3.trans ?_, z4⟩
      have := (h4.frame [] R)
      simpa using this
/-- A block put in order. -/
theorem insert_f (A X B : List Nd) (a b : Int) (z : Bool) (k : Nat) (ha : a = A.length) (hb : b = A.length + X.length) (hz : A.length + X.length + B.length ≤ 1000000) (hk : (X.length + 1) * (X.length + 3) ≤ k) :
    ∃ Z, api_Node_44.f k (A ++ X ++ B) a b z = some (A ++ Z ++ B) ∧ Up Z ∧ Same Z X ∧ Z.length = X.length := by
  unfold api_Node_44.f
  rw [show wrap64 (a + 1) = a + 1 from wrap_in (by omega) (by omega)]
  cases X with
  | nil =>
    simp only [List.length_nil] at hb hk
    obtain ⟨k, rfl⟩ : ∃ m, k = m + 1 := ⟨k - 1, by omega⟩
    refine ⟨[], ?_, List.Pairwise.nil, Same.refl _, rfl⟩
    rw [api_Node_44.l0, if_neg (by omega)]
  | cons x X =>
    simp only [List.length_cons] at hb hz hk
    obtain ⟨Z, h1, h2, h3, h4⟩ := ins_l0 (X.length + 1) A B a b ha (by omega) X.length [x] X (a + 1) k rfl (by simp; omega) (by simp) (by simp; omega) (by omega) (List.pairwise_singleton _ _) (by
      refine Nat.le_trans (Nat.mul_le_mul_right _ (by omega)) hk)
    refine ⟨Z, ?_, h2, by simpa using h3, by rw [h4]; rfl⟩
    rw [← h1]
    simp
theorem up_left {P R : List Nd} (h : Up (P ++ R)) : Up P := (List.pairwise_append.1 h).1
theorem up_right {P R : List Nd} (h : Up (P ++ R)) : Up R := (List.pairwise_append.1 h).2.1
theorem up_cross {P R : List Nd} (h : Up (P ++ R)) {p r : Nd} (hp : p ∈ P) (hr : r ∈ R) : lt r p = false := (List.pairwise_append.1 h).2.2 p hp r hr
theorem up_join {P R : List Nd} (h : Up P) (k : Up R) (c : ∀ p ∈ P, ∀ r ∈ R, lt r p = false) : Up (P ++ R) := List.pairwise_append.2 ⟨h, k, c⟩
/-- A row parted at a place. -/
theorem part_at (Y : List Nd) (n : Nat) (h : n < Y.length) : ∃ U v W, Y = U ++ v :: W ∧ U.length = n := ⟨Y.take n, Y[n], Y.drop (n + 1), by rw [← List.drop_eq_getElem_cons h, List.take_append_drop], by rw [List.length_take]; omega⟩
/-- Where one node that stands ahead goes among those behind it. -/
theorem sm0_find (A B : List Nd) (x : Nd) (a : Int) (ha : a = A.length) : ∀ (f : Nat) (Y1 Ym Y2 : List Nd) (i j : Int) (k : Nat), Ym.length ≤ f → i = a + 1 + Y1.length → j = i + Ym.length → A.length + 1 + Y1.length + Ym.length + Y2.length + B.length ≤ 1000000 → f + 1 ≤ k → Up (Y1 ++ Ym ++ Y2) → (∀ y ∈ Y1, lt y x = true) → (∀ y ∈ Y2, lt y x = false) →
    ∃ U V k', Y1 ++ Ym ++ Y2 = U ++ V ∧ api_Node_45.l0 k (A ++ x :: (Y1 ++ Ym ++ Y2) ++ B) a i j = api_Node_45.l1 k' (A ++ x :: (U ++ V) ++ B) (a + 1 + U.length) a ∧ k ≤ k' + f + 1 ∧ (∀ y ∈ U, lt y x = true) ∧ (∀ y ∈ V, lt y x = false) := by
  intro f
  induction f with
  | zero =>
    intro Y1 Ym Y2 i j k hf hi hj hz hk hu h1 h2
    obtain ⟨k, rfl⟩ : ∃ m, k = m + 1 := ⟨k - 1, by omega⟩
    obtain rfl : Ym = [] := List.eq_nil_of_length_eq_zero (by omega)
    simp only [List.length_nil] at hj
    refine ⟨Y1, Y2, k, by simp, ?_, by omega, h1, h2⟩
    rw [api_Node_45.l0, if_neg (by omega), hi]
    simp
  | succ f ih =>
    intro Y1 Ym Y2 i j k hf hi hj hz hk hu h1 h2
    obtain ⟨k, rfl⟩ : ∃ m, k = m + 1 := ⟨k - 1, by omega⟩
    by_cases e0 : Ym.length = 0
    · obtain rfl : Ym = [] := List.eq_nil_of_length_eq_zero e0
      simp only [List.length_nil] at hj
      refine ⟨Y1, Y2, k, by simp, ?_, by omega, h1, h2⟩
      rw [api_Node_45.l0, if_neg (by omega), hi]
      simp
    obtain ⟨U, v, W, rfl, hU⟩ := part_at Ym ((i + j) / 2 - i).toNat (by omega)
    simp only [List.length_append, List.length_cons] at hf hj hz
    have hlen : (A ++ x :: (Y1 ++ (U ++ v :: W) ++ Y2) ++ B).length = A.length + 1 + Y1.length + U.length + 1 + W.length + Y2.length + B.length := by simp; omega
    have r1 : rd_T37 (A ++ x :: (Y1 ++ (U ++ v :: W) ++ Y2) ++ B) ((i + j) / 2) = v := by
      rw [show A ++ x :: (Y1 ++ (U ++ v :: W) ++ Y2) ++ B = (A ++ x :: (Y1 ++ U)) ++ v :: (W ++ Y2 ++ B) by simp]; exact rd_mid _ _ _ _ (by simp; omega)
    have r2 : rd_T37 (A ++ x :: (Y1 ++ (U ++ v :: W) ++ Y2) ++ B) a = x := by
      rw [show A ++ x :: (Y1 ++ (U ++ v :: W) ++ Y2) ++ B = A ++ x :: (Y1 ++ (U ++ v :: W) ++ Y2 ++ B) by simp]; exact rd_mid _ _ _ _ ha
    obtain ⟨r, hr, hr0⟩ := ord_lt v x
    rw [api_Node_45.l0, if_pos (by omega), mid_ (by omega) (by omega) (by omega) (by omega), if_pos (by omega), if_pos (by rw [hlen]; omega), if_pos (by omega), if_pos (by rw [hlen]; omega), r1, r2, hr, some_bind]
    have hu' : Up (Y1 ++ (U ++ (v :: W ++ Y2))) := by simpa using hu
    cases e : lt v x
    · rw [if_neg (fun h => by rw [hr0.1 h] at e; cases e)]
      obtain ⟨P, V, k', q1, q2, q3, q4, q5⟩ := ih Y1 U (v :: W ++ Y2) i ((i + j) / 2) k (by omega) hi (by omega) (by simp; omega) (by omega) (by simpa using hu) h1 (fun y hy => by
        rcases List.mem_append.1 hy with hy | hy
        · rcases List.mem_cons.1 hy with hy | hy
          · rw [hy]; exact e
          · have : lt y v = false := (List.pairwise_cons.1 (up_left (R := Y2) (up_right (up_right hu')))).1 y hy
            exact le_trans (a := x) (b := v) (c := y) e this
        · exact h2 y hy)
      refine ⟨P, V, k', by rw [← q1]; simp, ?_, by omega, q4, q5⟩
      rw [← q2]; simp
    · rw [if_pos (hr0.2 e), show wrap64 ((i + j) / 2 + 1) = (i + j) / 2 + 1 from wrap_in (by omega) (by omega)]
      obtain ⟨P, V, k', q1, q2, q3, q4, q5⟩ := ih (Y1 ++ U ++ [v]) W Y2 ((i + j) / 2 + 1) j k (by omega) (by simp; omega) (by omega) (by simp; omega) (by omega) (by simpa using hu) (fun y hy => by
        rcases List.mem_append.1 hy with hy | hy
        · rcases List.mem_append.1 hy with hy | hy
          · exact h1 y hy
          · have : lt v y = false := up_cross (up_right hu') hy (by simp)
            exact le_lt this e
        · rw [List.mem_singleton.1 hy]; exact e) h2
      refine ⟨P, V, k', by rw [← q1]; simp, ?_, by omega, q4, q5⟩
      rw [← q2]; simp
/-- One node carried behind others. -/
theorem sm1_move (x : Nd) (R : List Nd) (i : Int) : ∀ (U A : List Nd) (c : Int) (k : Nat), c = A.length → i = c + 1 + U.length → A.length + 1 + U.length + R.length ≤ 1000000 → U.length < k → api_Node_45.l1 k (A ++ x :: U ++ R) i c = some (A ++ U ++ x :: R) := by
  intro U
  induction U with
  | nil =>
    intro A c k hc hi hz hk
    obtain ⟨k, rfl⟩ : ∃ m, k = m + 1 := ⟨k - 1, by omega⟩
    simp only [List.length_nil] at hi
    rw [api_Node_45.l1, show wrap64 (i - 1) = i - 1 from wrap_in (by omega) (by omega), if_neg (by omega)]
    simp
  | cons u U ih =>
    intro A c k hc hi hz hk
    obtain ⟨k, rfl⟩ : ∃ m, k = m + 1 := ⟨k - 1, by omega⟩
    simp only [List.length_cons] at hi hz hk
    have hlen : (A ++ x :: (u :: U) ++ R).length = A.length + 1 + (U.length + 1) + R.length := by simp; omega
    have r1 : rd_T37 (A ++ x :: (u :: U) ++ R) (c + 1) = u := by
      rw [show A ++ x :: (u :: U) ++ R = (A ++ [x]) ++ u :: (U ++ R) by simp]; exact rd_mid _ _ _ _ (by simp; omega)
    have r2 : rd_T37 (A ++ x :: (u :: U) ++ R) c = x := by
      rw [show A ++ x :: (u :: U) ++ R = A ++ x :: (u :: U ++ R) by simp]; exact rd_mid _ _ _ _ hc
    have s1 : (A ++ x :: (u :: U) ++ R).set c.toNat u = A ++ u :: (u :: U) ++ R := by
      rw [show A ++ x :: (u :: U) ++ R = A ++ x :: (u :: U ++ R) by simp, show c.toNat = A.length by omega, set_mid]; simp
    have s2 : (A ++ u :: (u :: U) ++ R).set (c + 1).toNat x = (A ++ [u]) ++ x :: U ++ R := by
      rw [show A ++ u :: (u :: U) ++ R = (A ++ [u]) ++ u :: (U ++ R) by simp, show (c + 1).toNat = (A ++ [u]).length by simp; omega, set_mid]; simp
    rw [api_Node_45.l1, show wrap64 (i - 1) = i - 1 from wrap_in (by omega) (by omega), if_pos (by omega), show wrap64 (c + 1) = c + 1 from wrap_in (by omega) (by omega), if_pos (by omega), if_pos (by rw [hlen]; omega), if_pos (by omega), if_pos (by rw [hlen]; omega), r1, r2, Nd_eta, Nd_eta, s1, s2,
      ih (A ++ [u]) (c + 1) k (by simp; omega) (by omega) (by simp; omega) (by omega)]
    simp
/-- The merge of one node with those behind it. -/
theorem sm0_f (A Y B : List Nd) (x : Nd) (a b : Int) (ha : a = A.length) (hb : b = a + 1 + Y.length) (hz : A.length + 1 + Y.length + B.length ≤ 1000000) (k : Nat) (hk : 2 * Y.length + 3 ≤ k) (hu : Up Y) :
    ∃ Z, api_Node_45.l0 k (A ++ x :: Y ++ B) a (a + 1) b = some (A ++ Z ++ B) ∧ Up Z ∧ Same Z (x :: Y) ∧ Z.length = 1 + Y.length := by
  obtain ⟨U, V, k', q1, q2, q3, q4, q5⟩ := sm0_find A B x a ha Y.length [] Y [] (a + 1) b k (Nat.le_refl _) (by simp) (by omega) (by simp; omega) (by omega) (by simpa using hu) (by simp) (by simp)
  simp only [List.nil_append, List.append_nil] at q1 q2
  have hl : Y.length = U.length + V.length := by rw [q1, List.length_append]
  rw [q2, show A ++ x :: (U ++ V) ++ B = A ++ x :: U ++ (V ++ B) by simp, sm1_move x (V ++ B) _ U A a k' ha rfl (by rw [List.length_append]; omega) (by omega)]
  rw [q1] at hu ⊢
  refine ⟨U ++ x :: V, by simp, up_mid hu (fun p hp => lt_not (q4 p hp)) q5, ?_, by simp; omega⟩
  have := same_turn [] [x] U V (fun a ha b hb => by
    rw [List.mem_singleton.1 ha]
    exact fun h => lt_ne (q4 b hb) h.symm)
  simpa using this
/-- Where one node that stands behind goes among those ahead of it. -/
theorem sm2_find (A B : List Nd) (y : Nd) (a m : Int) (ha : a = A.length) : ∀ (f : Nat) (Y1 Ym Y2 : List Nd) (i j : Int) (k : Nat), Ym.length ≤ f → i = a + Y1.length → j = i + Ym.length → m = a + Y1.length + Ym.length + Y2.length → A.length + 1 + Y1.length + Ym.length + Y2.length + B.length ≤ 1000000 → f + 1 ≤ k → Up (Y1 ++ Ym ++ Y2) → (∀ x ∈ Y1, lt y x = false) → (∀ x ∈ Y2, lt y x = true) →
    ∃ U V k', Y1 ++ Ym ++ Y2 = U ++ V ∧ api_Node_45.l2 k (A ++ (Y1 ++ Ym ++ Y2) ++ y :: B) m i j = api_Node_45.l3 k' (A ++ (U ++ V) ++ y :: B) (a + U.length) m ∧ k ≤ k' + f + 1 ∧ (∀ x ∈ U, lt y x = false) ∧ (∀ x ∈ V, lt y x = true) := by
  intro f
  induction f with
  | zero =>
    intro Y1 Ym Y2 i j k hf hi hj hm hz hk hu h1 h2
    obtain ⟨k, rfl⟩ : ∃ m, k = m + 1 := ⟨k - 1, by omega⟩
    obtain rfl : Ym = [] := List.eq_nil_of_length_eq_zero (by omega)
    simp only [List.length_nil] at hj
    refine ⟨Y1, Y2, k, by simp, ?_, by omega, h1, h2⟩
    rw [api_Node_45.l2, if_neg (by omega), hi]
    simp
  | succ f ih =>
    intro Y1 Ym Y2 i j k hf hi hj hm hz hk hu h1 h2
    obtain ⟨k, rfl⟩ : ∃ m, k = m + 1 := ⟨k - 1, by omega⟩
    by_cases e0 : Ym.length = 0
    · obtain rfl : Ym = [] := List.eq_nil_of_length_eq_zero e0
      simp only [List.length_nil] at hj
      refine ⟨Y1, Y2, k, by simp, ?_, by omega, h1, h2⟩
      rw [api_Node_45.l2, if_neg (by omega), hi]
      simp
    obtain ⟨U, v, W, rfl, hU⟩ := part_at Ym ((i + j) / 2 - i).toNat (by omega)
    simp only [List.length_append, List.length_cons] at hf hj hm hz
    have hlen : (A ++ (Y1 ++ (U ++ v :: W) ++ Y2) ++ y :: B).length = A.length + 1 + Y1.length + U.length + 1 + W.length + Y2.length + B.length := by simp; omega
    have r1 : rd_T37 (A ++ (Y1 ++ (U ++ v :: W) ++ Y2) ++ y :: B) ((i + j) / 2) = v := by
      rw [show A ++ (Y1 ++ (U ++ v :: W) ++ Y2) ++ y :: B = (A ++ (Y1 ++ U)) ++ v :: (W ++ Y2 ++ y :: B) by simp]; exact rd_mid _ _ _ _ (by simp; omega)
    have r2 : rd_T37 (A ++ (Y1 ++ (U ++ v :: W) ++ Y2) ++ y :: B) m = y := rd_mid _ _ _ _ (by simp; omega)
    obtain ⟨r, hr, hr0⟩ := ord_lt y v
    rw [api_Node_45.l2, if_pos (by omega), mid_ (by omega) (by omega) (by omega) (by omega), if_pos (by omega), if_pos (by rw [hlen]; omega), if_pos (by omega), if_pos (by rw [hlen]; omega), r1, r2, hr, some_bind]
    have hu' : Up (Y1 ++ (U ++ (v :: W ++ Y2))) := by simpa using hu
    cases e : lt y v
    · rw [if_neg (fun h => by rw [hr0.1 h] at e; cases e), show wrap64 ((i + j) / 2 + 1) = (i + j) / 2 + 1 from wrap_in (by omega) (by omega)]
      obtain ⟨P, V, k', q1, q2, q3, q4, q5⟩ := ih (Y1 ++ U ++ [v]) W Y2 ((i + j) / 2 + 1) j k (by omega) (by simp; omega) (by omega) (by simp; omega) (by simp; omega) (by omega) (by simpa using hu) (fun x hx => by
        rcases List.mem_append.1 hx with hx | hx
        · rcases List.mem_append.1 hx with hx | hx
          · exact h1 x hx
          · have : lt v x = false := up_cross (up_right hu') hx (by simp)
            exact le_trans (a := x) (b := v) (c := y) this e
        · rw [List.mem_singleton.1 hx]; exact e) h2
      refine ⟨P, V, k', by rw [← q1]; simp, ?_, by omega, q4, q5⟩
      rw [← q2]; simp
    · rw [if_pos (hr0.2 e)]
      obtain ⟨P, V, k', q1, q2, q3, q4, q5⟩ := ih Y1 U (v :: W ++ Y2) i ((i + j) / 2) k (by omega) hi (by omega) (by simp; omega) (by simp; omega) (by omega) (by simpa using hu) h1 (fun x hx => by
        rcases List.mem_append.1 hx with hx | hx
        · rcases List.mem_cons.1 hx with hx | hx
          · rw [hx]; exact e
          · have : lt x v = false := (List.pairwise_cons.1 (up_left (R := Y2) (up_right (up_right hu')))).1 x hx
            exact lt_le e this
        · exact h2 x hx)
      refine ⟨P, V, k', by rw [← q1]; simp, ?_, by omega, q4, q5⟩
      rw [← q2]; simp
/-- One node carried ahead of others. -/
theorem sm3_move (y : Nd) (A : List Nd) (i : Int) (hi : i = A.length) : ∀ (n : Nat) (V R : List Nd) (c : Int) (k : Nat), V.length = n → c = i + V.length → A.length + 1 + V.length + R.length ≤ 1000000 → n < k → api_Node_45.l3 k (A ++ V ++ y :: R) i c = some (A ++ y :: V ++ R) := by
  intro n
  induction n with
  | zero =>
    intro V R c k hn hc hz hk
    obtain ⟨k, rfl⟩ : ∃ m, k = m + 1 := ⟨k - 1, by omega⟩
    obtain rfl : V = [] := List.eq_nil_of_length_eq_zero hn
    simp only [List.length_nil] at hc
    rw [api_Node_45.l3, if_neg (by omega)]
    simp
  | succ n ih =>
    intro V R c k hn hc hz hk
    obtain ⟨k, rfl⟩ : ∃ m, k = m + 1 := ⟨k - 1, by omega⟩
    obtain ⟨P, x, rfl⟩ : ∃ P x, V = P ++ [x] := ⟨V.dropLast, V.getLast (fun e => by rw [e] at hn; simp at hn), (List.dropLast_concat_getLast _).symm⟩
    simp only [List.length_append, List.length_cons, List.length_nil] at hn hc hz
    have hlen : (A ++ (P ++ [x]) ++ y :: R).length = A.length + P.length + 1 + 1 + R.length := by simp; omega
    have r1 : rd_T37 (A ++ (P ++ [x]) ++ y :: R) c = y := rd_mid _ _ _ _ (by simp; omega)
    have r2 : rd_T37 (A ++ (P ++ [x]) ++ y :: R) (c - 1) = x := by
      rw [show A ++ (P ++ [x]) ++ y :: R = (A ++ P) ++ x :: (y :: R) by simp]; exact rd_mid _ _ _ _ (by simp; omega)
    have s1 : (A ++ (P ++ [x]) ++ y :: R).set c.toNat x = A ++ (P ++ [x]) ++ x :: R := by
      rw [show c.toNat = (A ++ (P ++ [x])).length by simp; omega, set_mid]
    have s2 : (A ++ (P ++ [x]) ++ x :: R).set (c - 1).toNat y = A ++ P ++ y :: (x :: R) := by
      rw [show A ++ (P ++ [x]) ++ x :: R = (A ++ P) ++ x :: (x :: R) by simp, show (c - 1).toNat = (A ++ P).length by simp; omega, set_mid]
    rw [api_Node_45.l3, if_pos (by omega), show wrap64 (c - 1) = c - 1 from wrap_in (by omega) (by omega), if_pos (by omega), if_pos (by rw [hlen]; omega), if_pos (by omega), if_pos (by rw [hlen]; omega), r1, r2, Nd_eta, Nd_eta, s1, s2,
      ih P (x :: R) (c - 1) k (by omega) (by omega) (by simp; omega) (by omega)]
    simp
/-- The merge of one node with those ahead of it. -/
theorem sm2_f (A X B : List Nd) (y : Nd) (a m : Int) (ha : a = A.length) (hm : m = a + X.length) (hz : A.length + 1 + X.length + B.length ≤ 1000000) (k : Nat) (hk : 2 * X.length + 3 ≤ k) (hu : Up X) :
    ∃ Z, api_Node_45.l2 k (A ++ X ++ y :: B) m a m = some (A ++ Z ++ B) ∧ Up Z ∧ Same Z (X ++ [y]) ∧ Z.length = X.length + 1 := by
  obtain ⟨U, V, k', q1, q2, q3, q4, q5⟩ := sm2_find A B y a m ha X.length [] X [] a m k (Nat.le_refl _) (by simp) hm (by simp; omega) (by simp; omega) (by omega) (by simpa using hu) (by simp) (by simp)
  simp only [List.nil_append, List.append_nil] at q1 q2
  have hl : X.length = U.length + V.length := by rw [q1, List.length_append]
  rw [q2, show A ++ (U ++ V) ++ y :: B = (A ++ U) ++ V ++ y :: B by simp, sm3_move y (A ++ U) _ (by simp; omega) V.length V B m k' rfl (by omega) (by simp; omega) (by omega)]
  rw [q1] at hu ⊢
  refine ⟨U ++ y :: V, by simp, up_mid hu q4 (fun r hr => lt_not (q5 r hr)), ?_, by simp; omega⟩
  have := same_turn U V [y] [] (fun a ha b hb => by
    rw [List.mem_singleton.1 hb]
    exact fun h => lt_ne (q5 a ha) h.symm)
  simpa using this
/-- Where two blocks that are in order part, as the search tells it. -/
theorem search_ (x : List Nd) (a m b mid n p lo r0 : Int) (z : Bool) (hx : (x.length : Int) ≤ 1000000) (ha : 0 ≤ a) (hlo : a ≤ lo) (hr0 : r0 ≤ m) (hm : m ≤ b) (hb : b ≤ x.length) (hn : n = mid + m) (hp : p = n - 1) (hmid : 0 ≤ mid ∧ mid ≤ b) (hpc : ∀ c, lo ≤ c → c < r0 → m ≤ p - c ∧ p - c < b)
    (hX : ∀ i j, a ≤ i → i ≤ j → j < m → lt (rd_T37 x j) (rd_T37 x i) = false) (hY : ∀ i j, m ≤ i → i ≤ j → j < b → lt (rd_T37 x j) (rd_T37 x i) = false) :
    ∀ (f : Nat) (s r : Int) (k : Nat), r - s ≤ f → f + 1 ≤ k → lo ≤ s → s ≤ r → r ≤ r0 → (∀ c, lo ≤ c → c < s → lt (rd_T37 x (p - c)) (rd_T37 x c) = false) → (∀ c, r ≤ c → c < r0 → lt (rd_T37 x (p - c)) (rd_T37 x c) = true) →
    ∃ c k', api_Node_45.l4 k x a m b z mid n s r p = api_Node_45.j6 k' x a m b z mid c (n - c) (decide (c < m ∧ m < n - c)) ∧ k ≤ k' + f + 1 ∧ lo ≤ c ∧ c ≤ r0 ∧ (∀ c', lo ≤ c' → c' < c → lt (rd_T37 x (p - c')) (rd_T37 x c') = false) ∧ (∀ c', c ≤ c' → c' < r0 → lt (rd_T37 x (p - c')) (rd_T37 x c') = true) := by
  have hend : ∀ (s : Int) (k : Nat) (f : Nat), f + 1 ≤ k → lo ≤ s → s ≤ r0 → (∀ c, lo ≤ c → c < s → lt (rd_T37 x (p - c)) (rd_T37 x c) = false) → (∀ c, s ≤ c → c < r0 → lt (rd_T37 x (p - c)) (rd_T37 x c) = true) →
    ∃ c k', api_Node_45.l4 k x a m b z mid n s s p = api_Node_45.j6 k' x a m b z mid c (n - c) (decide (c < m ∧ m < n - c)) ∧ k ≤ k' + f + 1 ∧ lo ≤ c ∧ c ≤ r0 ∧ (∀ c', lo ≤ c' → c' < c → lt (rd_T37 x (p - c')) (rd_T37 x c') = false) ∧ (∀ c', c ≤ c' → c' < r0 → lt (rd_T37 x (p - c')) (rd_T37 x c') = true) := by
    intro s k f hk h1 h2 h3 h4
    obtain ⟨k, rfl⟩ : ∃ m, k = m + 1 := ⟨k - 1, by omega⟩
    refine ⟨s, k, ?_, by omega, h1, h2, h3, h4⟩
    rw [api_Node_45.l4, if_neg (by omega), show wrap64 (n - s) = n - s from wrap_in (by omega) (by omega)]
    by_cases e : s < m
    · rw [if_pos e]
      by_cases e2 : m < n - s
      · rw [decide_eq_true e2, decide_eq_true ⟨e, e2⟩]
      · rw [decide_eq_false e2, decide_eq_false (fun h => e2 h.2)]
    · rw [if_neg e, decide_eq_false (fun h => e h.1)]
  intro f
  induction f with
  | zero =>
    intro s r k hf hk h1 h2 h3 h4 h5
    obtain rfl : s = r := by omega
    exact hend s k 0 hk h1 h3 h4 h5
  | succ f ih =>
    intro s r k hf hk h1 h2 h3 h4 h5
    by_cases e : s < r
    · obtain ⟨k, rfl⟩ : ∃ m, k = m + 1 := ⟨k - 1, by omega⟩
      have hc := hpc ((s + r) / 2) (by omega) (by omega)
      obtain ⟨q, hq, hq0⟩ := ord_lt (rd_T37 x (p - (s + r) / 2)) (rd_T37 x ((s + r) / 2))
      rw [api_Node_45.l4, if_pos e, mid_ (by omega) (by omega) (by omega) (by omega), show wrap64 (p - (s + r) / 2) = p - (s + r) / 2 from wrap_in (by omega) (by omega), if_pos (by omega), if_pos (by omega), if_pos (by omega), if_pos (by omega), hq, some_bind]
      cases el : lt (rd_T37 x (p - (s + r) / 2)) (rd_T37 x ((s + r) / 2))
      · rw [if_neg (fun h => by rw [hq0.1 h] at el; cases el), show wrap64 ((s + r) / 2 + 1) = (s + r) / 2 + 1 from wrap_in (by omega) (by omega)]
        obtain ⟨c, k', q1, q2, q3⟩ := ih ((s + r) / 2 + 1) r k (by omega) (by omega) (by omega) (by omega) h3 (fun c c1 c2 => by
          by_cases hcs : c < s
          · exact h4 c c1 hcs
          · have u1 := hX c ((s + r) / 2) (by omega) (by omega) (by omega)
            have u2 := hY (p - (s + r) / 2) (p - c) (by omega) (by omega) (hpc c c1 (by omega)).2
            exact le_trans u1 (le_trans el u2)) h5
        exact ⟨c, k', q1, by omega, q3⟩
      · rw [if_pos (hq0.2 el)]
        obtain ⟨c, k', q1, q2, q3⟩ := ih s ((s + r) / 2) k (by omega) (by omega) h1 (by omega) (by omega) h4 (fun c c1 c2 => by
          by_cases hcs : r ≤ c
          · exact h5 c hcs c2
          · have u1 := hX ((s + r) / 2) c (by omega) (by omega) (by omega)
            have u2 := hY (p - c) (p - (s + r) / 2) (hpc c (by omega) c2).1 (by omega) (by omega)
            exact le_lt u2 (lt_le el u1))
        exact ⟨c, k', q1, by omega, q3⟩
    · obtain rfl : s = r := by omega
      obtain ⟨c, k', q1, q2, q3⟩ := hend s k f (by omega) h1 h3 h4 h5
      exact ⟨c, k', q1, by omega, q3⟩
theorem rd_at (P Q R : List Nd) (i : Int) (j : Nat) (h : j < Q.length) (hi : i = P.length + j) : rd_T37 (P ++ Q ++ R) i = Q[j] := by
  obtain ⟨U, v, W, e, hU⟩ := part_at Q j h
  have : Q[j] = v := by subst hU; simp [e]
  rw [this, e, show P ++ (U ++ v :: W) ++ R = (P ++ U) ++ v :: (W ++ R) by simp]
  exact rd_mid _ _ _ _ (by rw [List.length_append]; omega)
theorem up_at {Q : List Nd} (h : Up Q) {i j : Nat} (hi : i ≤ j) (hj : j < Q.length) : lt Q[j] Q[i] = false := by
  by_cases e : i = j
  · subst e; exact lt_irr _
  · exact (List.pairwise_iff_getElem.1 h) i j (by omega) hj (by omega)
theorem up_idx (P Q R : List Nd) (h : Up Q) (i j : Int) (h1 : (P.length : Int) ≤ i) (h2 : i ≤ j) (h3 : j < P.length + Q.length) : lt (rd_T37 (P ++ Q ++ R) j) (rd_T37 (P ++ Q ++ R) i) = false := by
  rw [rd_at P Q R i (i - P.length).toNat (by omega) (by omega), rd_at P Q R j (j - P.length).toNat (by omega) (by omega)]
  exact up_at h (by omega) (by omega)
/-- Two blocks that are in order, merged. -/
theorem merge_f : ∀ (f : Nat) (X Y A B : List Nd) (a m b : Int) (z : Bool) (k : Nat), X.length + Y.length ≤ f → X ≠ [] → Y ≠ [] → a = A.length → m = a + X.length → b = m + Y.length → A.length + X.length + Y.length + B.length ≤ 400000 → 40 * f + 40 ≤ k → Up X → Up Y →
    ∃ Z, api_Node_45.f k (A ++ X ++ Y ++ B) a m b z = some (A ++ Z ++ B) ∧ Up Z ∧ Same Z (X ++ Y) ∧ Z.length = X.length + Y.length := by
  intro f
  induction f using Nat.strongRecOn with
  | _ f ih =>
    intro X Y A B a m b z k hf hXn hYn ha hm hb hz hk hX hY
    have lX : X.length ≠ 0 := fun e => hXn (List.eq_nil_of_length_eq_zero e)
    have lY : Y.length ≠ 0 := fun e => hYn (List.eq_nil_of_length_eq_zero e)
    obtain ⟨k, rfl⟩ : ∃ m, k = m + 1 := ⟨k - 1, by omega⟩
    rw [api_Node_45.f, show wrap64 (m - a) = m - a from wrap_in (by omega) (by omega), show wrap64 (b - m) = b - m from wrap_in (by omega) (by omega)]
    by_cases e1 : m - a = 1
    · rw [if_pos e1]
      obtain ⟨x, rfl⟩ : ∃ x, X = [x] := List.length_eq_one_iff.1 (by omega)
      simp only [List.length_cons, List.length_nil] at hm hf hz
      obtain ⟨Z, h1, h2, h3, h4⟩ := sm0_f A Y B x a b ha (by omega) (by omega) k (by omega) hY
      refine ⟨Z, ?_, h2, by simpa using h3, by rw [h4]; rfl⟩
      rw [show m = a + 1 by omega, ← h1]
      simp
    rw [if_neg e1]
    by_cases e2 : b - m = 1
    · rw [if_pos e2]
      obtain ⟨y, rfl⟩ : ∃ y, Y = [y] := List.length_eq_one_iff.1 (by omega)
      simp only [List.length_cons, List.length_nil] at hb hf hz
      obtain ⟨Z, h1, h2, h3, h4⟩ := sm2_f A X B y a m ha hm (by omega) k (by omega) hX
      refine ⟨Z, ?_, h2, h3, h4⟩
      rw [← h1]
      simp
    rw [if_neg e2, mid_ (by omega) (by omega) (by omega) (by omega), show wrap64 ((a + b) / 2 + m) = (a + b) / 2 + m from wrap_in (by omega) (by omega), show wrap64 ((a + b) / 2 + m - b) = (a + b) / 2 + m - b from wrap_in (by omega) (by omega)]
    generalize hmid : (a + b) / 2 = mid
    obtain ⟨k, rfl⟩ : ∃ m, k = m + 1 := ⟨k - 1, by omega⟩
    have hlen : (A ++ X ++ Y ++ B).length = A.length + X.length + Y.length + B.length := by simp; omega
    have key : ∀ lo r0 : Int, a ≤ lo → lo ≤ r0 → r0 ≤ m → r0 ≤ mid → mid + m - b ≤ lo → (r0 = mid ∨ r0 = m) → (lo = a ∨ lo = mid + m - b) →
        ∃ Z, api_Node_45.j4 (k + 1) (A ++ X ++ Y ++ B) a m b z mid (mid + m) lo r0 = some (A ++ Z ++ B) ∧ Up Z ∧ Same Z (X ++ Y) ∧ Z.length = X.length + Y.length := by
      intro lo r0 g1 g2 g3 g4 g5 g6 g7
      rw [api_Node_45.j4, show wrap64 (mid + m - 1) = mid + m - 1 from wrap_in (by omega) (by omega)]
      obtain ⟨c, k', q1, q2, q3, q4, q5, q6⟩ := search_ (A ++ X ++ Y ++ B) a m b mid (mid + m) (mid + m - 1) lo r0 z (by rw [hlen]; omega) (by omega) g1 g3 (by omega) (by rw [hlen]; omega) rfl rfl (by omega) (fun c c1 c2 => by omega)
        (fun i j i1 i2 i3 => by rw [show A ++ X ++ Y ++ B = A ++ X ++ (Y ++ B) by simp]; exact up_idx A X (Y ++ B) hX i j (by omega) i2 (by omega))
        (fun i j i1 i2 i3 => up_idx (A ++ X) Y B hY i j (by rw [List.length_append]; omega) i2 (by rw [List.length_append]; omega)) f lo r0 k (by omega) (by omega) (by omega) g2 (by omega) (fun c c1 c2 => by omega) (fun c c1 c2 => by omega)
      rw [q1]
      obtain ⟨k', rfl⟩ : ∃ m, k' = m + 3 := ⟨k' - 3, by omega⟩
      obtain ⟨X1, X2, hXe, hX1⟩ : ∃ X1 X2, X = X1 ++ X2 ∧ (X1.length : Int) = c - a := ⟨X.take (c - a).toNat, X.drop (c - a).toNat, (List.take_append_drop ..).symm, by rw [List.length_take]; omega⟩
      obtain ⟨Y1, Y2, hYe, hY1⟩ : ∃ Y1 Y2, Y = Y1 ++ Y2 ∧ (Y1.length : Int) = mid - c := ⟨Y.take (mid - c).toNat, Y.drop (mid - c).toNat, (List.take_append_drop ..).symm, by rw [List.length_take]; omega⟩
      have lX2 : (X2.length : Int) = m - c := by have := congrArg List.length hXe; rw [List.length_append] at this; omega
      have lY2 : (Y2.length : Int) = b - (mid + m - c) := by have := congrArg List.length hYe; rw [List.length_append] at this; omega
      have hX' := hX
      have hY' := hY
      rw [hXe] at hX'
      rw [hYe] at hY'
      have cross : ∀ x ∈ X2, ∀ y ∈ Y1, lt y x = true := by
        intro x hx y hy
        have n2 := List.length_pos_of_mem hx
        have n1 := List.length_pos_of_mem hy
        have h6 := q6 c (by omega) (by omega)
        rw [show A ++ X ++ Y ++ B = (A ++ X) ++ Y1 ++ (Y2 ++ B) by rw [hYe]; simp, rd_at (A ++ X) Y1 (Y2 ++ B) _ (Y1.length - 1) (by omega) (by rw [List.length_append]; omega),
          show (A ++ X) ++ Y1 ++ (Y2 ++ B) = (A ++ X1) ++ X2 ++ (Y1 ++ Y2 ++ B) by rw [hXe]; simp, rd_at (A ++ X1) X2 (Y1 ++ Y2 ++ B) c 0 (by omega) (by rw [List.length_append]; omega)] at h6
        obtain ⟨i, hi, rfl⟩ := List.mem_iff_getElem.1 hx
        obtain ⟨j, hj, rfl⟩ := List.mem_iff_getElem.1 hy
        exact le_lt (up_at (up_left hY') (i := j) (j := Y1.length - 1) (by omega) (by omega)) (lt_le h6 (up_at (up_right hX') (i := 0) (j := i) (by omega) hi))
      have low : ∀ x ∈ X1, ∀ y ∈ Y2, lt y x = false := by
        intro x hx y hy
        have n2 := List.length_pos_of_mem hx
        have n1 := List.length_pos_of_mem hy
        have h5 := q5 (c - 1) (by omega) (by omega)
        rw [show A ++ X ++ Y ++ B = (A ++ X ++ Y1) ++ Y2 ++ B by rw [hYe]; simp, rd_at (A ++ X ++ Y1) Y2 B _ 0 (by omega) (by rw [List.length_append, List.length_append]; omega),
          show (A ++ X ++ Y1) ++ Y2 ++ B = A ++ X1 ++ (X2 ++ Y1 ++ Y2 ++ B) by rw [hXe]; simp, rd_at A X1 (X2 ++ Y1 ++ Y2 ++ B) (c - 1) (X1.length - 1) (by omega) (by omega)] at h5
        obtain ⟨i, hi, rfl⟩ := List.mem_iff_getElem.1 hx
        obtain ⟨j, hj, rfl⟩ := List.mem_iff_getElem.1 hy
        exact le_trans (up_at (up_left hX') (i := i) (j := X1.length - 1) (by omega) (by omega)) (le_trans h5 (up_at (up_right hY') (i := 0) (j := j) (by omega) hj))
      -- the exchange, where there is one
      have turn : api_Node_45.j6 (k' + 3) (A ++ X ++ Y ++ B) a m b z mid c (mid + m - c) (decide (c < m ∧ m < mid + m - c)) = api_Node_45.j7 (k' + 2) (A ++ X1 ++ Y1 ++ X2 ++ Y2 ++ B) a b z mid c (mid + m - c) := by
        rw [api_Node_45.j6]
        by_cases e : c < m ∧ m < mid + m - c
        · rw [decide_eq_true e, if_pos rfl, show A ++ X ++ Y ++ B = (A ++ X1) ++ X2 ++ Y1 ++ (Y2 ++ B) by rw [hXe, hYe]; simp, rot_f (A ++ X1) X2 Y1 (Y2 ++ B) (fun e' => by rw [e'] at lX2; simp at lX2; omega) (fun e' => by rw [e'] at hY1; simp at hY1; omega) c m (mid + m - c) z (k' + 2) (by rw [List.length_append]; omega) (by rw [List.length_append]; omega) (by rw [List.length_append]; omega) (by rw [List.length_append, List.length_append]; omega) (by omega), some_bind]
          simp
        · rw [decide_eq_false e, if_neg (by simp)]
          have : X2 ++ Y1 = Y1 ++ X2 := by
            by_cases e' : X2.length = 0
            · rw [List.eq_nil_of_length_eq_zero e']; simp
            · have : Y1 = [] := List.eq_nil_of_length_eq_zero (by omega)
              rw [this]; simp
          rw [show A ++ X ++ Y ++ B = A ++ X1 ++ (X2 ++ Y1) ++ Y2 ++ B by rw [hXe, hYe]; simp, this]
          simp
      rw [turn]
      have same : Same (X1 ++ Y1 ++ X2 ++ Y2) (X ++ Y) := by
        rw [hXe, hYe]
        have := same_turn X1 X2 Y1 Y2 (fun x hx y hy => fun h => lt_ne (cross x hx y hy) h.symm)
        simpa using this
      -- the left half, and the right one
      have left : ∃ ZL, Up ZL ∧ Same ZL (X1 ++ Y1) ∧ ZL.length = X1.length + Y1.length ∧ ((a < c ∧ c < mid → api_Node_45.f k' (A ++ X1 ++ Y1 ++ X2 ++ Y2 ++ B) a c mid z = some (A ++ ZL ++ X2 ++ Y2 ++ B)) ∧ (¬ (a < c ∧ c < mid) → ZL = X1 ++ Y1)) := by
        by_cases e : a < c ∧ c < mid
        · obtain ⟨ZL, z1, z2, z3, z4⟩ := ih (X1.length + Y1.length) (by omega) X1 Y1 A (X2 ++ Y2 ++ B) a c mid z k' (Nat.le_refl _) (fun e' => by rw [e'] at hX1; simp at hX1; omega) (fun e' => by rw [e'] at hY1; simp at hY1; omega) ha (by omega) (by omega) (by rw [List.length_append, List.length_append]; omega) (by omega) (up_left hX') (up_left hY')
          refine ⟨ZL, z2, z3, z4, fun _ => ?_, fun h => absurd e h⟩
          rw [show A ++ X1 ++ Y1 ++ X2 ++ Y2 ++ B = A ++ X1 ++ Y1 ++ (X2 ++ Y2 ++ B) by simp, z1]
          simp
        · refine ⟨X1 ++ Y1, ?_, Same.refl _, by simp, fun h => absurd h e, fun _ => rfl⟩
          by_cases e' : X1.length = 0
          · rw [List.eq_nil_of_length_eq_zero e']; exact up_left hY'
          · have : Y1 = [] := List.eq_nil_of_length_eq_zero (by omega)
            rw [this, List.append_nil]; exact up_left hX'
      obtain ⟨ZL, l1, l2, l3, l4, l5⟩ := left
      have right : ∃ ZR, Up ZR ∧ Same ZR (X2 ++ Y2) ∧ ZR.length = X2.length + Y2.length ∧ ((mid < mid + m - c ∧ mid + m - c < b → api_Node_45.f k' (A ++ ZL ++ X2 ++ Y2 ++ B) mid (mid + m - c) b z = some (A ++ ZL ++ ZR ++ B)) ∧ (¬ (mid < mid + m - c ∧ mid + m - c < b) → ZR = X2 ++ Y2)) := by
        by_cases e : mid < mid + m - c ∧ mid + m - c < b
        · obtain ⟨ZR, z1, z2, z3, z4⟩ := ih (X2.length + Y2.length) (by omega) X2 Y2 (A ++ ZL) B mid (mid + m - c) b z k' (Nat.le_refl _) (fun e' => by rw [e'] at lX2; simp at lX2; omega) (fun e' => by rw [e'] at lY2; simp at lY2; omega) (by rw [List.length_append]; omega) (by omega) (by omega) (by rw [List.length_append]; omega) (by omega) (up_right hX') (up_right hY')
          exact ⟨ZR, z2, z3, z4, fun _ => z1, fun h => absurd e h⟩
        · refine ⟨X2 ++ Y2, ?_, Same.refl _, by simp, fun h => absurd h e, fun _ => rfl⟩
          by_cases e' : X2.length = 0
          · rw [List.eq_nil_of_length_eq_zero e']; exact up_right hY'
          · have : Y2 = [] := List.eq_nil_of_length_eq_zero (by omega)
            rw [this, List.append_nil]; exact up_right hX'
      obtain ⟨ZR, r1, r2, r3, r4, r5⟩ := right
      have hup : Up (ZL ++ ZR) := up_join l1 r1 fun p hp r hr => by
        rcases List.mem_append.1 (l2.mem hp) with hp | hp <;> rcases List.mem_append.1 (r2.mem hr) with hr | hr
        · exact up_cross hX' hp hr
        · exact low p hp r hr
        · exact lt_not (cross r hr p hp)
        · exact up_cross hY' hp hr
      have hsame : Same (ZL ++ ZR) (X ++ Y) := by
        refine Same.trans (fun p => ?_) same
        simp only [List.filter_append, l2 p, r2 p, List.append_assoc]
      refine ⟨ZL ++ ZR, ?_, hup, hsame, by rw [List.length_append, l3, r3]; omega⟩
      have fin : (if mid < mid + m - c then (if mid + m - c < b then ((api_Node_45.f k' (A ++ ZL ++ X2 ++ Y2 ++ B) mid (mid + m - c) b z).bind fun t => some t) else some (A ++ ZL ++ X2 ++ Y2 ++ B)) else some (A ++ ZL ++ X2 ++ Y2 ++ B)) = some (A ++ (ZL ++ ZR) ++ B) := by
        by_cases e : mid < mid + m - c ∧ mid + m - c < b
        · rw [if_pos e.1, if_pos e.2, r4 e, some_bind]; simp
        · have h := r5 e
          subst h
          by_cases e' : mid < mid + m - c
          · rw [if_pos e', if_neg (fun h => e ⟨e', h⟩)]; simp
          · rw [if_neg e']; simp
      rw [api_Node_45.j7]
      by_cases e : a < c ∧ c < mid
      · rw [if_pos e.1, decide_eq_true e.2, api_Node_45.j8, if_pos rfl, l4 e, some_bind]
        exact fin
      · have h := l5 e
        rw [h] at fin
        have j8f : api_Node_45.j8 (k' + 1) (A ++ X1 ++ Y1 ++ X2 ++ Y2 ++ B) a b z mid c (mid + m - c) false = some (A ++ (ZL ++ ZR) ++ B) := by
          rw [api_Node_45.j8, if_neg (by simp), h, ← fin]
          simp only [List.append_assoc]
        by_cases e' : a < c
        · rw [if_pos e', decide_eq_false (fun h => e ⟨e', h⟩)]; exact j8f
        · rw [if_neg e']; exact j8f
    by_cases e3 : m > mid
    · rw [if_pos e3]
      exact key (mid + m - b) mid (by omega) (by omega) (by omega) (by omega) (by omega) (.inl rfl) (.inr rfl)
    · rw [if_neg e3]
      exact key a m (by omega) (by omega) (by omega) (by omega) (by omega) (.inr rfl) (.inl rfl)
/-- Blocks that are in order, each of one size but the last. -/
inductive Bk (s : Nat) : List Nd → Prop
  | last (X : List Nd) : X.length ≤ s → Up X → Bk s X
  | more (X R : List Nd) : X.length = s → Up X → Bk s R → Bk s (X ++ R)
theorem st_l0 (N : Nat) (hN : N ≤ 400000) (z : Bool) (K0 : Nat) : ∀ (f : Nat) (D R : List Nd) (a : Int) (k : Nat), R.length ≤ 20 * f → a = D.length → D.length + R.length = N → K0 + 1000 + f ≤ k →
    ∃ R', Bk 20 R' ∧ Same R' R ∧ R'.length = R.length ∧ ∃ k', K0 ≤ k' ∧ api_Node_36.l0 k (D ++ R) (N : Int) z 20 a (a + 20) = api_Node_36.l1 k' (D ++ R') (N : Int) z 20 := by
  intro f
  induction f with
  | zero =>
    intro D R a k hf ha hD hk
    obtain ⟨k, rfl⟩ : ∃ m, k = m + 1 := ⟨k - 1, by omega⟩
    obtain rfl : R = [] := List.eq_nil_of_length_eq_zero (by omega)
    obtain ⟨Z, h1, h2, h3, h4⟩ := insert_f D [] [] a N z k ha (by simp at hD ⊢; omega) (by simp at hD ⊢; omega) (by simp; omega)
    refine ⟨[], .last _ (by simp) List.Pairwise.nil, Same.refl _, rfl, k, by omega, ?_⟩
    have hZ : Z = [] := List.eq_nil_of_length_eq_zero (by simpa using h4)
    subst hZ
    simp only [List.append_nil, List.length_nil] at h1 hD ⊢
    rw [api_Node_36.l0, if_neg (by omega), h1, some_bind]
  | succ f ih =>
    intro D R a k hf ha hD hk
    obtain ⟨k, rfl⟩ : ∃ m, k = m + 1 := ⟨k - 1, by omega⟩
    rw [api_Node_36.l0]
    by_cases h : a + 20 ≤ (N : Int)
    · obtain ⟨X, T, rfl, hX⟩ : ∃ X T, R = X ++ T ∧ X.length = 20 := ⟨R.take 20, R.drop 20, (List.take_append_drop ..).symm, by rw [List.length_take]; omega⟩
      rw [List.length_append] at hf hD
      obtain ⟨Z, h1, h2, h3, h4⟩ := insert_f D X T a (a + 20) z k ha (by omega) (by omega) (by rw [hX]; omega)
      obtain ⟨T', t1, t2, t3, k', t4, t5⟩ := ih (D ++ Z) T (a + 20) k (by omega) (by rw [List.length_append]; omega) (by rw [List.length_append]; omega) (by omega)
      refine ⟨Z ++ T', .more Z T' (by omega) h2 t1, fun p => by simp only [List.filter_append, h3 p, t2 p], by rw [List.length_append, List.length_append, h4, t3], k', t4, ?_⟩
      rw [if_pos h, ← List.append_assoc, h1, some_bind, show wrap64 (a + 20 + 20) = a + 20 + 20 from wrap_in (by omega) (by omega), t5, List.append_assoc]
    · obtain ⟨Z, h1, h2, h3, h4⟩ := insert_f D R [] a N z k ha (by omega) (by simp; omega) (by
        have : R.length ≤ 19 := by omega
        exact Nat.le_trans (Nat.mul_le_mul (show R.length + 1 ≤ 20 by omega) (show R.length + 3 ≤ 22 by omega)) (by omega))
      rw [List.append_nil] at h1
      refine ⟨Z, .last _ (by omega) h2, h3, h4, k, by omega, ?_⟩
      rw [if_neg h, h1, some_bind, List.append_nil]
theorem Bk.inv {s : Nat} {R : List Nd} (h : Bk s R) (hR : s < R.length) : ∃ X T, R = X ++ T ∧ X.length = s ∧ Up X ∧ Bk s T := by
  cases h with
  | last X h1 h2 => omega
  | more X T h1 h2 h3 => exact ⟨X, T, rfl, h1, h2, h3⟩
theorem Bk.small {s : Nat} {R : List Nd} (h : Bk s R) (hR : R.length ≤ s) (hs : 0 < s) : Up R := by
  induction h with
  | last X h1 h2 => exact h2
  | more X T h1 h2 h3 ih =>
    rw [List.length_append] at hR
    have : T = [] := List.eq_nil_of_length_eq_zero (by omega)
    rw [this, List.append_nil]; exact h2
theorem st_l2 (N s : Nat) (hN : N ≤ 400000) (hs : 0 < s) (hsN : s ≤ 400000) (z : Bool) (K0 : Nat) : ∀ (f : Nat) (D R : List Nd) (a : Int) (k : Nat), R.length ≤ f → a = D.length → D.length + R.length = N → K0 + 40 * N + 100 + f ≤ k → Bk s R →
    ∃ R', Bk (2 * s) R' ∧ Same R' R ∧ R'.length = R.length ∧ ∃ k', K0 ≤ k' ∧ api_Node_36.l2 k (D ++ R) (N : Int) z (s : Int) a (a + 2 * s) = api_Node_36.l1 k' (D ++ R') (N : Int) z (wrap64 ((s : Int) * 2)) := by
  intro f
  induction f using Nat.strongRecOn with
  | _ f ih =>
    intro D R a k hf ha hD hk hB
    obtain ⟨k, rfl⟩ : ∃ m, k = m + 1 := ⟨k - 1, by omega⟩
    rw [api_Node_36.l2, show wrap64 (a + s) = a + s from wrap_in (by omega) (by omega)]
    by_cases h : a + 2 * (s : Int) ≤ (N : Int)
    · obtain ⟨X, T, rfl, hX, uX, bT⟩ := hB.inv (by omega)
      rw [List.length_append] at hf hD
      obtain ⟨Y, T2, rfl, hY, uY, bT2⟩ : ∃ Y T2, T = Y ++ T2 ∧ Y.length = s ∧ Up Y ∧ Bk s T2 := by
        by_cases e : s < T.length
        · exact bT.inv e
        · exact ⟨T, [], by simp, by omega, bT.small (by omega) hs, .last _ (by simp) List.Pairwise.nil⟩
      rw [List.length_append] at hf hD
      obtain ⟨Z, h1, h2, h3, h4⟩ := merge_f (2 * s) X Y D T2 a (a + s) (a + 2 * s) z k (by omega) (fun e => by rw [e] at hX; simp at hX; omega) (fun e => by rw [e] at hY; simp at hY; omega) ha (by omega) (by omega) (by omega) (by omega) uX uY
      obtain ⟨T', t1, t2, t3, k', t4, t5⟩ := ih (T2.length) (by omega) (D ++ Z) T2 (a + 2 * s) k (Nat.le_refl _) (by rw [List.length_append]; omega) (by rw [List.length_append]; omega) (by omega) bT2
      refine ⟨Z ++ T', .more Z T' (by omega) h2 t1, fun p => by simp only [List.filter_append, h3 p, t2 p, List.append_assoc], by simp only [List.length_append]; omega, k', t4, ?_⟩
      rw [if_pos h, show D ++ (X ++ (Y ++ T2)) = D ++ X ++ Y ++ T2 by simp, h1, some_bind, show wrap64 (2 * (s : Int)) = 2 * s from wrap_in (by omega) (by omega), show wrap64 (a + 2 * (s : Int) + 2 * s) = a + 2 * s + 2 * s from wrap_in (by omega) (by omega), t5, List.append_assoc]
    · rw [if_neg h]
      by_cases h' : a + (s : Int) < (N : Int)
      · obtain ⟨X, T, rfl, hX, uX, bT⟩ := hB.inv (by omega)
        rw [List.length_append] at hf hD
        obtain ⟨Z, h1, h2, h3, h4⟩ := merge_f N X T D [] a (a + s) N z k (by omega) (fun e => by rw [e] at hX; simp at hX; omega) (fun e => by rw [e] at hD; simp at hD; omega) ha (by omega) (by omega) (by simp; omega) (by omega) uX (bT.small (by omega) hs)
        rw [List.append_nil] at h1
        refine ⟨Z, .last _ (by omega) h2, h3, by rw [h4, List.length_append], k, by omega, ?_⟩
        rw [if_pos h', ← List.append_assoc, h1, some_bind, List.append_nil]
      · refine ⟨R, .last _ (by omega) (hB.small (by omega) hs), Same.refl _, rfl, k, by omega, ?_⟩
        rw [if_neg h']
theorem st_l1 (N : Nat) (hN : N ≤ 400000) (z : Bool) : ∀ (f s : Nat) (R : List Nd) (k : Nat), 0 < s → s ≤ 400000 → N ≤ s * 2 ^ f → R.length = N → (f + 1) * (42 * N + 200) ≤ k → Bk s R →
    ∃ Z, api_Node_36.l1 k R (N : Int) z (s : Int) = some Z ∧ Up Z ∧ Same Z R ∧ Z.length = N := by
  intro f
  induction f with
  | zero =>
    intro s R k hs hs4 hf hR hk hB
    obtain ⟨k, rfl⟩ : ∃ m, k = m + 1 := ⟨k - 1, by omega⟩
    refine ⟨R, ?_, hB.small (by omega) hs, Same.refl _, hR⟩
    rw [api_Node_36.l1, if_neg (by omega)]
  | succ f ih =>
    intro s R k hs hs4 hf hR hk hB
    have hk2 : (f + 1 + 1) * (42 * N + 200) = (f + 1) * (42 * N + 200) + (42 * N + 200) := by rw [Nat.add_mul, Nat.one_mul]
    have hp : s * 2 ^ (f + 1) = 2 * s * 2 ^ f := by rw [Nat.pow_succ, Nat.mul_comm (2 ^ f) 2, ← Nat.mul_assoc, Nat.mul_comm s 2]
    obtain ⟨k, rfl⟩ : ∃ m, k = m + 1 := ⟨k - 1, by omega⟩
    rw [api_Node_36.l1]
    by_cases h : (s : Int) < (N : Int)
    · obtain ⟨R', r1, r2, r3, k', r4, r5⟩ := st_l2 N s hN hs hs4 z ((f + 1) * (42 * N + 200)) N [] R 0 k (by omega) rfl (by simpa using hR) (by omega) hB
      simp only [List.nil_append] at r5
      rw [if_pos h, show wrap64 (2 * (s : Int)) = 0 + 2 * s by rw [wrap_in (by omega) (by omega)]; omega, r5, show wrap64 ((s : Int) * 2) = ((2 * s : Nat) : Int) by rw [wrap_in (by omega) (by omega)]; omega]
      by_cases h4 : 2 * s ≤ 400000
      · obtain ⟨Z, z1, z2, z3, z4⟩ := ih (2 * s) R' k' (by omega) h4 (by omega) (by omega) r4 r1
        exact ⟨Z, z1, z2, z3.trans r2, z4⟩
      · have e0 : k' ≠ 0 := by
          intro e
          rw [e] at r4
          have : 0 < (f + 1) * (42 * N + 200) := Nat.mul_pos (by omega) (by omega)
          omega
        obtain ⟨k', rfl⟩ : ∃ m, k' = m + 1 := ⟨k' - 1, by omega⟩
        refine ⟨R', ?_, r1.small (by omega) (by omega), r2, by omega⟩
        rw [api_Node_36.l1, if_neg (by omega)]
    · refine ⟨R, ?_, hB.small (by omega) hs, Same.refl _, hR⟩
      rw [if_neg h]
/-- tree.Sort: in order, and at each path the same nodes, in the same order. -/
theorem sort_f (t : List Nd) (hl : t.length ≤ 400000) (K : Nat) (hK : 1000000000 ≤ K) : ∃ Z, tree_Sort.f K t = some Z ∧ Up Z ∧ Same Z t ∧ Z.length = t.length := by
  unfold tree_Sort.f api_Node_27.f api_Node_28.f api_Node_36.f
  obtain ⟨R', r1, r2, r3, k', r4, r5⟩ := st_l0 t.length hl true 900000000 t.length [] t 0 K (by omega) rfl (by simp) (by omega)
  obtain ⟨Z, z1, z2, z3, z4⟩ := st_l1 t.length hl true 15 20 R' k' (by omega) (by omega) (by omega) r3 (by omega) r1
  refine ⟨Z, ?_, z2, z3.trans r2, z4⟩
  simp only [List.nil_append] at r5
  rw [some_bind, if_pos (by simp only [List.length_nil]; omega), some_bind, List.nil_append]
  rw [show ((0 : Int) + 20) = 20 from rfl] at r5
  rw [r5]
  rw [show ((20 : Nat) : Int) = 20 from rfl] at z1
  rw [z1]
  rfl
end Go.Proofs.YtiamdmlbhmgnjaaDoor.SortAll
/- What it is to put trees over one another, with no program in sight. -/
namespace Go.Proofs.YtiamdmlbhmgnjaaDoor.UnionPut
open Go.RowKit Go.Proofs.YtiamdmlbhmgnjaaDoorX Go.Proofs.YtiamdmlbhmgnjaaDoorW.PrintWords Go.Proofs.YtiamdmlbhmgnjaaDoorW.PrintLast Go.Proofs.YtiamdmlbhmgnjaaDoorW.PrintMore Go.Proofs.YtiamdmlbhmgnjaaDoor.P Go.Proofs.YtiamdmlbhmgnjaaDoor.Pa Go.Proofs.YtiamdmlbhmgnjaaDoor.PaTh Go.Proofs.YtiamdmlbhmgnjaaDoor.TreeTh Go.Proofs.YtiamdmlbhmgnjaaDoor.TreeUp Go.Proofs.YtiamdmlbhmgnjaaDoor.PartsTh Go.Proofs.YtiamdmlbhmgnjaaDoor.TreeChar
set_option linter.unusedVariables false
set_option linter.unusedSimpArgs false
/-- The first node at a path. -/
def lk (s : List Nd) (p : List UInt8) : Option Nd := s.find? (fun n => decide (L n.f0 = p))
theorem lk_some {s : List Nd} {p : List UInt8} {x : Nd} (h : lk s p = some x) : x ∈ s ∧ L x.f0 = p :=
  ⟨List.mem_of_find?_eq_some h, by have := List.find?_some h; exact of_decide_eq_true this⟩
theorem lk_none {s : List Nd} {p : List UInt8} : lk s p = none ↔ ∀ x ∈ s, L x.f0 ≠ p := by
  unfold lk; rw [List.find?_eq_none]; simp
theorem lk_cons (x : Nd) (s : List Nd) (p : List UInt8) : lk (x :: s) p = if L x.f0 = p then some x else lk s p := by
  unfold lk
  by_cases h : L x.f0 = p
  · rw [if_pos h, List.find?_cons_of_pos (by simpa using h)]
  · rw [if_neg h, List.find?_cons_of_neg (by simpa using h)]
/-- Does a path stand under a node that is no directory? -/
def blk (s : List Nd) (p : List UInt8) : Bool := s.any (fun x => decide (x.f1 ≠ 1 ∧ L x.f0 ++ [47] <+: p))
theorem blk_iff {s : List Nd} {p : List UInt8} : blk s p = true ↔ ∃ x ∈ s, x.f1 ≠ 1 ∧ L x.f0 ++ [47] <+: p := by
  unfold blk; rw [List.any_eq_true]; simp
/-- Does a path stand at a node that is no directory, or under one? -/
def bl (s : List Nd) (p : List UInt8) : Bool := s.any (fun x => decide (x.f1 ≠ 1 ∧ (L x.f0 = p ∨ L x.f0 ++ [47] <+: p)))
theorem bl_iff {s : List Nd} {p : List UInt8} : bl s p = true ↔ ∃ x ∈ s, x.f1 ≠ 1 ∧ (L x.f0 = p ∨ L x.f0 ++ [47] <+: p) := by
  unfold bl; rw [List.any_eq_true]; simp
theorem pre_dir {p q : List UInt8} (h : may p = true) (hp : p ≠ []) : q ++ [47] <+: p ↔ (q = dir p ∧ dir p ≠ []) ∨ q ++ [47] <+: dir p := by
  rcases last_cases p with hn | ⟨a, b, rfl, hb⟩
  · rw [dir_none hn]
    constructor
    · rintro ⟨t, rfl⟩
      exact absurd (by simp) hn
    · rintro (⟨_, h1⟩ | ⟨t, h1⟩)
      · exact absurd rfl h1
      · simp at h1
  · rw [dir_slash hb]
    have ha : a ≠ [] := by
      rintro rfl
      exact part_ne ((may_parts h hp).2.1 [] (by simp [cut, cutA])) rfl
    constructor
    · rintro ⟨t, ht⟩
      rw [List.append_assoc, List.append_eq_append_iff] at ht
      rcases ht with ⟨a', e1, e2⟩ | ⟨c', e1, e2⟩
      · cases a' with
        | nil => exact .inl ⟨by rw [e1, List.append_nil], ha⟩
        | cons y a' =>
          simp only [List.cons_append, List.nil_append, List.cons.injEq] at e2
          obtain ⟨rfl, e2⟩ := e2
          exact .inr ⟨a', by rw [e1]; simp⟩
      · cases c' with
        | nil => exact .inl ⟨by rw [e1, List.append_nil], ha⟩
        | cons y c' =>
          simp only [List.cons_append, List.nil_append, List.cons.injEq] at e2
          obtain ⟨rfl, e2⟩ := e2
          exact absurd (by rw [e2]; simp) hb
    · rintro (⟨rfl, _⟩ | ⟨t, ht⟩)
      · exact ⟨b, by simp⟩
      · exact ⟨t ++ 47 :: b, by rw [← List.append_assoc, ht]⟩
/-- What was put so far: no path twice, each node good, the root a directory, and each one's parent. -/
structure PInv (s : List Nd) : Prop where
  uni : s.Pairwise (fun a b => L a.f0 ≠ L b.f0)
  good : ∀ n ∈ s, goodN n = true
  root : ∃ x ∈ s, L x.f0 = [] ∧ x.f1 = 1
  par : ∀ n ∈ s, L n.f0 ≠ [] → ∃ m ∈ s, L m.f0 = dir (L n.f0) ∧ m.f1 = 1
theorem uni_inj {s : List Nd} (h : s.Pairwise (fun a b => L a.f0 ≠ L b.f0)) {x y : Nd} (hx : x ∈ s) (hy : y ∈ s) (e : L x.f0 = L y.f0) : x = y := by
  induction s with
  | nil => cases hx
  | cons z s ih =>
    rw [List.pairwise_cons] at h
    rcases List.mem_cons.1 hx with hx1 | hx1
    · rcases List.mem_cons.1 hy with hy1 | hy1
      · rw [hx1, hy1]
      · rw [hx1] at e
        exact absurd e (h.1 y hy1)
    · rcases List.mem_cons.1 hy with hy1 | hy1
      · rw [hy1] at e
        exact absurd e.symm (h.1 x hx1)
      · exact ih h.2 hx1 hy1
theorem PInv.inj {s : List Nd} (h : PInv s) {x y : Nd} (hx : x ∈ s) (hy : y ∈ s) (e : L x.f0 = L y.f0) : x = y := uni_inj h.uni hx hy e
theorem PInv.lk_mem {s : List Nd} (h : PInv s) {x : Nd} (hx : x ∈ s) : lk s (L x.f0) = some x := by
  cases e : lk s (L x.f0) with
  | none => exact absurd rfl (lk_none.1 e x hx)
  | some y =>
    obtain ⟨h1, h2⟩ := lk_some e
    rw [h.inj h1 hx h2]
theorem PInv.rootdir {s : List Nd} (h : PInv s) {x : Nd} (hx : x ∈ s) (e : L x.f0 = []) : x.f1 = 1 := by
  obtain ⟨r, hr, h1, h2⟩ := h.root
  rw [h.inj hx hr (e.trans h1.symm)]
  exact h2
theorem PInv.blk_dir {s : List Nd} (h : PInv s) {p : List UInt8} (hm : may p = true) (hp : p ≠ []) : blk s p = bl s (dir p) := by
  rw [Bool.eq_iff_iff, blk_iff, bl_iff]
  constructor
  · rintro ⟨x, hx, h1, h2⟩
    rcases (pre_dir hm hp).1 h2 with ⟨h3, _⟩ | h3
    · exact ⟨x, hx, h1, .inl h3⟩
    · exact ⟨x, hx, h1, .inr h3⟩
  · rintro ⟨x, hx, h1, h2⟩
    refine ⟨x, hx, h1, (pre_dir hm hp).2 ?_⟩
    rcases h2 with h3 | h3
    · exact .inl ⟨h3, fun e => h1 (h.rootdir hx (h3.trans e))⟩
    · exact .inr h3
theorem blk_nil (s : List Nd) : blk s [] = false := by
  rw [Bool.eq_false_iff]
  intro h
  obtain ⟨x, _, _, t, ht⟩ := blk_iff.1 h
  simp at ht
theorem PInv.bl_lk {s : List Nd} (h : PInv s) (p : List UInt8) : bl s p = match lk s p with | some x => if x.f1 = 1 then blk s p else true | none => blk s p := by
  cases e : lk s p with
  | none =>
    have h1 := lk_none.1 e
    show bl s p = blk s p
    rw [Bool.eq_iff_iff, blk_iff, bl_iff]
    exact ⟨fun ⟨x, hx, h2, h3⟩ => ⟨x, hx, h2, h3.elim (fun h4 => absurd h4 (h1 x hx)) id⟩, fun ⟨x, hx, h2, h3⟩ => ⟨x, hx, h2, .inr h3⟩⟩
  | some x =>
    obtain ⟨h1, h2⟩ := lk_some e
    show bl s p = if x.f1 = 1 then blk s p else true
    by_cases hk : x.f1 = 1
    · rw [if_pos hk, Bool.eq_iff_iff, blk_iff, bl_iff]
      exact ⟨fun ⟨y, hy, h3, h4⟩ => ⟨y, hy, h3, h4.elim (fun h5 => absurd (by rw [h.inj hy h1 (h5.trans h2.symm)]; exact hk) h3) id⟩, fun ⟨x, hx, h2, h3⟩ => ⟨x, hx, h2, .inr h3⟩⟩
    · rw [if_neg hk, bl_iff]
      exact ⟨x, h1, hk, .inl h2⟩
theorem PInv.may {s : List Nd} (h : PInv s) {x : Nd} (hx : x ∈ s) : Pa.may (L x.f0) = true := good_may (h.good x hx)
/-- What stands there is not blocked. -/
theorem PInv.free {s : List Nd} (h : PInv s) : ∀ (m : Nat) (x : Nd), x ∈ s → (L x.f0).length ≤ m → blk s (L x.f0) = false := by
  intro m
  induction m with
  | zero =>
    intro x hx hl
    rw [List.eq_nil_of_length_eq_zero (Nat.le_zero.1 hl)]
    exact blk_nil s
  | succ m ih =>
    intro x hx hl
    by_cases hp : L x.f0 = []
    · rw [hp]; exact blk_nil s
    obtain ⟨y, hy, h1, h2⟩ := h.par x hx hp
    have hd := dir_spec (h.may hx) hp
    rw [h.blk_dir (h.may hx) hp, ← h1, h.bl_lk, h.lk_mem hy]
    show (if y.f1 = 1 then blk s (L y.f0) else true) = false
    rw [if_pos h2]
    exact ih y hy (by rw [h1]; omega)
/-- A node is put, or passed over; what has collided. -/
def put (s : List Nd × Bool) (n : Nd) : List Nd × Bool :=
  match lk s.1 (L n.f0) with
  | some x => (s.1, s.2 || !eqN x n)
  | none => if blk s.1 (L n.f0) = true then (s.1, true) else (s.1 ++ [n], s.2)
def Done (s : List Nd) (m : Nd) : Prop := (∃ x ∈ s, L x.f0 = L m.f0) ∨ blk s (L m.f0) = true
theorem put_cases (s : List Nd × Bool) (n : Nd) : (∃ x ∈ s.1, L x.f0 = L n.f0 ∧ put s n = (s.1, s.2 || !eqN x n)) ∨ (∀ x ∈ s.1, L x.f0 ≠ L n.f0) ∧ blk s.1 (L n.f0) = true ∧ put s n = (s.1, true) ∨ (∀ x ∈ s.1, L x.f0 ≠ L n.f0) ∧ blk s.1 (L n.f0) = false ∧ put s n = (s.1 ++ [n], s.2) := by
  unfold put
  cases e : lk s.1 (L n.f0) with
  | some x => exact .inl ⟨x, (lk_some e).1, (lk_some e).2, rfl⟩
  | none =>
    have h1 := lk_none.1 e
    cases hb : blk s.1 (L n.f0)
    · exact .inr (.inr ⟨h1, rfl, rfl⟩)
    · exact .inr (.inl ⟨h1, rfl, rfl⟩)
theorem put_grow (s : List Nd × Bool) (n : Nd) : (put s n).1 = s.1 ∨ (put s n).1 = s.1 ++ [n] := by
  rcases put_cases s n with ⟨x, _, _, h⟩ | ⟨_, _, h⟩ | ⟨_, _, h⟩ <;> rw [h]
  · exact .inl rfl
  · exact .inl rfl
  · exact .inr rfl
theorem put_sub (s : List Nd × Bool) (n x : Nd) (h : x ∈ s.1) : x ∈ (put s n).1 := by
  rcases put_grow s n with e | e <;> rw [e]
  · exact h
  · exact List.mem_append_left _ h
theorem Done.mono {s s' : List Nd} {m : Nd} (h : Done s m) (hs : ∀ x ∈ s, x ∈ s') : Done s' m := by
  rcases h with ⟨x, hx, e⟩ | h
  · exact .inl ⟨x, hs x hx, e⟩
  · obtain ⟨x, hx, h1⟩ := blk_iff.1 h
    exact .inr (blk_iff.2 ⟨x, hs x hx, h1⟩)
theorem put_done (s : List Nd × Bool) (n : Nd) : Done (put s n).1 n := by
  rcases put_cases s n with ⟨x, h1, h2, h⟩ | ⟨_, h1, h⟩ | ⟨_, _, h⟩ <;> rw [h]
  · exact .inl ⟨x, h1, h2⟩
  · exact .inr h1
  · exact .inl ⟨n, by simp, rfl⟩
theorem put_inv {s : List Nd × Bool} {n : Nd} (h : PInv s.1) (hg : goodN n = true) (hd : L n.f0 ≠ [] → ∃ m, L m.f0 = dir (L n.f0) ∧ Done s.1 m) : PInv (put s n).1 := by
  rcases put_cases s n with ⟨x, _, _, e⟩ | ⟨_, _, e⟩ | ⟨h1, h2, e⟩ <;> rw [e]
  · exact h
  · exact h
  have hne : L n.f0 ≠ [] := fun e' => by
    obtain ⟨r, hr, h3, _⟩ := h.root
    exact h1 r hr (h3.trans e'.symm)
  refine ⟨?_, ?_, ?_, ?_⟩
  · rw [List.pairwise_append]
    exact ⟨h.uni, List.pairwise_singleton _ _, fun a ha b hb => by rw [List.mem_singleton.1 hb]; exact h1 a ha⟩
  · intro x hx
    rcases List.mem_append.1 hx with hx | hx
    · exact h.good x hx
    · rw [List.mem_singleton.1 hx]; exact hg
  · obtain ⟨r, hr, h3⟩ := h.root
    exact ⟨r, List.mem_append_left _ hr, h3⟩
  · intro x hx hx0
    rcases List.mem_append.1 hx with hx | hx
    · obtain ⟨m, hm, h3⟩ := h.par x hx hx0
      exact ⟨m, List.mem_append_left _ hm, h3⟩
    · rw [List.mem_singleton.1 hx]
      obtain ⟨m, hm, hdone⟩ := hd hne
      have hb := h.blk_dir (good_may hg) hne
      rw [h2] at hb
      rcases hdone with ⟨y, hy, h3⟩ | h3
      · refine ⟨y, List.mem_append_left _ hy, h3.trans hm, ?_⟩
        by_cases hk : y.f1 = 1
        · exact hk
        · rw [← hm, (bl_iff (s := s.1)).2 ⟨y, hy, hk, .inl h3⟩] at hb
          cases hb
      · obtain ⟨y, hy, h4, h5⟩ := blk_iff.1 h3
        rw [← hm, (bl_iff (s := s.1)).2 ⟨y, hy, h4, .inr h5⟩] at hb
        cases hb
/-- What was put, of a tree's first j nodes. -/
def Ok (t : List Nd) (j : Nat) (s : List Nd × Bool) : Prop := PInv s.1 ∧ ∀ m ∈ t.take j, Done s.1 m
theorem parent_before {t : List Nd} (ht : mayT t = true) {j : Nat} (hj : j < t.length) (hne : L (at_ t j).f0 ≠ []) : ∃ m ∈ t.take j, L m.f0 = dir (L (at_ t j).f0) ∧ m.f1 = 1 := by
  obtain ⟨h0, h1⟩ := (mayT_iff t).1 ht
  have hu := up_may ht
  have hj0 : 1 ≤ j := by
    rcases Nat.eq_zero_or_pos j with rfl | h'
    · have := h1 0 (by omega)
      unfold okAt at this
      rw [Bool.and_eq_true, Bool.and_eq_true] at this
      have h2 := this.2.2
      unfold fol at h2
      rw [if_pos (by simp), decide_eq_true_iff] at h2
      exact absurd h2 hne
    · exact h'
  have hd := (ok_fol (h1 j hj) hj0 hj).2.2.2.2.2
  rw [← dirAny_of (up_take hu j) (mkB (dir (L (at_ t j).f0))), L_mkB, dirAny_iff] at hd
  exact hd
theorem at_good {t : List Nd} (ht : mayT t = true) {j : Nat} (hj : j < t.length) : goodN (at_ t j) = true := (mayT_good ht).2.2 _ (at_mem hj)
theorem take_succ_at (t : List Nd) (j : Nat) (hj : j < t.length) : t.take (j + 1) = t.take j ++ [at_ t j] := by
  rw [List.take_add_one, List.getElem?_eq_getElem hj, at_lt t j hj]; rfl
theorem drop_at (t : List Nd) (j : Nat) (hj : j < t.length) : t.drop j = at_ t j :: t.drop (j + 1) := by
  rw [List.drop_eq_getElem_cons hj, at_lt t j hj]
theorem Ok.step {t : List Nd} (ht : mayT t = true) {j : Nat} (hj : j < t.length) {s : List Nd × Bool} (h : Ok t j s) : Ok t (j + 1) (put s (at_ t j)) := by
  refine ⟨put_inv h.1 (at_good ht hj) (fun hne => ?_), fun m hm => ?_⟩
  · obtain ⟨m, hm, h1, _⟩ := parent_before ht hj hne
    exact ⟨m, h1, h.2 m hm⟩
  · rw [take_succ_at t j hj] at hm
    rcases List.mem_append.1 hm with hm | hm
    · exact (h.2 m hm).mono (put_sub _ _)
    · rw [List.mem_singleton.1 hm]
      exact put_done _ _
theorem Ok.all {t : List Nd} (ht : mayT t = true) : ∀ (f j : Nat) (s : List Nd × Bool), j + f = t.length → Ok t j s → PInv ((t.drop j).foldl put s).1 := by
  intro f
  induction f with
  | zero =>
    intro j s hj h
    rw [List.drop_of_length_le (by omega)]
    exact h.1
  | succ f ih =>
    intro j s hj h
    rw [drop_at t j (by omega), List.foldl_cons]
    exact ih (j + 1) _ (by omega) (h.step ht (by omega))
theorem Ok.zero {t : List Nd} {s : List Nd × Bool} (h : PInv s.1) : Ok t 0 s := ⟨h, fun m hm => by simp at hm⟩
/-- The root alone. -/
def root0 : Nd := ⟨(⟨#[]⟩ : ByteArray), 1, (⟨#[]⟩ : ByteArray)⟩
theorem root_inv : PInv [root0] := by
  refine ⟨List.pairwise_singleton _ _, fun n hn => ?_, ⟨root0, by simp, rfl, rfl⟩, fun n hn h => ?_⟩
  · rw [List.mem_singleton.1 hn]; decide
  · rw [List.mem_singleton.1 hn] at h; exact absurd rfl h
/-- Is each a tree over a directory? -/
def okT (ts : List (List Nd)) : Bool := ts.all (fun t => mayT t && decide ((at_ t 0).f1 = 1))
/-- Trees, over one another. -/
def over (ts : List (List Nd)) (s : List Nd × Bool) : List Nd × Bool := ts.foldl (fun s t => t.foldl put s) s
def pileOf (ts : List (List Nd)) : List Nd × Bool := over ts ([root0], false)
theorem okT_cons (t : List Nd) (ts : List (List Nd)) : okT (t :: ts) = true ↔ (mayT t = true ∧ (at_ t 0).f1 = 1) ∧ okT ts = true := by
  unfold okT; rw [List.all_cons, Bool.and_eq_true, Bool.and_eq_true, decide_eq_true_iff]
theorem tree_inv {t : List Nd} (ht : mayT t = true) {s : List Nd × Bool} (h : PInv s.1) : PInv (t.foldl put s).1 := Ok.all ht t.length 0 s (by omega) (Ok.zero h)
theorem over_inv : ∀ (ts : List (List Nd)) (s : List Nd × Bool), okT ts = true → PInv s.1 → PInv (over ts s).1
  | [], s, _, h => h
  | t :: ts, s, ho, h => over_inv ts _ ((okT_cons t ts).1 ho).2 (tree_inv ((okT_cons t ts).1 ho).1.1 h)
theorem put_len (s : List Nd × Bool) (n : Nd) : (put s n).1.length ≤ s.1.length + 1 := by
  rcases put_grow s n with e | e <;> rw [e]
  · omega
  · rw [List.length_append, List.length_singleton]; omega
theorem fold_len : ∀ (t : List Nd) (s : List Nd × Bool), (t.foldl put s).1.length ≤ s.1.length + t.length
  | [], s => by simp
  | n :: t, s => by
    rw [List.foldl_cons, List.length_cons]
    have := fold_len t (put s n)
    have := put_len s n
    omega
theorem over_len (m : Nat) : ∀ (ts : List (List Nd)) (s : List Nd × Bool), (∀ t ∈ ts, t.length ≤ m) → (over ts s).1.length ≤ s.1.length + ts.length * m
  | [], s, _ => by simp [over]
  | t :: ts, s, h => by
    show (over ts (t.foldl put s)).1.length ≤ _
    have h1 := over_len m ts (t.foldl put s) (fun u hu => h u (List.mem_cons_of_mem _ hu))
    have h2 := fold_len t s
    have h3 := h t (List.mem_cons_self ..)
    rw [List.length_cons, Nat.succ_mul]
    omega
theorem put_clash {s : List Nd × Bool} (h : s.2 = true) (n : Nd) : (put s n).2 = true := by
  rcases put_cases s n with ⟨x, _, _, e⟩ | ⟨_, _, e⟩ | ⟨_, _, e⟩ <;> rw [e]
  · show (s.2 || _) = true
    rw [h]; rfl
  · exact h
theorem fold_clash : ∀ (t : List Nd) {s : List Nd × Bool}, s.2 = true → (t.foldl put s).2 = true
  | [], _, h => h
  | n :: t, _, h => fold_clash t (put_clash h n)
theorem over_clash : ∀ (ts : List (List Nd)) {s : List Nd × Bool}, s.2 = true → (over ts s).2 = true
  | [], _, h => h
  | t :: ts, _, h => over_clash ts (fold_clash t h)
/-- What union answers, of trees: zs are the pile's nodes, sorted. -/
def finU (pol : Int) (s : List Nd × Bool) (zs : List Nd) : List Nd × Int := if pol = 0 ∧ s.2 = true then ([], 9) else if 400 < s.1.length then ([], 3) else (zs, 0)
def uni (pol : Int) (ts : List (List Nd)) (zs : List Nd) : List Nd × Int := if pol ≠ 0 ∧ pol ≠ 1 then ([], 2) else if okT ts = true then finU pol (pileOf ts) zs else ([], 7)
end Go.Proofs.YtiamdmlbhmgnjaaDoor.UnionPut
/- Package union comes to what it is to put trees over one another. -/
namespace Go.Proofs.YtiamdmlbhmgnjaaDoor.UnionTh
open Go.RowKit Go.Proofs.YtiamdmlbhmgnjaaDoorX Go.Proofs.YtiamdmlbhmgnjaaDoorW.PrintWords Go.Proofs.YtiamdmlbhmgnjaaDoorW.PrintLast Go.Proofs.YtiamdmlbhmgnjaaDoorW.PrintMore Go.Proofs.YtiamdmlbhmgnjaaDoor.P Go.Proofs.YtiamdmlbhmgnjaaDoor.Pa Go.Proofs.YtiamdmlbhmgnjaaDoor.PaTh Go.Proofs.YtiamdmlbhmgnjaaDoor.TreeTh Go.Proofs.YtiamdmlbhmgnjaaDoor.TreeUp Go.Proofs.YtiamdmlbhmgnjaaDoor.PartsTh Go.Proofs.YtiamdmlbhmgnjaaDoor.TreeChar Go.Proofs.YtiamdmlbhmgnjaaDoor.UnionPut
set_option linter.unusedVariables false
set_option linter.unusedSimpArgs false
theorem lk_T (s : List Nd) (p : ByteArray) : lookT (s.map tri) p = (lk s (L p)).map tri := by
  induction s with
  | nil => rfl
  | cons x s ih =>
    rw [List.map_cons, lookT, lk_cons, ih]
    by_cases h : L x.f0 = L p
    · rw [if_pos h, if_pos (show (tri x).1 = p from L_inj h)]; rfl
    · rw [if_neg h, if_neg (show ¬ (tri x).1 = p from fun e => h (congrArg L (show x.f0 = p from e)))]
section
variable {s : List Nd} {p : ByteArray} {b c : Bool}
theorem pl_some {x : Nd} (h : lk s (L p) = some x) (hp : p.size ≤ maxLen) : pile_look.f b s c p = some (x.f0, x.f1, x.f2, true, b, s, c) := by
  unfold pile_look.f foundT
  rw [if_pos hp, lk_T, h]; rfl
theorem pl_none (h : lk s (L p) = none) (hp : p.size ≤ maxLen) : pile_look.f b s c p = some ((⟨#[]⟩ : ByteArray), 0, (⟨#[]⟩ : ByteArray), false, b, s, c) := by
  unfold pile_look.f foundT
  rw [if_pos hp, lk_T, h]; rfl
theorem may_max {p : ByteArray} (h : may (L p) = true) : p.size ≤ maxLen := by
  have := may_size h
  rw [size_L]; unfold maxLen; omega
theorem blk_step (h : PInv s) (k : Nat) (hk : 1102 ≤ k) (hm : may (L p) = true) (hnext : L p ≠ [] → union_pile_blocked.l0 k (mkB (dir (L p))) true b s c = some (bl s (dir (L p)), b, s, c)) : union_pile_blocked.l0 (k + 1) p true b s c = some (bl s (L p), b, s, c) := by
  have hgo : (path_Parent.f k p).bind (fun bt => union_pile_blocked.l0 k bt.1 bt.2 b s c) = some (blk s (L p), b, s, c) := by
    rw [parent_f p k (by omega), some_bind]
    by_cases hp : L p = []
    · rw [if_pos hp, hp, blk_nil]
      obtain ⟨k, rfl⟩ : ∃ m, k = m + 1 := ⟨k - 1, by omega⟩
      show union_pile_blocked.l0 (k + 1) (mkB []) false b s c = _
      rw [union_pile_blocked.l0, if_neg (by simp)]
    · rw [if_neg hp, if_pos hm, h.blk_dir hm hp]
      exact hnext hp
  rw [union_pile_blocked.l0, if_pos rfl]
  cases e : lk s (L p) with
  | none =>
    rw [pl_none e (may_max hm), some_bind, if_neg (by simp), h.bl_lk, e]
    exact hgo
  | some x =>
    rw [pl_some e (may_max hm), some_bind, if_pos rfl, h.bl_lk, e]
    by_cases hx : x.f1 = 1
    · rw [if_pos hx]
      show _ = some ((if x.f1 = 1 then blk s (L p) else true), b, s, c)
      rw [if_pos hx]
      exact hgo
    · rw [if_neg hx]
      show _ = some ((if x.f1 = 1 then blk s (L p) else true), b, s, c)
      rw [if_neg hx]
theorem blk_l0 (h : PInv s) : ∀ (m : Nat) (p : ByteArray) (k : Nat), (L p).length ≤ m → may (L p) = true → 1103 + m ≤ k → union_pile_blocked.l0 k p true b s c = some (bl s (L p), b, s, c) := by
  intro m
  induction m with
  | zero =>
    intro p k hl hm hk
    obtain ⟨k, rfl⟩ : ∃ m, k = m + 1 := ⟨k - 1, by omega⟩
    exact blk_step h k (by omega) hm (fun hp => absurd (List.eq_nil_of_length_eq_zero (by omega)) hp)
  | succ m ih =>
    intro p k hl hm hk
    obtain ⟨k, rfl⟩ : ∃ m, k = m + 1 := ⟨k - 1, by omega⟩
    refine blk_step h k (by omega) hm (fun hp => ?_)
    have hd := dir_spec hm hp
    exact ih (mkB (dir (L p))) k (by rw [L_mkB]; omega) (by rw [L_mkB]; exact hd.1) (by omega)
theorem blocked_f (h : PInv s) (n : Nd) (hm : may (L n.f0) = true) (k : Nat) (hk : 1400 ≤ k) : union_pile_blocked.f k b s c n.f0 n.f1 n.f2 = some (blk s (L n.f0), b, s, c) := by
  unfold union_pile_blocked.f
  rw [parent_f n.f0 k (by omega), some_bind]
  by_cases hp : L n.f0 = []
  · rw [if_pos hp, hp, blk_nil]
    obtain ⟨k, rfl⟩ : ∃ m, k = m + 1 := ⟨k - 1, by omega⟩
    show union_pile_blocked.l0 (k + 1) (mkB []) false b s c = _
    rw [union_pile_blocked.l0, if_neg (by simp)]
  · rw [if_neg hp, if_pos hm, h.blk_dir hm hp]
    have hd := dir_spec hm hp
    have := may_size hd.1
    exact blk_l0 h (dir (L n.f0)).length (mkB (dir (L n.f0))) k (Nat.le_of_eq (by rw [L_mkB])) (by rw [L_mkB]; exact hd.1) (by omega)
theorem add_f (h : PInv s) (n : Nd) (hg : goodN n = true) (hl : s.length < 1000000000) (k : Nat) (hk : 1400 ≤ k) : union_pile_add.f k b s c n.f0 n.f1 n.f2 = some (b, (put (s, c) n).1, (put (s, c) n).2) := by
  have hm := good_may hg
  unfold union_pile_add.f pile_lookN.f put
  cases e : lk s (L n.f0) with
  | some x =>
    rw [pl_some e (may_max hm), some_bind, if_pos rfl]
    cases c with
    | true => rfl
    | false =>
      rw [if_neg (by simp)]
      show some (b, s, (!(x.f0.toList == n.f0.toList) || (!(x.f1 == n.f1) || !(x.f2.toList == n.f2.toList)))) = some (b, s, (false || !eqN x n))
      rw [toL, toL, toL, toL]
      unfold eqN
      rw [beqD, beqD, beqD, Bool.not_and, Bool.not_and, Bool.false_or]
  | none =>
    rw [pl_none e (may_max hm), some_bind, if_neg (by simp)]
    show (union_pile_blocked.f k b s c n.f0 n.f1 n.f2).bind _ = _
    rw [blocked_f h n hm k hk, some_bind]
    show (if blk s (L n.f0) = true then some (b, s, true) else _) = some (b, (if blk s (L n.f0) = true then (s, true) else (s ++ [n], c)).1, (if blk s (L n.f0) = true then (s, true) else (s ++ [n], c)).2)
    by_cases hb : blk s (L n.f0) = true
    · rw [if_pos hb, if_pos hb]
    · rw [if_neg hb, if_neg hb]
      unfold pile_put.f
      have hs := goodN_size hg
      rw [if_pos ⟨may_max hm, by rw [size_L]; unfold maxLen; omega, hl, by rw [lk_T, e]; rfl⟩]; rfl
end
theorem rdL (ts : List (List Nd)) (j : Nat) : rd_L3 ts (j : Int) = ts.getD j [] := by unfold rd_L3; rw [Int.toNat_natCast]
theorem rdL_lt (ts : List (List Nd)) (j : Nat) (h : j < ts.length) : rd_L3 ts (j : Int) = ts[j] := by rw [rdL, List.getD_eq_getElem?_getD, List.getElem?_eq_getElem h]; rfl
section
variable {pol : Int} {b : Bool} {ts : List (List Nd)} {Z : List Nd}
theorem of_l2 {t : List Nd} (ht : mayT t = true) (hl : t.length ≤ 1000) {x43 x44 : Int} {S : List Nd × Bool} {R : Option (List Nd × Int)} (K0 : Nat) (hK : 2000 ≤ K0) (hnext : ∀ k, K0 ≤ k → union_Of.l1 k pol ts x43 (wrap64 (x44 + 1)) b S.1 S.2 = R) :
    ∀ (f j : Nat) (s : List Nd × Bool) (k : Nat), j + f = t.length → Ok t j s → s.1.length + f ≤ 1000000 → K0 + f + 1 ≤ k → (t.drop j).foldl put s = S → union_Of.l2 k pol ts x43 x44 t (t.length : Int) (j : Int) b s.1 s.2 = R := by
  intro f
  induction f with
  | zero =>
    intro j s k hj ho hs hk he
    obtain ⟨k, rfl⟩ : ∃ m, k = m + 1 := ⟨k - 1, by omega⟩
    rw [List.drop_of_length_le (by omega)] at he
    rw [union_Of.l2, if_neg (by omega), show s = S from he]
    exact hnext k (by omega)
  | succ f ih =>
    intro j s k hj ho hs hk he
    obtain ⟨k, rfl⟩ : ∃ m, k = m + 1 := ⟨k - 1, by omega⟩
    rw [drop_at t j (by omega), List.foldl_cons] at he
    rw [union_Of.l2, if_pos (by omega), if_pos (by omega), if_pos (by omega), rdN, add_f ho.1 (at_ t j) (at_good ht (by omega)) (by omega) k (by omega), some_bind, w_one j (by omega)]
    have := put_len s (at_ t j)
    exact ih (j + 1) (put s (at_ t j)) k (by omega) (ho.step ht (by omega)) (by omega) (by omega) he
theorem of_l1 (hpol : pol = 0 ∨ pol = 1) (hts : okT ts = true) (hn : ts.length ≤ 1000) (hm : ∀ t ∈ ts, t.length ≤ 1000) (hz : tree_Sort.f 1000000000 (over ts ([root0], false)).1 = some Z) (K1 : Nat) (hK1 : 1000000000 ≤ K1) :
    ∀ (f j : Nat) (s : List Nd × Bool) (k : Nat), j + f = ts.length → PInv s.1 → s.1.length + f * 1000 ≤ 900000 → K1 + 10 + f * 1010 ≤ k → over (ts.drop j) s = over ts ([root0], false) → union_Of.l1 k pol ts (ts.length : Int) (j : Int) b s.1 s.2 = some (finU pol (pileOf ts) Z) := by
  intro f
  induction f with
  | zero =>
    intro j s k hj hi hs hk he
    obtain ⟨k, rfl⟩ : ∃ m, k = m + 1 := ⟨k - 1, by omega⟩
    rw [List.drop_of_length_le (by omega)] at he
    have he' : s = pileOf ts := he
    have hj4 : ∀ x : Bool, (x = true ↔ pol = 0 ∧ s.2 = true) → union_Of.j4 k x b s.1 s.2 = some (finU pol (pileOf ts) Z) := by
      intro x hx
      obtain ⟨k, rfl⟩ : ∃ m, k = m + 1 := ⟨k - 1, by omega⟩
      rw [union_Of.j4, ← he']
      unfold finU
      by_cases h1 : pol = 0 ∧ s.2 = true
      · rw [if_pos (hx.2 h1), if_pos h1]
      · rw [if_neg (fun h => h1 (hx.1 h)), if_neg h1]
        by_cases h2 : 400 < s.1.length
        · rw [if_pos (by omega), if_pos h2]
        · rw [if_neg (by omega), if_neg h2]
          unfold pile_Sort.f
          rw [← show s = over ts ([root0], false) from he'] at hz
          rw [at_rounds (g := fun k => tree_Sort.f k s.1) (fun k => tree_Sort.mono _ k) (show 1000000000 ≤ k by omega) hz, some_bind]; rfl
    rw [union_Of.l1, if_neg (by omega)]
    by_cases h2 : s.2 = true
    · rw [if_pos h2]
      exact hj4 _ (by simp [h2])
    · rw [if_neg h2]
      exact hj4 _ (by simp [h2])
  | succ f ih =>
    intro j s k hj hi hs hk he
    obtain ⟨k, rfl⟩ : ∃ m, k = m + 1 := ⟨k - 1, by omega⟩
    have hj' : j < ts.length := by omega
    rw [List.drop_eq_getElem_cons hj'] at he
    have ht : mayT ts[j] = true := by
      have := List.all_eq_true.1 hts ts[j] (List.getElem_mem hj')
      rw [Bool.and_eq_true] at this
      exact this.1
    have hl := hm ts[j] (List.getElem_mem hj')
    rw [Nat.succ_mul] at hs hk
    have := fold_len ts[j] s
    rw [union_Of.l1, if_pos (by omega), if_pos (by omega), if_pos (by omega), rdL_lt ts j hj']
    have hk2 : 2000 ≤ K1 + 10 + f * 1010 := Nat.le_trans (Nat.le_trans (by decide : 2000 ≤ 1000000000) hK1) (Nat.le_trans (Nat.le_add_right _ _) (Nat.le_add_right _ _))
    refine of_l2 ht hl (S := ts[j].foldl put s) (K1 + 10 + f * 1010) hk2 (fun k' hk' => ?_) ts[j].length 0 s k (by omega) (Ok.zero hi) (by omega) (by omega) rfl
    rw [w_one j (by omega)]
    exact ih (j + 1) (ts[j].foldl put s) k' (by omega) (tree_inv ht hi) (by omega) hk' he
theorem of_l0 (hn : ts.length ≤ 1000) (hm : ∀ t ∈ ts, t.length ≤ 1000) {R : List Nd × Int} (K0 : Nat) (hK : 2000 ≤ K0)
    (hnext : okT ts = true → ∀ k, K0 ≤ k → union_Of.l1 k pol ts (ts.length : Int) 0 false [root0] false = some R) :
    ∀ (f j k : Nat), j + f = ts.length → okT (ts.take j) = true → K0 + f + 1 ≤ k → union_Of.l0 k pol ts ts (ts.length : Int) (j : Int) = some (if okT (ts.drop j) = true then R else ([], 7)) := by
  intro f
  induction f with
  | zero =>
    intro j k hj ho hk
    obtain ⟨k, rfl⟩ : ∃ m, k = m + 1 := ⟨k - 1, by omega⟩
    rw [List.take_of_length_le (by omega)] at ho
    rw [List.drop_of_length_le (by omega), if_pos (show okT [] = true from rfl), union_Of.l0, if_neg (by omega)]
    show (main_main.f).bind _ = _
    unfold main_main.f
    rw [some_bind]
    have h0 : union_pile_add.f k false [] false (⟨#[]⟩ : ByteArray) 1 (⟨#[]⟩ : ByteArray) = some (false, [root0], false) := by
      unfold union_pile_add.f pile_lookN.f
      rw [pl_none (by rfl) (by unfold maxLen; decide), some_bind, if_neg (by simp)]
      show (union_pile_blocked.f k false [] false (⟨#[]⟩ : ByteArray) 1 (⟨#[]⟩ : ByteArray)).bind _ = _
      unfold union_pile_blocked.f
      rw [parent_f _ k (by omega), some_bind, if_pos (show L (⟨#[]⟩ : ByteArray) = [] from rfl)]
      obtain ⟨k, rfl⟩ : ∃ m, k = m + 1 := ⟨k - 1, by omega⟩
      rw [union_pile_blocked.l0, if_neg (by simp), some_bind, if_neg (by simp)]
      unfold pile_put.f
      rw [if_pos ⟨by unfold maxLen; decide, by unfold maxLen; decide, by decide, rfl⟩]; rfl
    show (union_pile_add.f k false [] false (⟨#[]⟩ : ByteArray) 1 (⟨#[]⟩ : ByteArray)).bind _ = _
    rw [h0, some_bind]
    exact hnext ho k (by omega)
  | succ f ih =>
    intro j k hj ho hk
    obtain ⟨k, rfl⟩ : ∃ m, k = m + 1 := ⟨k - 1, by omega⟩
    have hj' : j < ts.length := by omega
    have hl := hm ts[j] (List.getElem_mem hj')
    rw [union_Of.l0, if_pos (by omega), if_pos (by omega), if_pos (by omega), rdL_lt ts j hj', mayT_f ts[j] (by omega) k (by omega), some_bind, List.drop_eq_getElem_cons hj']
    by_cases h1 : mayT ts[j] = true
    · rw [if_pos h1]
      have h0 : ts[j] ≠ [] := (mayT_good h1).1
      have h0' : 0 < ts[j].length := List.length_pos_iff.2 h0
      rw [if_pos (by omega), show (0 : Int) = ((0 : Nat) : Int) from rfl, rdN]
      by_cases h2 : (at_ ts[j] 0).f1 = 1
      · rw [if_pos h2, w_one j (by omega), ih (j + 1) k (by omega) ?_ (by omega)]
        · by_cases h3 : okT (ts.drop (j + 1)) = true
          · rw [if_pos h3, if_pos ((okT_cons _ _).2 ⟨⟨h1, h2⟩, h3⟩)]
          · rw [if_neg h3, if_neg (fun h => h3 ((okT_cons _ _).1 h).2)]
        · unfold okT at ho ⊢
          rw [List.take_add_one, List.getElem?_eq_getElem hj', List.all_append, ho]
          show (true && ([ts[j]].all _)) = true
          simp [h1, h2]
      · rw [if_neg h2, if_neg (fun h => h2 ((okT_cons _ _).1 h).1.2)]
    · rw [if_neg h1, if_neg (fun h => h1 ((okT_cons _ _).1 h).1.1)]
/-- What union.Of answers. -/
theorem of_f (hn : ts.length ≤ 100) (hm : ∀ t ∈ ts, t.length ≤ 1000) (hz : tree_Sort.f 1000000000 (pileOf ts).1 = some Z) (k : Nat) (hk : 1001000000 ≤ k) : union_Of.f k pol ts = some (uni pol ts Z) := by
  obtain ⟨k, rfl⟩ : ∃ m, k = m + 1 := ⟨k - 1, by omega⟩
  have hj0 : (pol = 0 ∨ pol = 1) → union_Of.j0 (k + 1) pol ts false = some (uni pol ts Z) := by
    intro hpol
    rw [union_Of.j0, if_neg (by simp)]
    unfold uni
    rw [if_neg (by omega)]
    have := of_l0 (pol := pol) (ts := ts) (R := finU pol (pileOf ts) Z) (by omega) hm 1000200000 (by omega) (fun ho k' hk' => ?_) ts.length 0 k (by omega) rfl (by omega)
    · rw [List.drop_zero] at this
      exact this
    · exact of_l1 hpol ho (by omega) hm hz 1000000000 (by omega) ts.length 0 ([root0], false) k' (by omega) root_inv (by
        show [root0].length + _ ≤ _
        rw [List.length_singleton]; omega) (by omega) (by rw [List.drop_zero])
  unfold union_Of.f
  by_cases h0 : pol = 0
  · rw [if_pos h0]; exact hj0 (.inl h0)
  · rw [if_neg h0]
    by_cases h1 : pol = 1
    · rw [show (pol != 1) = false by simp [h1]]; exact hj0 (.inr h1)
    · rw [show (pol != 1) = true by simp [h1], union_Of.j0, if_pos rfl]
      unfold uni
      rw [if_pos ⟨h0, h1⟩]
end
end Go.Proofs.YtiamdmlbhmgnjaaDoor.UnionTh
/- Piles of nodes as sets: what is sorted is a tree, what is put again changes nothing, and when nothing collides the order does not matter. -/
namespace Go.Proofs.YtiamdmlbhmgnjaaDoor.UnionSet
open Go.RowKit Go.Proofs.YtiamdmlbhmgnjaaDoorX Go.Proofs.YtiamdmlbhmgnjaaDoorW.PrintWords Go.Proofs.YtiamdmlbhmgnjaaDoorW.PrintLast Go.Proofs.YtiamdmlbhmgnjaaDoorW.PrintMore Go.Proofs.YtiamdmlbhmgnjaaDoor.P Go.Proofs.YtiamdmlbhmgnjaaDoor.Pa Go.Proofs.YtiamdmlbhmgnjaaDoor.PaTh Go.Proofs.YtiamdmlbhmgnjaaDoor.TreeTh Go.Proofs.YtiamdmlbhmgnjaaDoor.TreeUp Go.Proofs.YtiamdmlbhmgnjaaDoor.PartsTh Go.Proofs.YtiamdmlbhmgnjaaDoor.TreeChar Go.Proofs.YtiamdmlbhmgnjaaDoor.UnionPut
open Go.Proofs.YtiamdmlbhmgnjaaDoor.SortAll (Up Same up_same isAt)
set_option linter.unusedVariables false
set_option linter.unusedSimpArgs false
abbrev Uni (s : List Nd) : Prop := s.Pairwise (fun a b => L a.f0 ≠ L b.f0)
theorem isAt_iff (p : List UInt8) (n : Nd) : isAt p n = true ↔ L n.f0 = p := by unfold isAt; rw [decide_eq_true_iff]
theorem one_of_uni : ∀ {s : List Nd}, Uni s → ∀ p, (s.filter (isAt p)).length ≤ 1
  | [], _, p => by simp
  | x :: s, h, p => by
    have h := List.pairwise_cons.1 h
    rw [List.filter_cons]
    by_cases hx : isAt p x = true
    · rw [if_pos hx]
      have : s.filter (isAt p) = [] := by
        rw [List.filter_eq_nil_iff]
        intro y hy hp
        exact h.1 y hy (((isAt_iff p x).1 hx).trans ((isAt_iff p y).1 hp).symm)
      rw [this]; simp
    · rw [if_neg hx]
      exact one_of_uni h.2 p
theorem uni_of_one : ∀ {s : List Nd}, (∀ p, (s.filter (isAt p)).length ≤ 1) → Uni s
  | [], _ => List.Pairwise.nil
  | x :: s, h => by
    refine List.pairwise_cons.2 ⟨fun y hy e => ?_, uni_of_one (fun p => ?_)⟩
    · have := h (L x.f0)
      rw [List.filter_cons, if_pos ((isAt_iff _ x).2 rfl), List.length_cons] at this
      have h2 : y ∈ s.filter (isAt (L x.f0)) := List.mem_filter.2 ⟨hy, (isAt_iff _ y).2 e.symm⟩
      have := List.length_pos_of_mem h2
      omega
    · have := h p
      rw [List.filter_cons] at this
      by_cases hx : isAt p x = true
      · rw [if_pos hx, List.length_cons] at this; omega
      · rw [if_neg hx] at this; exact this
theorem Same.uni {Z s : List Nd} (h : Same Z s) (hu : Uni s) : Uni Z := uni_of_one (fun p => by rw [h p]; exact one_of_uni hu p)
theorem same_mem {Z s : List Nd} (h : Same Z s) (x : Nd) : x ∈ Z ↔ x ∈ s := ⟨fun hx => h.mem hx, fun hx => h.symm.mem hx⟩
theorem same_of {s s' : List Nd} (hu : Uni s) (hu' : Uni s') (he : ∀ x, x ∈ s ↔ x ∈ s') : Same s s' := by
  intro p
  have h1 := one_of_uni hu p
  have h2 := one_of_uni hu' p
  have hm : ∀ x, x ∈ s.filter (isAt p) ↔ x ∈ s'.filter (isAt p) := fun x => by rw [List.mem_filter, List.mem_filter, he]
  match ha : s.filter (isAt p), hb : s'.filter (isAt p) with
  | [], [] => rfl
  | [], y :: _ => exact absurd ((hm y).2 (by rw [hb]; simp)) (by rw [ha]; simp)
  | x :: _, [] => exact absurd ((hm x).1 (by rw [ha]; simp)) (by rw [hb]; simp)
  | [x], [y] =>
    have := (hm x).1 (by rw [ha]; simp)
    rw [hb, List.mem_singleton] at this
    rw [this]
  | _ :: _ :: _, _ => rw [ha] at h1; simp at h1
  | _, _ :: _ :: _ => rw [hb] at h2; simp at h2
theorem less_total {a b : List UInt8} (h : a ≠ b) (h2 : Op.bytesLess b a = false) : Op.bytesLess a b = true := by
  have := less_tri a b
  rw [h2, Bool.not_eq_false', Bool.or_eq_true, beq_iff_eq] at this
  exact this.resolve_right h
theorem up_of {Z : List Nd} (hU : Up Z) (hu : Uni Z) : up Z := by
  rw [up_pw]
  refine (List.Pairwise.and hU hu).imp ?_
  intro a b h
  exact less_total h.2 h.1
theorem Up_of {t : List Nd} (h : up t) : Up t := by
  rw [up_pw] at h
  exact h.imp (fun hab => less_not hab)
theorem uni_up {t : List Nd} (h : up t) : Uni t := by
  rw [up_pw] at h
  exact h.imp (fun {a b} hab e => by
    have h1 : Op.bytesLess (L a.f0) (L b.f0) = true := hab
    rw [e, less_irr] at h1
    cases h1)
/-- What was put, sorted, is a tree. -/
theorem sorted_tree {s Z : List Nd} (h : PInv s) (hl : s.length ≤ 400) (hU : Up Z) (hS : Same Z s) (hZ : Z.length = s.length) : mayT Z = true := by
  rw [mayT_char]
  obtain ⟨r, hr, hr1, hr2⟩ := h.root
  refine ⟨fun e => ?_, by omega, fun n hn => h.good n (hS.mem hn), up_of hU (Same.uni hS h.uni), ⟨r, hS.symm.mem hr, hr1⟩, fun n hn hp => ?_⟩
  · have := hS.symm.mem hr
    rw [e] at this
    cases this
  · obtain ⟨m, hm, h1⟩ := h.par n (hS.mem hn) hp
    exact ⟨m, hS.symm.mem hm, h1⟩
theorem root_eq {x : Nd} (hg : goodN x = true) (hp : L x.f0 = []) (hk : x.f1 = 1) : x = root0 := by
  unfold goodN good at hg
  rw [Bool.and_eq_true, Bool.and_eq_true, if_pos hk, decide_eq_true_iff] at hg
  exact Nd_ext (L_inj (hp.trans rfl)) hk (L_inj ((of_decide_eq_true hg.2.2).trans rfl))
theorem tree_root {t : List Nd} (ht : mayT t = true) (hd : (at_ t 0).f1 = 1) : root0 ∈ t ∧ at_ t 0 = root0 := by
  have hc := (mayT_char t).1 ht
  obtain ⟨x, hx, hx0⟩ := hc.2.2.2.2.1
  have h0 := root_first hc.2.2.2.1 hx hx0
  have hl : 0 < t.length := List.length_pos_iff.2 hc.1
  have hm := at_mem hl
  have e := root_eq (hc.2.2.1 _ hm) h0 hd
  exact ⟨e ▸ hm, e⟩
theorem tree_pinv {t : List Nd} (ht : mayT t = true) (hd : (at_ t 0).f1 = 1) : PInv t := by
  have hc := (mayT_char t).1 ht
  exact ⟨uni_up hc.2.2.2.1, hc.2.2.1, ⟨root0, (tree_root ht hd).1, rfl, rfl⟩, hc.2.2.2.2.2⟩
theorem pinv_root {s : List Nd} (h : PInv s) : root0 ∈ s := by
  obtain ⟨r, hr, h1, h2⟩ := h.root
  exact root_eq (h.good r hr) h1 h2 ▸ hr
theorem eqN_self (x : Nd) : eqN x x = true := by unfold eqN; simp
/-- What is there is put to no effect. -/
theorem put_in {s : List Nd × Bool} (h : PInv s.1) {n : Nd} (hn : n ∈ s.1) : put s n = s := by
  unfold put
  rw [h.lk_mem hn]
  show (s.1, s.2 || !eqN n n) = s
  rw [eqN_self]; simp
theorem fold_in : ∀ {t : List Nd} {s : List Nd × Bool}, PInv s.1 → (∀ n ∈ t, n ∈ s.1) → t.foldl put s = s
  | [], _, _, _ => rfl
  | n :: t, s, h, hn => by
    rw [List.foldl_cons, put_in h (hn n (List.mem_cons_self ..))]
    exact fold_in h (fun m hm => hn m (List.mem_cons_of_mem _ hm))
theorem fold_sub : ∀ (t : List Nd) (s : List Nd × Bool) (x : Nd), x ∈ s.1 → x ∈ (t.foldl put s).1
  | [], _, _, h => h
  | n :: t, s, x, h => fold_sub t (put s n) x (put_sub s n x h)
theorem over_sub : ∀ (ts : List (List Nd)) (s : List Nd × Bool) (x : Nd), x ∈ s.1 → x ∈ (over ts s).1
  | [], _, _, h => h
  | t :: ts, s, x, h => over_sub ts (t.foldl put s) x (fold_sub t s x h)
theorem put_mem {s : List Nd × Bool} {n x : Nd} (h : x ∈ (put s n).1) : x ∈ s.1 ∨ x = n := by
  rcases put_grow s n with e | e <;> rw [e] at h
  · exact .inl h
  · rcases List.mem_append.1 h with h | h
    · exact .inl h
    · exact .inr (List.mem_singleton.1 h)
theorem fold_mem : ∀ (t : List Nd) {s : List Nd × Bool} {x : Nd}, x ∈ (t.foldl put s).1 → x ∈ s.1 ∨ x ∈ t
  | [], _, _, h => .inl h
  | n :: t, s, x, h => by
    rcases fold_mem t h with h | h
    · rcases put_mem h with h | h
      · exact .inl h
      · exact .inr (h ▸ List.mem_cons_self ..)
    · exact .inr (List.mem_cons_of_mem _ h)
theorem over_mem : ∀ (ts : List (List Nd)) {s : List Nd × Bool} {x : Nd}, x ∈ (over ts s).1 → x ∈ s.1 ∨ ∃ t ∈ ts, x ∈ t
  | [], _, _, h => .inl h
  | t :: ts, s, x, h => by
    rcases over_mem ts (s := t.foldl put s) h with h | ⟨u, hu, hx⟩
    · rcases fold_mem t h with h | h
      · exact .inl h
      · exact .inr ⟨t, List.mem_cons_self .., h⟩
    · exact .inr ⟨u, List.mem_cons_of_mem _ hu, hx⟩
/-- Of a tree whose nodes alone may be there all come to be there, and nothing collides. -/
theorem fold_tree_aux {t : List Nd} (ht : mayT t = true) (hd : (at_ t 0).f1 = 1) : ∀ (f j : Nat) (s : List Nd × Bool), j + f = t.length → Ok t j s → (∀ x ∈ s.1, x ∈ t) → (∀ n ∈ t.take j, n ∈ s.1) →
    ((t.drop j).foldl put s).2 = s.2 ∧ (∀ x, x ∈ ((t.drop j).foldl put s).1 ↔ x ∈ t) := by
  intro f
  have hp := tree_pinv ht hd
  induction f with
  | zero =>
    intro j s hj ho hs hn
    rw [List.drop_of_length_le (by omega)]
    rw [List.take_of_length_le (by omega)] at hn
    exact ⟨rfl, fun x => ⟨hs x, hn x⟩⟩
  | succ f ih =>
    intro j s hj ho hs hn
    have hjl : j < t.length := by omega
    rw [drop_at t j hjl, List.foldl_cons]
    have hm := at_mem hjl
    have h1 : (put s (at_ t j)).2 = s.2 ∧ (∀ x ∈ (put s (at_ t j)).1, x ∈ t) ∧ at_ t j ∈ (put s (at_ t j)).1 := by
      rcases put_cases s (at_ t j) with ⟨x, hx, hxe, e⟩ | ⟨hno, hb, e⟩ | ⟨hno, hb, e⟩ <;> rw [e]
      · have hxn : x = at_ t j := hp.inj (hs x hx) hm hxe
        subst hxn
        exact ⟨by show (s.2 || !eqN (at_ t j) (at_ t j)) = s.2; rw [eqN_self]; simp, hs, hx⟩
      · exfalso
        have hf := hp.free _ _ hm (Nat.le_refl _)
        obtain ⟨y, hy, hy1⟩ := blk_iff.1 hb
        rw [(blk_iff (s := t)).2 ⟨y, hs y hy, hy1⟩] at hf
        cases hf
      · refine ⟨rfl, fun x hx => ?_, by simp⟩
        rcases List.mem_append.1 hx with hx | hx
        · exact hs x hx
        · rw [List.mem_singleton.1 hx]; exact hm
    have := ih (j + 1) (put s (at_ t j)) (by omega) (ho.step ht hjl) h1.2.1 (fun n hn' => by
      rw [take_succ_at t j hjl] at hn'
      rcases List.mem_append.1 hn' with hn' | hn'
      · exact put_sub _ _ _ (hn n hn')
      · rw [List.mem_singleton.1 hn']; exact h1.2.2)
    exact ⟨this.1.trans h1.1, this.2⟩
theorem fold_tree {t : List Nd} (ht : mayT t = true) (hd : (at_ t 0).f1 = 1) {s : List Nd × Bool} (h : PInv s.1) (hs : ∀ x ∈ s.1, x ∈ t) : (t.foldl put s).2 = s.2 ∧ ∀ x, x ∈ (t.foldl put s).1 ↔ x ∈ t := by
  have := fold_tree_aux ht hd t.length 0 s (by omega) (Ok.zero h) hs (fun n hn => by simp at hn)
  rw [List.drop_zero] at this
  exact this
theorem root_fold {t : List Nd} (ht : mayT t = true) (hd : (at_ t 0).f1 = 1) : (t.foldl put ([root0], false)).2 = false ∧ ∀ x, x ∈ (t.foldl put ([root0], false)).1 ↔ x ∈ t :=
  fold_tree ht hd (s := ([root0], false)) root_inv (fun x hx => by rw [List.mem_singleton.1 hx]; exact (tree_root ht hd).1)
/-- A tree over itself. -/
theorem twice_pile {t : List Nd} (ht : mayT t = true) (hd : (at_ t 0).f1 = 1) : (pileOf [t, t]).2 = false ∧ (∀ x, x ∈ (pileOf [t, t]).1 ↔ x ∈ t) ∧ PInv (pileOf [t, t]).1 := by
  obtain ⟨h1, h2⟩ := root_fold ht hd
  have h3 : PInv (t.foldl put ([root0], false)).1 := tree_inv ht root_inv
  have h4 : pileOf [t, t] = t.foldl put ([root0], false) := by
    show t.foldl put (t.foldl put ([root0], false)) = _
    exact fold_in h3 (fun n hn => (h2 n).2 hn)
  rw [h4]
  exact ⟨h1, h2, h3⟩
theorem sort_eq {s t Z : List Nd} (hs : PInv s) (ht : mayT t = true) (he : ∀ x, x ∈ s ↔ x ∈ t) (hU : Up Z) (hS : Same Z s) : Z = t := by
  have hc := (mayT_char t).1 ht
  exact up_same Z t hU (Up_of hc.2.2.2.1) (hS.trans (same_of hs.uni (uni_up hc.2.2.2.1) he))
theorem len_eq {s t : List Nd} (hs : Uni s) (ht : Uni t) (he : ∀ x, x ∈ s ↔ x ∈ t) : s.length = t.length := by
  have n1 : s.Nodup := hs.imp (fun h e => h (by rw [e]))
  have n2 : t.Nodup := ht.imp (fun h e => h (by rw [e]))
  exact Nat.le_antisymm (n1.length_le_of_subset (fun x hx => (he x).1 hx)) (n2.length_le_of_subset (fun x hx => (he x).2 hx))
theorem twice_uni {t Z : List Nd} {pol : Int} (hpol : pol = 0 ∨ pol = 1) (ht : mayT t = true) (hd : (at_ t 0).f1 = 1) (hU : Up Z) (hS : Same Z (pileOf [t, t]).1) : uni pol [t, t] Z = (t, 0) := by
  obtain ⟨h1, h2, h3⟩ := twice_pile ht hd
  have hc := (mayT_char t).1 ht
  have hl := len_eq h3.uni (uni_up hc.2.2.2.1) h2
  unfold uni
  rw [if_neg (by omega), if_pos ((okT_cons _ _).2 ⟨⟨ht, hd⟩, (okT_cons _ _).2 ⟨⟨ht, hd⟩, rfl⟩⟩)]
  unfold finU
  rw [if_neg (by rw [h1]; simp), if_neg (by rw [hl]; omega), sort_eq h3 ht h2 hU hS]
end Go.Proofs.YtiamdmlbhmgnjaaDoor.UnionSet
/- Where nothing collides the order of trees does not matter. -/
namespace Go.Proofs.YtiamdmlbhmgnjaaDoor.UnionConf
open Go.RowKit Go.Proofs.YtiamdmlbhmgnjaaDoorX Go.Proofs.YtiamdmlbhmgnjaaDoorW.PrintWords Go.Proofs.YtiamdmlbhmgnjaaDoorW.PrintLast Go.Proofs.YtiamdmlbhmgnjaaDoorW.PrintMore Go.Proofs.YtiamdmlbhmgnjaaDoor.P Go.Proofs.YtiamdmlbhmgnjaaDoor.Pa Go.Proofs.YtiamdmlbhmgnjaaDoor.PaTh Go.Proofs.YtiamdmlbhmgnjaaDoor.TreeTh Go.Proofs.YtiamdmlbhmgnjaaDoor.TreeUp Go.Proofs.YtiamdmlbhmgnjaaDoor.PartsTh Go.Proofs.YtiamdmlbhmgnjaaDoor.TreeChar Go.Proofs.YtiamdmlbhmgnjaaDoor.UnionPut Go.Proofs.YtiamdmlbhmgnjaaDoor.UnionSet
open Go.Proofs.YtiamdmlbhmgnjaaDoor.SortAll (Up Same up_same)
set_option linter.unusedVariables false
set_option linter.unusedSimpArgs false
/-- Nodes of which none collides with another. -/
def Ok2 (A : Nd → Prop) : Prop := ∀ x y, A x → A y → (L x.f0 = L y.f0 → x = y) ∧ (x.f1 ≠ 1 → ¬ L x.f0 ++ [47] <+: L y.f0)
theorem pinv_ok2 {s : List Nd} (h : PInv s) : Ok2 (· ∈ s) := by
  intro x y hx hy
  refine ⟨h.inj hx hy, fun hk hp => ?_⟩
  have := h.free _ y hy (Nat.le_refl _)
  rw [blk_iff.2 ⟨x, hx, hk, hp⟩] at this
  cases this
theorem put_false {s : List Nd × Bool} {n : Nd} (h : (put s n).2 = false) : s.2 = false ∧ n ∈ (put s n).1 := by
  have h0 : s.2 = false := by
    cases e : s.2
    · rfl
    · rw [put_clash e n] at h; cases h
  refine ⟨h0, ?_⟩
  rcases put_cases s n with ⟨x, hx, hxe, e⟩ | ⟨_, _, e⟩ | ⟨_, _, e⟩ <;> rw [e] at h ⊢
  · have h1 : (s.2 || !eqN x n) = false := h
    rw [h0, Bool.false_or, Bool.not_eq_false', eqN_iff] at h1
    exact h1 ▸ hx
  · cases h
  · simp
theorem fold_false : ∀ (t : List Nd) {s : List Nd × Bool}, (t.foldl put s).2 = false → s.2 = false ∧ ∀ n ∈ t, n ∈ (t.foldl put s).1
  | [], _, h => ⟨h, fun n hn => by cases hn⟩
  | n :: t, s, h => by
    obtain ⟨h1, h2⟩ := fold_false t (s := put s n) h
    obtain ⟨h3, h4⟩ := put_false h1
    refine ⟨h3, fun m hm => ?_⟩
    rcases List.mem_cons.1 hm with e | hm
    · rw [e]; exact fold_sub t _ _ h4
    · exact h2 m hm
theorem over_false : ∀ (ts : List (List Nd)) {s : List Nd × Bool}, (over ts s).2 = false → s.2 = false ∧ ∀ t ∈ ts, ∀ n ∈ t, n ∈ (over ts s).1
  | [], _, h => ⟨h, fun t ht => by cases ht⟩
  | t :: ts, s, h => by
    obtain ⟨h1, h2⟩ := over_false ts (s := t.foldl put s) h
    obtain ⟨h3, h4⟩ := fold_false t h1
    refine ⟨h3, fun u hu n hn => ?_⟩
    rcases List.mem_cons.1 hu with e | hu
    · rw [e] at hn; exact over_sub ts _ _ (h4 n hn)
    · exact h2 u hu n hn
theorem put_ok {A : Nd → Prop} (hA : Ok2 A) {s : List Nd × Bool} {n : Nd} (hs : ∀ x ∈ s.1, A x) (hn : A n) (h0 : s.2 = false) : (put s n).2 = false ∧ ∀ x ∈ (put s n).1, A x := by
  refine ⟨?_, fun x hx => ?_⟩
  · rcases put_cases s n with ⟨x, hx, hxe, e⟩ | ⟨_, hb, e⟩ | ⟨_, _, e⟩ <;> rw [e]
    · rw [(hA x n (hs x hx) hn).1 hxe]
      show (s.2 || !eqN n n) = false
      rw [eqN_self, h0]; rfl
    · obtain ⟨y, hy, h1, h2⟩ := blk_iff.1 hb
      exact absurd h2 ((hA y n (hs y hy) hn).2 h1)
    · exact h0
  · rcases put_mem hx with h | h
    · exact hs x h
    · rw [h]; exact hn
theorem fold_ok {A : Nd → Prop} (hA : Ok2 A) : ∀ (t : List Nd) {s : List Nd × Bool}, (∀ x ∈ s.1, A x) → (∀ n ∈ t, A n) → s.2 = false → (t.foldl put s).2 = false ∧ ∀ x ∈ (t.foldl put s).1, A x
  | [], _, hs, _, h0 => ⟨h0, hs⟩
  | n :: t, s, hs, hn, h0 => by
    obtain ⟨h1, h2⟩ := put_ok hA hs (hn n (List.mem_cons_self ..)) h0
    exact fold_ok hA t h2 (fun m hm => hn m (List.mem_cons_of_mem _ hm)) h1
theorem over_ok {A : Nd → Prop} (hA : Ok2 A) : ∀ (ts : List (List Nd)) {s : List Nd × Bool}, (∀ x ∈ s.1, A x) → (∀ t ∈ ts, ∀ n ∈ t, A n) → s.2 = false → (over ts s).2 = false
  | [], _, _, _, h0 => h0
  | t :: ts, s, hs, hn, h0 => by
    obtain ⟨h1, h2⟩ := fold_ok hA t hs (fun n hm => hn t (List.mem_cons_self ..) n hm) h0
    exact over_ok hA ts h2 (fun u hu n hm => hn u (List.mem_cons_of_mem _ hu) n hm) h1
theorem pile_inv {ts : List (List Nd)} (ho : okT ts = true) : PInv (pileOf ts).1 := over_inv ts _ ho root_inv
/-- What came of trees that do not collide. -/
theorem pile_mem {ts : List (List Nd)} (h : (pileOf ts).2 = false) (x : Nd) : x ∈ (pileOf ts).1 ↔ x = root0 ∨ ∃ t ∈ ts, x ∈ t := by
  obtain ⟨_, h2⟩ := over_false ts h
  constructor
  · intro hx
    rcases over_mem ts hx with h | h
    · exact .inl (by simpa using h)
    · exact .inr h
  · rintro (rfl | ⟨t, ht, hx⟩)
    · exact over_sub ts _ _ (by simp)
    · exact h2 t ht x hx
theorem pile_false {ts us : List (List Nd)} (ho : okT ts = true) (hs : ∀ t, t ∈ us → t ∈ ts) (h : (pileOf ts).2 = false) : (pileOf us).2 = false := by
  have hA := pinv_ok2 (pile_inv ho)
  refine over_ok hA us (fun x hx => ?_) (fun t ht n hn => ?_) rfl
  · exact (pile_mem h x).2 (.inl (by simpa using hx))
  · exact (pile_mem h n).2 (.inr ⟨t, hs t ht, hn⟩)
theorem okT_mem {ts us : List (List Nd)} (hs : ∀ t, t ∈ us → t ∈ ts) (h : okT ts = true) : okT us = true := by
  unfold okT at h ⊢
  exact List.all_eq_true.2 (fun t ht => List.all_eq_true.1 h t (hs t ht))
/-- The order of trees does not matter. -/
theorem uni_order {ts us : List (List Nd)} {Z Z' : List Nd} (hs : ∀ t, t ∈ us ↔ t ∈ ts) (hU : Up Z) (hS : Same Z (pileOf ts).1) (hU' : Up Z') (hS' : Same Z' (pileOf us).1) : uni 0 us Z' = uni 0 ts Z := by
  unfold uni
  have h0 : ¬ ((0 : Int) ≠ 0 ∧ (0 : Int) ≠ 1) := fun h => h.1 rfl
  rw [if_neg h0, if_neg h0]
  by_cases ho : okT ts = true
  rotate_left
  · rw [if_neg ho, if_neg (fun h => ho (okT_mem (fun t ht => (hs t).2 ht) h))]
  have ho' := okT_mem (fun t ht => (hs t).1 ht) ho
  rw [if_pos ho, if_pos ho']
  unfold finU
  by_cases hc : (pileOf ts).2 = true
  · have hc' : (pileOf us).2 = true := by
      cases e : (pileOf us).2
      · rw [pile_false ho' (fun t ht => (hs t).2 ht) e] at hc; cases hc
      · rfl
    rw [if_pos ⟨rfl, hc'⟩, if_pos ⟨rfl, hc⟩]
  · have hf : (pileOf ts).2 = false := by simpa using hc
    have hf' := pile_false ho (fun t ht => (hs t).1 ht) hf
    have he : ∀ x, x ∈ (pileOf us).1 ↔ x ∈ (pileOf ts).1 := fun x => by
      rw [pile_mem hf, pile_mem hf']
      exact ⟨fun h => h.imp id (fun ⟨t, h1, h2⟩ => ⟨t, (hs t).1 h1, h2⟩), fun h => h.imp id (fun ⟨t, h1, h2⟩ => ⟨t, (hs t).2 h1, h2⟩)⟩
    have hl := len_eq (pile_inv ho').uni (pile_inv ho).uni he
    have hz : Z' = Z := up_same Z' Z hU' hU (hS'.trans ((same_of (pile_inv ho').uni (pile_inv ho).uni he).trans hS.symm))
    have hn : ¬ ((0 : Int) = 0 ∧ (pileOf us).2 = true) := fun h => by rw [hf'] at h; cases h.2
    have hn' : ¬ ((0 : Int) = 0 ∧ (pileOf ts).2 = true) := fun h => hc h.2
    rw [if_neg hn, if_neg hn', hl, hz]
end Go.Proofs.YtiamdmlbhmgnjaaDoor.UnionConf
/- Trees put over one another in two steps come to what they come to in one. -/
namespace Go.Proofs.YtiamdmlbhmgnjaaDoor.UnionTwoStep
open Go.RowKit Go.Proofs.YtiamdmlbhmgnjaaDoorX Go.Proofs.YtiamdmlbhmgnjaaDoorW.PrintWords Go.Proofs.YtiamdmlbhmgnjaaDoorW.PrintLast Go.Proofs.YtiamdmlbhmgnjaaDoorW.PrintMore Go.Proofs.YtiamdmlbhmgnjaaDoor.P Go.Proofs.YtiamdmlbhmgnjaaDoor.Pa Go.Proofs.YtiamdmlbhmgnjaaDoor.PaTh Go.Proofs.YtiamdmlbhmgnjaaDoor.TreeTh Go.Proofs.YtiamdmlbhmgnjaaDoor.TreeUp Go.Proofs.YtiamdmlbhmgnjaaDoor.PartsTh Go.Proofs.YtiamdmlbhmgnjaaDoor.TreeChar Go.Proofs.YtiamdmlbhmgnjaaDoor.UnionPut Go.Proofs.YtiamdmlbhmgnjaaDoor.UnionSet Go.Proofs.YtiamdmlbhmgnjaaDoor.UnionConf
open Go.Proofs.YtiamdmlbhmgnjaaDoor.SortAll (Up Same up_same)
set_option linter.unusedVariables false
set_option linter.unusedSimpArgs false
abbrev Eqv (s t : List Nd) : Prop := ∀ x, x ∈ s ↔ x ∈ t
theorem lk_eqv {s t : List Nd} (hs : PInv s) (ht : PInv t) (he : Eqv s t) (p : List UInt8) : lk s p = lk t p := by
  cases h1 : lk s p with
  | none =>
    cases h2 : lk t p with
    | none => rfl
    | some y =>
      obtain ⟨h3, h4⟩ := lk_some h2
      exact absurd h4 (lk_none.1 h1 y ((he y).2 h3))
  | some x =>
    obtain ⟨h3, h4⟩ := lk_some h1
    rw [← h4, ht.lk_mem ((he x).1 h3)]
theorem blk_eqv {s t : List Nd} (he : Eqv s t) (p : List UInt8) : blk s p = blk t p := by
  rw [Bool.eq_iff_iff, blk_iff, blk_iff]
  exact ⟨fun ⟨x, h1, h2⟩ => ⟨x, (he x).1 h1, h2⟩, fun ⟨x, h1, h2⟩ => ⟨x, (he x).2 h1, h2⟩⟩
theorem put_eqv {s t : List Nd × Bool} (hs : PInv s.1) (ht : PInv t.1) (he : Eqv s.1 t.1) (n : Nd) : Eqv (put s n).1 (put t n).1 ∧ (s.2 = t.2 → (put s n).2 = (put t n).2) := by
  unfold put
  rw [lk_eqv hs ht he, blk_eqv he]
  cases lk t.1 (L n.f0) with
  | some x => exact ⟨he, fun h => by show (s.2 || !eqN x n) = (t.2 || !eqN x n); rw [h]⟩
  | none =>
    show Eqv (if blk t.1 (L n.f0) = true then (s.1, true) else (s.1 ++ [n], s.2)).1 (if blk t.1 (L n.f0) = true then (t.1, true) else (t.1 ++ [n], t.2)).1 ∧ (s.2 = t.2 → (if blk t.1 (L n.f0) = true then (s.1, true) else (s.1 ++ [n], s.2)).2 = (if blk t.1 (L n.f0) = true then (t.1, true) else (t.1 ++ [n], t.2)).2)
    by_cases hb : blk t.1 (L n.f0) = true
    · rw [if_pos hb, if_pos hb]; exact ⟨he, fun _ => rfl⟩
    · rw [if_neg hb, if_neg hb]
      exact ⟨fun x => by rw [List.mem_append, List.mem_append, he x], fun h => h⟩
theorem fold_eqv_aux {u : List Nd} (hu : mayT u = true) : ∀ (f j : Nat) (s t : List Nd × Bool), j + f = u.length → Ok u j s → Ok u j t → Eqv s.1 t.1 →
    Eqv ((u.drop j).foldl put s).1 ((u.drop j).foldl put t).1 ∧ (s.2 = t.2 → ((u.drop j).foldl put s).2 = ((u.drop j).foldl put t).2) := by
  intro f
  induction f with
  | zero =>
    intro j s t hj hs ht he
    rw [List.drop_of_length_le (by omega)]
    exact ⟨he, fun h => h⟩
  | succ f ih =>
    intro j s t hj hs ht he
    have hjl : j < u.length := by omega
    rw [drop_at u j hjl, List.foldl_cons, List.foldl_cons]
    obtain ⟨h1, h2⟩ := put_eqv hs.1 ht.1 he (at_ u j)
    obtain ⟨h3, h4⟩ := ih (j + 1) _ _ (by omega) (hs.step hu hjl) (ht.step hu hjl) h1
    exact ⟨h3, fun h => h4 (h2 h)⟩
theorem over_eqv : ∀ (us : List (List Nd)) (s t : List Nd × Bool), okT us = true → PInv s.1 → PInv t.1 → Eqv s.1 t.1 → Eqv (over us s).1 (over us t).1 ∧ (s.2 = t.2 → (over us s).2 = (over us t).2)
  | [], _, _, _, _, _, he => ⟨he, fun h => h⟩
  | u :: us, s, t, ho, hs, ht, he => by
    obtain ⟨⟨hu, _⟩, ho'⟩ := (okT_cons u us).1 ho
    obtain ⟨h1, h2⟩ := fold_eqv_aux hu u.length 0 s t (by omega) (Ok.zero hs) (Ok.zero ht) he
    rw [List.drop_zero] at h1 h2
    obtain ⟨h3, h4⟩ := over_eqv us (u.foldl put s) (u.foldl put t) ho' (tree_inv hu hs) (tree_inv hu ht) h1
    exact ⟨h3, fun h => h4 (h2 h)⟩
theorem over_append (a b : List (List Nd)) (s : List Nd × Bool) : over (a ++ b) s = over b (over a s) := by
  unfold over; rw [List.foldl_append]
theorem sorted_root {s Z : List Nd} (h : PInv s) (ha : mayT Z = true) (hS : Same Z s) : (at_ Z 0).f1 = 1 := by
  have hc := (mayT_char Z).1 ha
  obtain ⟨x, hx, hx0⟩ := hc.2.2.2.2.1
  have h0 := root_first hc.2.2.2.1 hx hx0
  exact h.rootdir (hS.mem (at_mem (List.length_pos_iff.2 hc.1))) h0
/-- In two steps, or in one. -/
theorem two_step {ts us : List (List Nd)} {pol : Int} {A Z Z' : List Nd} (ho : okT (ts ++ us) = true) (hl : (pileOf (ts ++ us)).1.length ≤ 400) (hc : pol = 0 → (pileOf (ts ++ us)).2 = false) (hpol : pol = 0 ∨ pol = 1)
    (hUA : Up A) (hSA : Same A (pileOf ts).1) (hlA : A.length = (pileOf ts).1.length) (hU : Up Z) (hS : Same Z (pileOf (ts ++ us)).1) (hU' : Up Z') (hS' : Same Z' (pileOf (A :: us)).1) :
    uni pol (A :: us) Z' = (Z, 0) := by
  have hot : okT ts = true := okT_mem (fun t ht => List.mem_append_left _ ht) ho
  have hou : okT us = true := okT_mem (fun t ht => List.mem_append_right _ ht) ho
  have hi : PInv (pileOf ts).1 := pile_inv hot
  have e0 : pileOf (ts ++ us) = over us (pileOf ts) := over_append ts us _
  have hlt : (pileOf ts).1.length ≤ 400 := by
    have hn : (pileOf ts).1.Nodup := hi.uni.imp (fun h e => h (by rw [e]))
    have := hn.length_le_of_subset (fun x hx => by rw [e0]; exact over_sub us _ x hx : (pileOf ts).1 ⊆ (pileOf (ts ++ us)).1)
    omega
  have hA : mayT A = true := sorted_tree hi hlt hUA hSA hlA
  have hAd := sorted_root hi hA hSA
  obtain ⟨f1, f2⟩ := root_fold hA hAd
  have hiA : PInv (A.foldl put ([root0], false)).1 := tree_inv hA root_inv
  have heA : Eqv (pileOf ts).1 (A.foldl put ([root0], false)).1 := fun x => by rw [f2 x, same_mem hSA]
  obtain ⟨g1, g2⟩ := over_eqv us (pileOf ts) (A.foldl put ([root0], false)) hou hi hiA heA
  have e1 : pileOf (A :: us) = over us (A.foldl put ([root0], false)) := rfl
  have hi1 : PInv (pileOf (ts ++ us)).1 := pile_inv ho
  have ho2 : okT (A :: us) = true := (okT_cons _ _).2 ⟨⟨hA, hAd⟩, hou⟩
  have hi2 : PInv (pileOf (A :: us)).1 := pile_inv ho2
  rw [← e0, ← e1] at g1
  have hl2 := len_eq hi1.uni hi2.uni g1
  have hz : Z' = Z := up_same Z' Z hU' hU (hS'.trans ((same_of hi2.uni hi1.uni (fun x => (g1 x).symm)).trans hS.symm))
  unfold uni
  rw [if_neg (show ¬ (pol ≠ 0 ∧ pol ≠ 1) by omega), if_pos ho2]
  unfold finU
  have hn : ¬ (pol = 0 ∧ (pileOf (A :: us)).2 = true) := fun h => by
    have h0 := hc h.1
    have h3 : (pileOf ts).2 = false := by
      cases e : (pileOf ts).2
      · rfl
      · rw [e0, over_clash us e] at h0; cases h0
    rw [e1, ← g2 (h3.trans f1.symm), ← e0, h0] at h
    cases h.2
  rw [if_neg hn, if_neg (show ¬ 400 < (pileOf (A :: us)).1.length by omega), hz]
theorem bare_tree : mayT [root0] = true := by decide
/-- The root alone changes nothing. -/
theorem bare_pile {ts : List (List Nd)} (ho : okT ts = true) : okT ([root0] :: (ts ++ [[root0]])) = true ∧ pileOf ([root0] :: (ts ++ [[root0]])) = pileOf ts := by
  have hb : okT [[root0]] = true := (okT_cons _ _).2 ⟨⟨bare_tree, rfl⟩, rfl⟩
  refine ⟨(okT_cons _ _).2 ⟨⟨bare_tree, rfl⟩, ?_⟩, ?_⟩
  · unfold okT at ho hb ⊢
    rw [List.all_append, ho, hb]; rfl
  · show over (ts ++ [[root0]]) ([root0].foldl put ([root0], false)) = _
    rw [fold_in (s := ([root0], false)) root_inv (fun n hn => hn), over_append]
    show [root0].foldl put (pileOf ts) = _
    exact fold_in (pile_inv ho) (fun n hn => by rw [List.mem_singleton.1 hn]; exact pinv_root (pile_inv ho))
theorem bare_uni {ts : List (List Nd)} {pol : Int} {Z Z' : List Nd} (ho : okT ts = true) (hl : (pileOf ts).1.length ≤ 400) (hc : pol = 0 → (pileOf ts).2 = false) (hpol : pol = 0 ∨ pol = 1) (hU : Up Z) (hS : Same Z (pileOf ts).1) (hU' : Up Z') (hS' : Same Z' (pileOf ([root0] :: (ts ++ [[root0]]))).1) :
    uni pol ([root0] :: (ts ++ [[root0]])) Z' = (Z, 0) := by
  obtain ⟨h1, h2⟩ := bare_pile ho
  rw [h2] at hS'
  have hz : Z' = Z := up_same Z' Z hU' hU (hS'.trans hS.symm)
  unfold uni
  rw [if_neg (show ¬ (pol ≠ 0 ∧ pol ≠ 1) by omega), if_pos h1, h2]
  unfold finU
  have hn : ¬ (pol = 0 ∧ (pileOf ts).2 = true) := fun h => by
    rw [hc h.1] at h
    cases h.2
  rw [if_neg hn, if_neg (show ¬ 400 < (pileOf ts).1.length by omega), hz]
end Go.Proofs.YtiamdmlbhmgnjaaDoor.UnionTwoStep
/- What union's laws ask first: whether trees are great, and what every program answers. -/
namespace Go.Proofs.YtiamdmlbhmgnjaaDoor.UnionLaw
open Go.RowKit Go.Proofs.YtiamdmlbhmgnjaaDoorX Go.Proofs.YtiamdmlbhmgnjaaDoorW.PrintWords Go.Proofs.YtiamdmlbhmgnjaaDoorW.PrintLast Go.Proofs.YtiamdmlbhmgnjaaDoorW.PrintMore Go.Proofs.YtiamdmlbhmgnjaaDoor.P Go.Proofs.YtiamdmlbhmgnjaaDoor.Pa Go.Proofs.YtiamdmlbhmgnjaaDoor.PaTh Go.Proofs.YtiamdmlbhmgnjaaDoor.TreeTh Go.Proofs.YtiamdmlbhmgnjaaDoor.UnionPut Go.Proofs.YtiamdmlbhmgnjaaDoor.UnionTh
set_option linter.unusedVariables false
set_option linter.unusedSimpArgs false
def great4 (ts : List (List Nd)) : Bool := decide (5 < ts.length) || ts.any (fun t => great t 30)
theorem great4_l0 (ts : List (List Nd)) (h5 : ts.length ≤ 5) (hl : ∀ t ∈ ts, t.length ≤ maxLen) : ∀ (f j k : Nat), j + f = ts.length → 3000 + 2 * f < k → hogsheadlaw4_great.l0 k ts (j : Int) = some ((ts.drop j).any (fun t => great t 30)) := by
  intro f
  induction f with
  | zero =>
    intro j k hj hk
    obtain ⟨k, rfl⟩ : ∃ m, k = m + 2 := ⟨k - 2, by omega⟩
    rw [hogsheadlaw4_great.l0, if_neg (by omega), hogsheadlaw4_great.j1, if_neg (by simp), List.drop_of_length_le (by omega), decide_eq_false (by omega)]; rfl
  | succ f ih =>
    intro j k hj hk
    obtain ⟨k, rfl⟩ : ∃ m, k = m + 2 := ⟨k - 2, by omega⟩
    have hj' : j < ts.length := by omega
    have h := hl ts[j] (List.getElem_mem hj')
    have h' : ts[j].length ≤ 9223372036854775807 := by unfold maxLen at h; exact h
    rw [hogsheadlaw4_great.l0, if_pos (by omega), hogsheadlaw4_great.j1, decide_eq_true (by omega), if_pos rfl, if_pos (by omega), if_pos (by omega), rdL_lt ts j hj', show (30 : Int) = ((30 : Nat) : Int) from rfl, great_f ts[j] 30 (by omega) h' k (by omega), some_bind, w_one j (by omega), ih (j + 1) k (by omega) (by omega), List.drop_eq_getElem_cons hj', List.any_cons]
    cases great ts[j] 30
    · rw [if_neg (by simp), Bool.false_or]
    · rw [if_pos rfl, Bool.true_or]
theorem great4_f (ts : List (List Nd)) (hl : ts.length ≤ maxLen ∧ ∀ y1 ∈ ts, y1.length ≤ maxLen ∧ ∀ y2 ∈ y1, (y2.f0.size ≤ maxLen) ∧ ((Lit.int .i64 y2.f1).wf = true) ∧ (y2.f2.size ≤ maxLen)) (k : Nat) (hk : 4000 ≤ k) : hogsheadlaw4_great.f k ts = some (great4 ts) := by
  unfold hogsheadlaw4_great.f great4
  by_cases h : ts.length ≤ 5
  · have := great4_l0 ts h (fun t ht => (hl.2 t ht).1) ts.length 0 k (by omega) (by omega)
    rw [List.drop_zero] at this
    rw [decide_eq_false (by omega), Bool.false_or]
    exact this
  · obtain ⟨k, rfl⟩ : ∃ m, k = m + 2 := ⟨k - 2, by omega⟩
    rw [hogsheadlaw4_great.l0, if_pos (by omega), hogsheadlaw4_great.j1, decide_eq_false (by omega), if_neg (by simp), decide_eq_true (by omega), decide_eq_true (by omega)]; rfl
theorem great4_not {ts : List (List Nd)} (h : ¬ great4 ts = true) : ts.length ≤ 5 ∧ ∀ t ∈ ts, t.length ≤ 30 := by
  unfold great4 at h
  rw [Bool.or_eq_true, not_or, decide_eq_true_iff] at h
  refine ⟨by omega, fun t ht => ?_⟩
  have h2 : ¬ great t 30 = true := fun e => h.2 (List.any_eq_true.2 ⟨t, ht, e⟩)
  exact (great_not h2).1
theorem awake_f (k : Nat) (hk : 2000 ≤ k) : hogsheadlaw4_awake.f k = some true := by
  have h : hogsheadlaw4_awake.f 2000 = some true := by decide +kernel
  exact at_rounds (g := fun k => hogsheadlaw4_awake.f k) hogsheadlaw4_awake.mono hk h
end Go.Proofs.YtiamdmlbhmgnjaaDoor.UnionLaw
/- The law UnionGroups in plain words: it answers true. -/
namespace Go.Proofs.YtiamdmlbhmgnjaaDoor.Pure
open Go.RowKit Go.Proofs.YtiamdmlbhmgnjaaDoorX Go.Proofs.YtiamdmlbhmgnjaaDoorW.PrintWords Go.Proofs.YtiamdmlbhmgnjaaDoorW.PrintLast Go.Proofs.YtiamdmlbhmgnjaaDoorW.PrintMore Go.Proofs.YtiamdmlbhmgnjaaDoor.P Go.Proofs.YtiamdmlbhmgnjaaDoor.Pa Go.Proofs.YtiamdmlbhmgnjaaDoor.PaTh Go.Proofs.YtiamdmlbhmgnjaaDoor.TreeTh Go.Proofs.YtiamdmlbhmgnjaaDoor.TreeUp Go.Proofs.YtiamdmlbhmgnjaaDoor.PartsTh Go.Proofs.YtiamdmlbhmgnjaaDoor.TreeChar Go.Proofs.YtiamdmlbhmgnjaaDoor.UnionPut Go.Proofs.YtiamdmlbhmgnjaaDoor.UnionTh Go.Proofs.YtiamdmlbhmgnjaaDoor.UnionSet Go.Proofs.YtiamdmlbhmgnjaaDoor.UnionConf Go.Proofs.YtiamdmlbhmgnjaaDoor.UnionTwoStep Go.Proofs.YtiamdmlbhmgnjaaDoor.UnionLaw
open Go.Proofs.YtiamdmlbhmgnjaaDoor.SortAll (Up Same sort_f)
set_option linter.unusedVariables false
set_option linter.unusedSimpArgs false
theorem low_f (x n : Int) (h : 1 ≤ n) (h' : n ≤ 4611686018427387904) : hogsheadlaw0_Low.f x n = some ((x % 18446744073709551616) % n) := by
  unfold hogsheadlaw0_Low.f
  exact Go.Proofs.YtiamdmlbhmgnjaaDoor.Bs.low_expr x n h h'
theorem uni_small {pol : Int} {us : List (List Nd)} {Z : List Nd} (hpol : pol = 0 ∨ pol = 1) (hl : (pileOf us).1.length ≤ 400) : uni pol us Z = if okT us = true then (if pol = 0 ∧ (pileOf us).2 = true then ([], 9) else (Z, 0)) else ([], 7) := by
  unfold uni
  rw [if_neg (show ¬ (pol ≠ 0 ∧ pol ≠ 1) by omega)]
  unfold finU
  rw [if_neg (show ¬ 400 < (pileOf us).1.length by omega)]
theorem pile_le {us : List (List Nd)} {n m : Nat} (h1 : us.length ≤ n) (h2 : ∀ t ∈ us, t.length ≤ m) : (pileOf us).1.length ≤ 1 + n * m :=
  Nat.le_trans (over_len m us ([root0], false) h2) (Nat.add_le_add (by decide : [root0].length ≤ 1) (Nat.mul_le_mul_right m h1))
theorem UnionGroups : hogsheadlaw4_UnionGroups.Pure := by
  intro ts a1 a2 hl _
  refine ⟨1200000001, ?_⟩
  unfold hogsheadlaw4_UnionGroups.f
  rw [great4_f ts hl _ (by omega), some_bind]
  by_cases hg : great4 ts = true
  · rw [if_pos hg, awake_f _ (by omega), some_bind]
  rw [if_neg hg]
  obtain ⟨h5, h30⟩ := great4_not hg
  have hp1 := pile_le h5 h30
  obtain ⟨Z, z1, z2, z3, z4⟩ := sort_f (pileOf ts).1 (by omega) 1000000000 (by omega)
  have main : ∀ pol : Int, pol = 0 ∨ pol = 1 → hogsheadlaw4_UnionGroups.j0 1200000001 ts a1 pol = some true := by
    intro pol hpol
    have hlow : ∃ m : Nat, m ≤ ts.length ∧ hogsheadlaw0_Low.f a1 (wrap64 ((ts.length : Int) + 1)) = some (m : Int) := by
      rw [wrap_in (by omega) (by omega), low_f a1 _ (by omega) (by omega)]
      have h1 := Int.emod_nonneg (a1 % 18446744073709551616) (show (ts.length : Int) + 1 ≠ 0 by omega)
      have h2 := Int.emod_lt_of_pos (a1 % 18446744073709551616) (show (0 : Int) < (ts.length : Int) + 1 by omega)
      exact ⟨((a1 % 18446744073709551616) % ((ts.length : Int) + 1)).toNat, by omega, congrArg some (by omega)⟩
    obtain ⟨m, hm, hlow⟩ := hlow
    have ht5 : (ts.take m).length ≤ 5 := by rw [List.length_take]; omega
    have ht30 : ∀ t ∈ ts.take m, t.length ≤ 30 := fun t ht => h30 t (List.mem_of_mem_take ht)
    have hp2 := pile_le ht5 ht30
    obtain ⟨Y, y1, y2, y3, y4⟩ := sort_f (pileOf (ts.take m)).1 (by omega) 1000000000 (by omega)
    have hsp : ts.take m ++ ts.drop m = ts := List.take_append_drop m ts
    have hof1 : ∀ k, 1001000000 ≤ k → union_Of.f k pol ts = some (uni pol ts Z) := fun k hk => of_f (by omega) (fun t h => Nat.le_trans (h30 t h) (by omega)) z1 k hk
    have hof2 : ∀ k, 1001000000 ≤ k → union_Of.f k pol (ts.take m) = some (uni pol (ts.take m) Y) := fun k hk => of_f (by omega) (fun t h => Nat.le_trans (ht30 t h) (by omega)) y1 k hk
    show hogsheadlaw4_UnionGroups.j0 (1200000000 + 1) ts a1 pol = some true
    rw [hogsheadlaw4_UnionGroups.j0, hlow, some_bind, hof1 _ (by omega), some_bind, if_pos (by omega), if_pos (by omega), Int.toNat_natCast, hof2 _ (by omega), some_bind, uni_small hpol (by omega), uni_small hpol (by omega)]
    by_cases he : okT ts = true ∧ ¬ (pol = 0 ∧ (pileOf ts).2 = true)
    rotate_left
    · have e1 : (if okT ts = true then (if pol = 0 ∧ (pileOf ts).2 = true then (([] : List Nd), (9 : Int)) else (Z, 0)) else ([], 7)) = ([], 9) ∨ (if okT ts = true then (if pol = 0 ∧ (pileOf ts).2 = true then (([] : List Nd), (9 : Int)) else (Z, 0)) else ([], 7)) = ([], 7) := by
        by_cases ho : okT ts = true
        · rw [if_pos ho]
          by_cases hc : pol = 0 ∧ (pileOf ts).2 = true
          · rw [if_pos hc]; exact .inl rfl
          · exact absurd ⟨ho, hc⟩ he
        · rw [if_neg ho]; exact .inr rfl
      rcases e1 with e1 | e1
      · rw [e1, if_neg (by decide)]
        show hogsheadlaw4_UnionGroups.j1 (1199999999 + 1) ts (m : Int) pol [] 9 _ _ true = some true
        rw [hogsheadlaw4_UnionGroups.j1, if_pos rfl, if_neg (by decide), if_pos (by rfl), awake_f _ (by omega), some_bind]
      · rw [e1, if_neg (by decide)]
        show hogsheadlaw4_UnionGroups.j1 (1199999999 + 1) ts (m : Int) pol [] 7 _ _ true = some true
        rw [hogsheadlaw4_UnionGroups.j1, if_pos rfl, if_neg (by decide), if_pos (by rfl), awake_f _ (by omega), some_bind]
    obtain ⟨ho, hc⟩ := he
    have hot : okT (ts.take m) = true := okT_mem (fun t ht => List.mem_of_mem_take ht) ho
    have hct : ¬ (pol = 0 ∧ (pileOf (ts.take m)).2 = true) := fun h => hc ⟨h.1, by
      have : pileOf ts = over (ts.drop m) (pileOf (ts.take m)) := by
        show over ts _ = over (ts.drop m) (over (ts.take m) _)
        rw [← over_append (ts.take m) (ts.drop m), hsp]
      rw [this]
      exact over_clash _ h.2⟩
    rw [if_pos ho, if_neg hc, if_pos hot, if_neg hct, if_pos rfl]
    have hcf : pol = 0 → (pileOf ts).2 = false := fun h0 => by
      cases e : (pileOf ts).2
      · rfl
      · exact absurd ⟨h0, e⟩ hc
    have hYl : Y.length ≤ 151 := by omega
    have hu6 : (Y :: ts.drop m).length ≤ 6 := by rw [List.length_cons, List.length_drop]; omega
    have hu151 : ∀ t ∈ Y :: ts.drop m, t.length ≤ 151 := fun t ht => by
      rcases List.mem_cons.1 ht with e | ht
      · rw [e]; exact hYl
      · exact Nat.le_trans (h30 t (List.mem_of_mem_drop ht)) (by omega)
    have hp3 := pile_le hu6 hu151
    obtain ⟨X, x1, x2, x3, x4⟩ := sort_f (pileOf (Y :: ts.drop m)).1 (by omega) 1000000000 (by omega)
    have hb7 : ([root0] :: (ts ++ [[root0]])).length ≤ 7 := by rw [List.length_cons, List.length_append, List.length_singleton]; omega
    have hb30 : ∀ t ∈ [root0] :: (ts ++ [[root0]]), t.length ≤ 30 := fun t ht => by
      rcases List.mem_cons.1 ht with e | ht
      · rw [e]; decide
      · rcases List.mem_append.1 ht with ht | ht
        · exact h30 t ht
        · rw [List.mem_singleton.1 ht]; decide
    have hp4 := pile_le hb7 hb30
    obtain ⟨V, v1, v2, v3, v4⟩ := sort_f (pileOf ([root0] :: (ts ++ [[root0]]))).1 (by omega) 1000000000 (by omega)
    have hw : uni pol (Y :: ts.drop m) X = (Z, 0) := by
      refine two_step (ts := ts.take m) (us := ts.drop m) (by rw [hsp]; exact ho) (by rw [hsp]; omega) (by rw [hsp]; exact hcf) hpol y2 y3 y4 z2 (by rw [hsp]; exact z3) x2 x3
    have hv : uni pol ([root0] :: (ts ++ [[root0]])) V = (Z, 0) := bare_uni ho (by omega) hcf hpol z2 z3 v2 v3
    have hcons : ∀ k, 1001000000 ≤ k → union_Cons.f k pol Y (ts.drop m) = some (Z, 0) := fun k hk => by
      unfold union_Cons.f
      rw [if_pos (by rw [List.length_drop]; omega), of_f (by omega) (fun t h => Nat.le_trans (hu151 t h) (by omega)) x1 k hk, hw]
    have hbare : ∀ k, 1001000000 ≤ k → union_Bare.f k pol [root0] ts = some (Z, 0) := fun k hk => by
      unfold union_Bare.f
      rw [if_pos (by omega), of_f (by omega) (fun t h => Nat.le_trans (hb30 t h) (by omega)) v1 k hk, hv]
    show hogsheadlaw4_UnionGroups.j1 (1199999999 + 1) ts (m : Int) pol Z 0 Y 0 false = some true
    rw [hogsheadlaw4_UnionGroups.j1, if_neg (by simp), if_pos (by omega), if_pos (by omega), Int.toNat_natCast, hcons _ (by omega), some_bind]
    show (union_Bare.f 1199999999 pol [root0] ts).bind _ = some true
    rw [hbare _ (by omega), some_bind, if_pos rfl, sameN_f Z Z (by omega) _ (by omega), some_bind, if_pos (sameN_self _), if_pos rfl, some_bind, if_pos (sameN_self _), awake_f _ (by omega), some_bind]
  cases a2
  · rw [if_neg (by simp)]; exact main 0 (.inl rfl)
  · rw [if_pos rfl]; exact main 1 (.inr rfl)
end Go.Proofs.YtiamdmlbhmgnjaaDoor.Pure
