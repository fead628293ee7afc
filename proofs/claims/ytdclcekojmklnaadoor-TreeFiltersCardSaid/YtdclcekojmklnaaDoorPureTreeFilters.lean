/- The plain law behind TreeFilters. -/
import Derived.Test.YtdclcekojmklnaaDoorTreeTh
import Derived.Test.YtdclcekojmklnaaDoorBs
namespace Go.Proofs.YtdclcekojmklnaaDoor.Pure
open Go.RowKit Go.Proofs.YtdclcekojmklnaaDoorX Go.Proofs.YtdclcekojmklnaaDoorW.PrintWords Go.Proofs.YtdclcekojmklnaaDoorW.PrintLast Go.Proofs.YtdclcekojmklnaaDoorW.PrintMore Go.Proofs.YtdclcekojmklnaaDoor.P Go.Proofs.YtdclcekojmklnaaDoor.Pa Go.Proofs.YtdclcekojmklnaaDoor.PaTh Go.Proofs.YtdclcekojmklnaaDoor.TreeTh
set_option linter.unusedVariables false
set_option linter.unusedSimpArgs false
set_option maxRecDepth 100000 in
theorem awake_2000 : hogsheadlaw2_awake.f 2000 = some true := by decide +kernel
theorem awake_f (k : Nat) (hk : 2000 ≤ k) : hogsheadlaw2_awake.f k = some true := at_rounds (g := fun k => hogsheadlaw2_awake.f k) hogsheadlaw2_awake.mono hk awake_2000
theorem low_f (x n : Int) (h : 1 ≤ n) (h' : n ≤ 4611686018427387904) : hogsheadlaw0_Low.f x n = some ((x % 18446744073709551616) % n) := by
  unfold hogsheadlaw0_Low.f
  exact Go.Proofs.YtdclcekojmklnaaDoor.Bs.low_expr x n h h'
/-- The nodes of a kind. -/
def ofK (c : Int) (t : List Nd) : List Nd := t.filter (fun x => x.f1 == c)
theorem is_l0 (c : Int) (t : List Nd) (ht : t.length ≤ 1000) : ∀ (f j k n : Nat) (out : List Nd), j + f = t.length → f < k → out.length ≤ j → n + f ≤ 1000000 → tree_FilterIs.l0 k out t (t.length : Int) (j : Int) c (n : Int) = some (out ++ ofK c (t.drop j), c, ((n + f : Nat) : Int)) := by
  intro f
  induction f with
  | zero =>
    intro j k n out hj hk ho hn
    obtain ⟨k, rfl⟩ : ∃ m, k = m + 1 := ⟨k - 1, by omega⟩
    rw [tree_FilterIs.l0, if_neg (by omega), List.drop_of_length_le (by omega)]
    unfold ofK
    rw [List.filter_nil, List.append_nil]; rfl
  | succ f ih =>
    intro j k n out hj hk ho hn
    obtain ⟨k, rfl⟩ : ∃ m, k = m + 1 := ⟨k - 1, by omega⟩
    have hjl : j < t.length := by omega
    have e : n + (f + 1) = n + 1 + f := by omega
    have hd : ofK c (t.drop j) = if ((at_ t j).f1 == c) = true then at_ t j :: ofK c (t.drop (j + 1)) else ofK c (t.drop (j + 1)) := by
      unfold ofK
      rw [List.drop_eq_getElem_cons hjl, List.filter_cons, ← at_lt t j hjl]
    rw [tree_FilterIs.l0, if_pos (by omega), if_pos (by omega), if_pos (by omega), rdN]
    unfold hogsheadlaw2_Kinds_Is.f
    rw [some_bind, w_one j (by omega), w_one n (by omega), hd, e]
    show (if ((at_ t j).f1 == c) = true then _ else _) = _
    cases ((at_ t j).f1 == c)
    · rw [if_neg (by simp), if_neg (by simp)]
      exact ih (j + 1) k (n + 1) out (by omega) (by omega) (by omega) (by omega)
    · rw [if_pos rfl, if_pos rfl, if_pos (by omega), Nd_eta]
      have := ih (j + 1) k (n + 1) (out ++ [at_ t j]) (by omega) (by omega) (by rw [List.length_append, List.length_singleton]; omega) (by omega)
      rw [List.append_assoc] at this
      exact this
theorem is_f (c : Int) (t : List Nd) (ht : t.length ≤ 1000) (n k : Nat) (hn : n ≤ 1000) (hk : 1001 ≤ k) : tree_FilterIs.f k t c (n : Int) = some (ofK c t, c, ((n + t.length : Nat) : Int)) := by
  unfold tree_FilterIs.f
  have := is_l0 c t ht t.length 0 k n [] (by omega) (by omega) (by simp) (by omega)
  rw [List.drop_zero, List.nil_append] at this
  exact this
theorem nil_l0 (t : List Nd) (ht : t.length ≤ 1000) : ∀ (f j k : Nat) (out : List Nd), j + f = t.length → f < k → out.length ≤ j → tree_FilterNil.l0 k out t (t.length : Int) (j : Int) = some (out ++ t.drop j) := by
  intro f
  induction f with
  | zero =>
    intro j k out hj hk ho
    obtain ⟨k, rfl⟩ : ∃ m, k = m + 1 := ⟨k - 1, by omega⟩
    rw [tree_FilterNil.l0, if_neg (by omega), List.drop_of_length_le (by omega), List.append_nil]
  | succ f ih =>
    intro j k out hj hk ho
    obtain ⟨k, rfl⟩ : ∃ m, k = m + 1 := ⟨k - 1, by omega⟩
    have hjl : j < t.length := by omega
    rw [tree_FilterNil.l0, if_pos (by omega), if_pos (by omega), if_pos (by omega), if_pos (by omega), rdN, Nd_eta, w_one j (by omega), List.drop_eq_getElem_cons hjl, ← at_lt t j hjl]
    have := ih (j + 1) k (out ++ [at_ t j]) (by omega) (by omega) (by rw [List.length_append, List.length_singleton]; omega)
    rw [List.append_assoc] at this
    exact this
theorem nil_f (t : List Nd) (ht : t.length ≤ 1000) (k : Nat) (hk : 1001 ≤ k) : tree_FilterNil.f k t = some t := by
  unfold tree_FilterNil.f
  have := nil_l0 t ht t.length 0 k [] (by omega) (by omega) (by simp)
  rw [List.drop_zero, List.nil_append] at this
  exact this
theorem filter_l0 (pf : Nat → ByteArray → Int → ByteArray → Option Bool) (q : Nd → Bool) (K : Nat) (hq : ∀ k n, K ≤ k → pf k n.f0 n.f1 n.f2 = some (q n)) (t : List Nd) (ht : t.length ≤ 1000) :
    ∀ (f j k : Nat) (out : List Nd), j + f = t.length → K + f < k → out.length ≤ j → tree_FilterG.l0 pf k out t (t.length : Int) (j : Int) = some (out ++ (t.drop j).filter q) := by
  intro f
  induction f with
  | zero =>
    intro j k out hj hk ho
    obtain ⟨k, rfl⟩ : ∃ m, k = m + 1 := ⟨k - 1, by omega⟩
    rw [tree_FilterG.l0, if_neg (by omega), List.drop_of_length_le (by omega), List.filter_nil, List.append_nil]
  | succ f ih =>
    intro j k out hj hk ho
    obtain ⟨k, rfl⟩ : ∃ m, k = m + 1 := ⟨k - 1, by omega⟩
    rw [tree_FilterG.l0, if_pos (by omega), if_pos (by omega), if_pos (by omega), rdN, hq k _ (by omega), some_bind, w_one j (by omega), List.drop_eq_getElem_cons (show j < t.length by omega), ← at_lt t j (by omega), List.filter_cons]
    cases q (at_ t j)
    · rw [if_neg (by simp), if_neg (by simp), ih (j + 1) k out (by omega) (by omega) (by omega)]
    · rw [if_pos rfl, if_pos rfl, if_pos (by omega), Nd_eta, ih (j + 1) k _ (by omega) (by omega) (by simp; omega), List.append_assoc]
      rfl
theorem plain_f (t : List Nd) (ht : t.length ≤ 1000) (k : Nat) (hk : 1100 ≤ k) : tree_FilterPlain.f k t = some (ofK 2 t) := by
  unfold tree_FilterPlain.f tree_FilterG.f
  have := filter_l0 (fun _ x0 x1 x2 => hogsheadlaw2_plain.f x0 x1 x2) (fun x => x.f1 == 2) 0 (fun k n _ => rfl) t ht t.length 0 k [] (by omega) (by omega) (by simp)
  rw [List.drop_zero, List.nil_append] at this
  exact this
theorem overN_l0 : ∀ (f j k : Nat) (l : List Nd), l.length ≤ 1000000 → j + f = l.length → f < k → hogsheadlaw0_OverNodes.l0 k l (j : Int) = some () := by
  intro f
  induction f with
  | zero =>
    intro j k l hl hj hk
    obtain ⟨k, rfl⟩ : ∃ m, k = m + 1 := ⟨k - 1, by omega⟩
    rw [hogsheadlaw0_OverNodes.l0, if_neg (by omega), if_pos (by omega)]
  | succ f ih =>
    intro j k l hl hj hk
    obtain ⟨k, rfl⟩ : ∃ m, k = m + 1 := ⟨k - 1, by omega⟩
    rw [hogsheadlaw0_OverNodes.l0, if_pos (by omega), if_pos (by omega), w_one j (by omega), ih (j + 1) k _ (by rw [List.length_set]; omega) (by rw [List.length_set]; omega) (by omega)]
theorem overN_f (l : List Nd) (hl : l.length ≤ 1000000) (k : Nat) (hk : l.length < k) : hogsheadlaw0_OverNodes.f k l = some () := by
  unfold hogsheadlaw0_OverNodes.f
  exact overN_l0 l.length 0 k l hl (by omega) hk
theorem ofK_len (c : Int) (t : List Nd) : (ofK c t).length ≤ t.length := List.length_filter_le _ _
theorem ofK_snoc (c : Int) (t : List Nd) {j : Nat} (h : j < t.length) : ofK c (t.take (j + 1)) = ofK c (t.take j) ++ if (at_ t j).f1 = c then [at_ t j] else [] := by
  unfold ofK
  rw [List.take_succ_eq_append_getElem h, List.filter_append, ← at_lt t j h, List.filter_cons, List.filter_nil]
  by_cases e : (at_ t j).f1 = c
  · rw [if_pos (beq_iff_eq.2 e), if_pos e]
  · rw [if_neg (by rw [beq_iff_eq]; exact e), if_neg e]
theorem law_l0 (c : Int) (t : List Nd) (ht : t.length ≤ 1000) : ∀ (f j k : Nat), j + f = t.length → 2 * f + 10000 < k → hogsheadlaw2_TreeFilters.l0 k t c (ofK c t) (ofK 2 t) t (ofK c (t.take j)) (ofK 2 (t.take j)) (j : Int) c (t.length : Int) = some true := by
  have h1 := ofK_len c t
  have h2 := ofK_len 2 t
  intro f
  induction f with
  | zero =>
    intro j k hj hk
    obtain ⟨k, rfl⟩ : ∃ m, k = m + 2 := ⟨k - 2, by omega⟩
    have hi : tree_FilterIs.f k t c (t.length : Int) = some (ofK c t, c, ((t.length + t.length : Nat) : Int)) := is_f c t ht t.length k (by omega) (by omega)
    rw [hogsheadlaw2_TreeFilters.l0, if_neg (by omega), List.take_of_length_le (by omega), sameN_f _ _ (by omega) _ (by omega), some_bind, if_pos (sameN_self _), sameN_f _ _ (by omega) _ (by omega), some_bind, if_pos (sameN_self _), if_pos rfl, sameN_f _ _ (by omega) _ (by omega), some_bind, sameN_self,
      hogsheadlaw2_TreeFilters.j2, overN_f _ (by omega) _ (by omega), some_bind, overN_f _ (by omega) _ (by omega), some_bind, if_pos rfl, hi, some_bind]
    show ((hogsheadlaw0_SameNodes.f k (ofK c t) (ofK c t)).bind fun t187 => _) = _
    rw [sameN_f _ _ (by omega) _ (by omega), some_bind, if_pos (sameN_self _), awake_f k (by omega), some_bind]
  | succ f ih =>
    intro j k hj hk
    obtain ⟨k, rfl⟩ : ∃ m, k = m + 2 := ⟨k - 2, by omega⟩
    have hjl : j < t.length := by omega
    have hn := ih (j + 1) k (by omega) (by omega)
    rw [ofK_snoc c t hjl, ofK_snoc 2 t hjl] at hn
    have l1 := ofK_len c (t.take j)
    have l2 := ofK_len 2 (t.take j)
    rw [List.length_take] at l1 l2
    have go : ∀ out, out = ofK c (t.take j) ++ (if (at_ t j).f1 = c then [at_ t j] else []) → hogsheadlaw2_TreeFilters.j1 (k + 1) t c (ofK c t) (ofK 2 t) t out (ofK 2 (t.take j)) (j : Int) c (t.length : Int) = some true := by
      rintro out rfl
      rw [hogsheadlaw2_TreeFilters.j1, if_pos (by omega), if_pos (by omega), rdN, w_one j (by omega), Nd_eta]
      by_cases e : (at_ t j).f1 = 2
      · rw [if_pos e, if_pos (by omega)]
        rw [if_pos e] at hn
        exact hn
      · rw [if_neg e]
        rw [if_neg e, List.append_nil] at hn
        exact hn
    rw [hogsheadlaw2_TreeFilters.l0, if_pos (by omega), if_pos (by omega), rdN, Nd_eta]
    by_cases e : (at_ t j).f1 = c
    · rw [if_pos e, if_pos (by omega)]
      exact go _ (by rw [if_pos e])
    · rw [if_neg e]
      exact go _ (by rw [if_neg e, List.append_nil])
theorem TreeFilters : hogsheadlaw2_TreeFilters.Pure := by
  intro t a ⟨hl, _⟩ ha
  have hl' : t.length ≤ 9223372036854775807 := by unfold maxLen at hl; exact hl
  refine ⟨20000, ?_⟩
  unfold hogsheadlaw2_TreeFilters.f
  rw [show (60 : Int) = ((60 : Nat) : Int) from rfl, great_f t 60 (by omega) hl' _ (by omega), some_bind]
  by_cases hg : great t 60 = true
  · rw [if_pos hg, awake_f _ (by omega), some_bind]
  rw [if_neg hg]
  obtain ⟨h60, _⟩ := great_not hg
  have hr := Int.emod_nonneg (a % 18446744073709551616) (show (4 : Int) ≠ 0 by omega)
  have hr2 := Int.emod_lt_of_pos (a % 18446744073709551616) (show (0 : Int) < 4 by omega)
  rw [low_f a 4 (by omega) (by omega), some_bind]
  generalize (a % 18446744073709551616) % 4 = q at hr hr2
  have hw : ∀ c : Int, c = wrap64 (1 + q) → ((main_main.f c).bind fun bt155 => ((tree_FilterIs.f 20000 t bt155.1 bt155.2).bind fun bt158 => ((tree_FilterPlain.f 20000 t).bind fun t163 => ((tree_FilterNil.f 20000 t).bind fun t166 => (hogsheadlaw2_TreeFilters.l0 20000 t c bt158.1 t163 t166 ([] : List Nd) ([] : List Nd) 0 bt158.2.1 bt158.2.2))))) = some true := by
    intro c _
    have hi : tree_FilterIs.f 20000 t c 0 = some (ofK c t, c, ((0 + t.length : Nat) : Int)) := is_f c t (by omega) 0 20000 (by omega) (by omega)
    have := law_l0 c t (by omega) t.length 0 20000 (by omega) (by omega)
    rw [List.take_zero] at this
    unfold main_main.f
    rw [some_bind]
    show ((tree_FilterIs.f 20000 t c 0).bind fun bt158 => _) = _
    rw [hi, some_bind, plain_f t (by omega) _ (by omega), some_bind, nil_f t (by omega) _ (by omega), some_bind, Nat.zero_add]
    exact this
  exact hw _ rfl
end Go.Proofs.YtdclcekojmklnaaDoor.Pure
