/- The plain law behind TreeCuts: a tree's beginning, a tree without a node that nothing stands under, a tree put in order. -/
import Derived.Test.YtfncpcmpapakjaaDoorSortTh
namespace Go.Proofs.YtfncpcmpapakjaaDoor.Pure
open Go.RowKit Go.Proofs.YtfncpcmpapakjaaDoorX Go.Proofs.YtfncpcmpapakjaaDoorW.PrintWords Go.Proofs.YtfncpcmpapakjaaDoorW.PrintLast Go.Proofs.YtfncpcmpapakjaaDoorW.PrintMore Go.Proofs.YtfncpcmpapakjaaDoor.P Go.Proofs.YtfncpcmpapakjaaDoor.Pa Go.Proofs.YtfncpcmpapakjaaDoor.PaTh Go.Proofs.YtfncpcmpapakjaaDoor.TreeTh Go.Proofs.YtfncpcmpapakjaaDoor.SortTh
set_option linter.unusedVariables false
set_option linter.unusedSimpArgs false
set_option maxRecDepth 100000 in
theorem awake_2000 : hogsheadlaw2_awake.f 2000 = some true := by decide +kernel
theorem awake_f (k : Nat) (hk : 2000 ≤ k) : hogsheadlaw2_awake.f k = some true := at_rounds (g := fun k => hogsheadlaw2_awake.f k) hogsheadlaw2_awake.mono hk awake_2000
theorem aw (k : Nat) (hk : 2000 ≤ k) : ((hogsheadlaw2_awake.f k).bind fun t => some t) = some true := by rw [awake_f k hk, some_bind]
theorem low_f (x n : Int) (h : 1 ≤ n) (h' : n ≤ 4611686018427387904) : hogsheadlaw0_Low.f x n = some ((x % 18446744073709551616) % n) := by
  unfold hogsheadlaw0_Low.f
  exact Go.Proofs.YtfncpcmpapakjaaDoor.Bs.low_expr x n h h'
theorem less_trans : ∀ {a b c : List UInt8}, Op.bytesLess a b = true → Op.bytesLess b c = true → Op.bytesLess a c = true := by
  intro a
  induction a with
  | nil =>
    intro b c h1 h2
    cases b with
    | nil => simp [Op.bytesLess] at h1
    | cons y b => cases c with
      | nil => simp [Op.bytesLess] at h2
      | cons z c => rfl
  | cons x a ih =>
    intro b c h1 h2
    cases b with
    | nil => simp [Op.bytesLess] at h1
    | cons y b =>
      cases c with
      | nil => simp [Op.bytesLess] at h2
      | cons z c =>
        simp only [Op.bytesLess, Bool.or_eq_true, Bool.and_eq_true, decide_eq_true_iff, beq_iff_eq, UInt8.lt_iff_toNat_lt] at h1 h2 ⊢
        rcases h1 with h1 | ⟨rfl, h1⟩
        · rcases h2 with h2 | ⟨rfl, h2⟩
          · exact .inl (by omega)
          · exact .inl h1
        · rcases h2 with h2 | ⟨rfl, h2⟩
          · exact .inl h2
          · exact .inr ⟨rfl, ih h1 h2⟩
theorem at_take (t : List Nd) (i j : Nat) (h : i < j) : at_ (t.take j) i = at_ t i := by
  unfold at_; rw [List.getD_eq_getElem?_getD, List.getD_eq_getElem?_getD, List.getElem?_take_of_lt h]
theorem okAt_take (t : List Nd) (i j : Nat) (h : i < j) : okAt (t.take j) i = okAt t i := by
  unfold okAt
  rw [at_take t i j h, List.take_take, Nat.min_eq_left (by omega)]
theorem mayT_take {t : List Nd} (h : mayT t = true) (j : Nat) (hj : 1 ≤ j) : mayT (t.take j) = true := by
  obtain ⟨h0, h1⟩ := (mayT_iff t).1 h
  refine (mayT_iff _).2 ⟨by rw [List.length_take]; omega, fun i hi => ?_⟩
  rw [List.length_take] at hi
  rw [okAt_take t i j (by omega)]
  exact h1 i (by omega)
/-- What each node behind the first is. -/
theorem ok_fol {t : List Nd} {i : Nat} (h : okAt t i = true) (hi : 1 ≤ i) (hl : i < t.length) : i < 400 ∧ goodN (at_ t i) = true ∧ L (at_ t i).f0 ≠ [] ∧ may (L (at_ t i).f0) = true ∧ Op.bytesLess (L (at_ t (i - 1)).f0) (L (at_ t i).f0) = true ∧ dirOf (t.take i) (mkB (dir (L (at_ t i).f0))) = true := by
  unfold okAt at h
  rw [Bool.and_eq_true, Bool.and_eq_true, decide_eq_true_iff] at h
  obtain ⟨h1, h2, h3⟩ := h
  unfold fol at h3
  have hlen : (t.take i).length = i := by rw [List.length_take]; omega
  rw [hlen, if_neg (by omega), at_take t (i - 1) i (by omega), Bool.and_eq_true, Bool.and_eq_true, Bool.and_eq_true, decide_eq_true_iff] at h3
  exact ⟨h1, h2, h3.1.1, h3.1.2, h3.2.1, h3.2.2⟩
theorem up_may {t : List Nd} (h : mayT t = true) : up t := by
  obtain ⟨h0, h1⟩ := (mayT_iff t).1 h
  have hs : ∀ i d, i + d + 1 < t.length → Op.bytesLess (L (at_ t i).f0) (L (at_ t (i + d + 1)).f0) = true := by
    intro i d
    induction d with
    | zero =>
      intro hi
      exact (ok_fol (h1 (i + 0 + 1) hi) (by omega) hi).2.2.2.2.1
    | succ d ih =>
      intro hi
      exact less_trans (ih (by omega)) (ok_fol (h1 (i + (d + 1) + 1) hi) (by omega) hi).2.2.2.2.1
  intro i j hij hj
  obtain ⟨d, rfl⟩ : ∃ d, j = i + d + 1 := ⟨j - i - 1, by omega⟩
  exact hs i d hj
theorem dirOf_out (a b : List Nd) (x : Nd) (p : ByteArray) (h : L x.f0 ≠ L p) : dirOf (a ++ x :: b) p = dirOf (a ++ b) p := by
  unfold dirOf
  have hx : (x.f0.data.toList == p.data.toList) = false := by
    rw [beq_eq_false_iff_ne]; exact h
  simp only [List.reverse_append, List.reverse_cons, List.append_assoc, List.find?_append, List.find?_cons, List.find?_nil, hx, Option.none_or]
/-- Does a path stand under another? -/
def under (p n : List UInt8) : Bool := decide (p.length < n.length) && decide (n.take (p.length + 1) = p ++ [47])
theorem dir_under {n p : List UInt8} (hp : p ≠ []) (h : dir n = p) : under p n = true := by
  rcases last_cases n with h' | ⟨a, b, rfl, hb⟩
  · rw [dir_none h'] at h; exact absurd h.symm hp
  · rw [dir_slash hb] at h
    subst h
    unfold under
    rw [decide_eq_true (by rw [List.length_append, List.length_cons]; omega), decide_eq_true (by
      rw [show a ++ 47 :: b = (a ++ [47]) ++ b by simp, List.take_append_of_le_length (by simp), List.take_of_length_le (by simp)])]
    rfl
theorem at_less (t : List Nd) (k : Nat) (hk : k < t.length) (i : Nat) : at_ (t.take k ++ t.drop (k + 1)) i = if i < k then at_ t i else at_ t (i + 1) := by
  unfold at_
  by_cases h : i < k
  · rw [if_pos h, List.getD_eq_getElem?_getD, List.getD_eq_getElem?_getD, List.getElem?_append_left (by rw [List.length_take]; omega), List.getElem?_take_of_lt h]
  · rw [if_neg h, List.getD_eq_getElem?_getD, List.getD_eq_getElem?_getD, List.getElem?_append_right (by rw [List.length_take]; omega), List.getElem?_drop, List.length_take, show k + 1 + (i - min k t.length) = i + 1 by omega]
theorem mayT_less {t : List Nd} (h : mayT t = true) (k : Nat) (hk0 : k ≠ 0) (hk : k < t.length) (hu : ∀ i, i < t.length → under (L (at_ t k).f0) (L (at_ t i).f0) = false) : mayT (t.take k ++ t.drop (k + 1)) = true := by
  obtain ⟨h0, h1⟩ := (mayT_iff t).1 h
  have hup := up_may h
  have hlen : (t.take k ++ t.drop (k + 1)).length = t.length - 1 := by rw [List.length_append, List.length_take, List.length_drop]; omega
  refine (mayT_iff _).2 ⟨by omega, fun i hi => ?_⟩
  rw [hlen] at hi
  by_cases hik : i < k
  · have e : okAt (t.take k ++ t.drop (k + 1)) i = okAt t i := by
      unfold okAt
      rw [at_less t k hk i, if_pos hik, List.take_append_of_le_length (by rw [List.length_take]; omega), List.take_take, Nat.min_eq_left (by omega)]
    rw [e]
    exact h1 i (by omega)
  obtain ⟨g1, g2, g3, g4, g5, g6⟩ := ok_fol (h1 (i + 1) (by omega)) (by omega) (by omega)
  have hne : L (at_ t k).f0 ≠ [] := (ok_fol (h1 k hk) (by omega) hk).2.2.1
  have htl : ((t.take k ++ t.drop (k + 1)).take i).length = i := by rw [List.length_take, hlen]; omega
  have hd : dirOf ((t.take k ++ t.drop (k + 1)).take i) (mkB (dir (L (at_ t (i + 1)).f0))) = true := by
    have e1 : (t.take k ++ t.drop (k + 1)).take i = t.take k ++ (t.drop (k + 1)).take (i - k) := by
      rw [List.take_append, List.take_of_length_le (by rw [List.length_take]; omega), List.length_take, Nat.min_eq_left (by omega)]
    have e2 : t.take (i + 1) = t.take k ++ at_ t k :: (t.drop (k + 1)).take (i - k) := by
      have : t.take (i + 1) = (t.take k ++ t.drop k).take (i + 1) := by rw [List.take_append_drop]
      rw [this, List.take_append, List.take_of_length_le (by rw [List.length_take]; omega), List.length_take, Nat.min_eq_left (by omega), List.drop_eq_getElem_cons hk, show i + 1 - k = (i - k) + 1 by omega, List.take_succ_cons, at_lt t k hk]
    rw [e1, ← dirOf_out _ _ (at_ t k) _ (by
      rw [L_mkB]
      intro e
      have := dir_under hne e.symm
      rw [hu (i + 1) (by omega)] at this
      cases this), ← e2]
    exact g6
  unfold okAt fol
  rw [htl, if_neg (by omega), at_take _ (i - 1) i (by omega), at_less t k hk i, if_neg hik, at_less t k hk (i - 1), hd, g2, g4, decide_eq_true (show i < 400 by omega), decide_eq_true g3]
  have hl : Op.bytesLess (L (if i - 1 < k then at_ t (i - 1) else at_ t (i - 1 + 1)).f0) (L (at_ t (i + 1)).f0) = true := by
    by_cases e : i - 1 < k
    · rw [if_pos e]; exact hup (i - 1) (i + 1) (by omega) (by omega)
    · rw [if_neg e]; exact hup (i - 1 + 1) (i + 1) (by omega) (by omega)
  rw [hl]
  rfl
/-- How many bytes of data. -/
def sum : List Nd → Nat
  | [] => 0
  | x :: l => (L x.f2).length + sum l
theorem sum_append : ∀ a b : List Nd, sum (a ++ b) = sum a + sum b
  | [], b => by simp [sum]
  | x :: a, b => by rw [List.cons_append, sum, sum, sum_append a b]; omega
theorem sum_le : ∀ t : List Nd, (∀ x ∈ t, (L x.f2).length ≤ 500) → sum t ≤ 500 * t.length
  | [], _ => by simp [sum]
  | x :: t, h => by
    have := sum_le t (fun y hy => h y (List.mem_cons_of_mem _ hy))
    have := h x (List.mem_cons_self ..)
    rw [sum, List.length_cons]; omega
theorem size_l0 (t : List Nd) (ht : t.length ≤ 1000) (hs : ∀ x ∈ t, (L x.f2).length ≤ 500) : ∀ (f j k s : Nat), j + f = t.length → f < k → s + sum (t.drop j) ≤ 1000000 → tree_Size.l0 k (s : Int) t (t.length : Int) (j : Int) = some ((s + sum (t.drop j) : Nat) : Int) := by
  intro f
  induction f with
  | zero =>
    intro j k s hj hk h
    obtain ⟨k, rfl⟩ : ∃ m, k = m + 1 := ⟨k - 1, by omega⟩
    rw [tree_Size.l0, if_neg (by omega), List.drop_of_length_le (by omega)]; rfl
  | succ f ih =>
    intro j k s hj hk h
    obtain ⟨k, rfl⟩ : ∃ m, k = m + 1 := ⟨k - 1, by omega⟩
    rw [List.drop_eq_getElem_cons (show j < t.length by omega), sum] at h ⊢
    rw [tree_Size.l0, if_pos (by omega), if_pos (by omega), if_pos (by omega), rdN, w_one j (by omega), size_L, at_lt t j (by omega), show wrap64 ((s : Int) + ((L t[j].f2).length : Int)) = ((s + (L t[j].f2).length : Nat) : Int) by rw [wrap_in (by omega) (by omega)]; omega,
      ih (j + 1) k _ (by omega) (by omega) (by omega)]
    refine congrArg some ?_
    omega
theorem size_f (t : List Nd) (ht : t.length ≤ 1000) (hs : ∀ x ∈ t, (L x.f2).length ≤ 500) (k : Nat) (hk : 1100 ≤ k) : tree_Size.f k t = some (sum t : Int) := by
  unfold tree_Size.f
  have h1 := sum_le t hs
  have := size_l0 t ht hs t.length 0 k 0 (by omega) (by omega) (by rw [List.drop_zero]; omega)
  rw [List.drop_zero, Nat.zero_add] at this
  exact this
section
variable {t : List Nd} (hm : mayT t = true) (hg : ∀ x ∈ t, (L x.f2).length ≤ 500) (hp : ∀ x ∈ t, (L x.f0).length ≤ 300) (hl : t.length ≤ 60) {k : Nat} (hk : k < t.length) (hk0 : k ≠ 0)
include hm hg hp hl hk hk0
theorem cuts_end (K : Nat) (hK : 50000 ≤ K) (hu : ∀ i, i < t.length → under (L (at_ t k).f0) (L (at_ t i).f0) = false) (j : Nat) (hj : t.length ≤ j) : hogsheadlaw2_TreeCuts.l0 K t (k : Int) (j : Int) = some true := by
  have _ := hp
  obtain ⟨K, rfl⟩ : ∃ m, K = m + 1 := ⟨K - 1, by omega⟩
  have hlen : (t.take k ++ t.drop (k + 1)).length = t.length - 1 := by rw [List.length_append, List.length_take, List.length_drop]; omega
  have hless : ∀ x ∈ t.take k ++ t.drop (k + 1), x ∈ t := by
    intro x hx
    rcases List.mem_append.1 hx with h | h
    · exact List.mem_of_mem_take h
    · exact List.mem_of_mem_drop h
  have hsum : sum t = sum (t.take k ++ t.drop (k + 1)) + (L (at_ t k).f2).length := by
    have e : t = t.take k ++ at_ t k :: t.drop (k + 1) := by rw [at_lt t k hk, ← List.drop_eq_getElem_cons hk, List.take_append_drop]
    have : sum t = sum (t.take k ++ at_ t k :: t.drop (k + 1)) := congrArg sum e
    rw [this, sum_append, sum_append, sum]
    omega
  have hle := sum_le t hg
  rw [hogsheadlaw2_TreeCuts.l0, if_neg (by omega), if_pos (by omega), if_pos (by omega), some_bind, if_pos (by rw [Int.toNat_natCast, List.length_take]; simp only [List.length_nil]; omega), some_bind, w_one k (by omega), if_pos (by omega), if_pos (by omega), some_bind,
    if_pos (by rw [Int.toNat_natCast, Int.toNat_natCast, List.nil_append, List.length_take, List.length_drop]; omega), some_bind, Int.toNat_natCast, Int.toNat_natCast, List.nil_append, mayT_f _ (by omega) K (by omega), mayT_less hm k hk0 hk hu, some_bind, if_pos rfl,
    size_f _ (by omega) (fun x hx => hg x (hless x hx)) K (by omega), some_bind, size_f t (by omega) hg K (by omega), some_bind, if_pos (by omega), rdN, size_L, if_pos (by rw [wrap_in (by omega) (by omega)]; omega), aw K (by omega)]
theorem cuts_l0 : ∀ (f j K : Nat), j + f = t.length → 50000 + 2 * f ≤ K → (∀ i, i < j → under (L (at_ t k).f0) (L (at_ t i).f0) = false) → hogsheadlaw2_TreeCuts.l0 K t (k : Int) (j : Int) = some true := by
  intro f
  induction f with
  | zero =>
    intro j K hj hK hu
    exact cuts_end hm hg hp hl hk hk0 K (by omega) (fun i hi => hu i (by omega)) j (by omega)
  | succ f ih =>
    intro j K hj hK hu
    obtain ⟨K, rfl⟩ : ∃ m, K = m + 2 := ⟨K - 2, by omega⟩
    have hpk : (L (at_ t k).f0).length ≤ 300 := by rw [at_lt t k hk]; exact hp _ (List.getElem_mem _)
    have hpj : (L (at_ t j).f0).length ≤ 300 := by rw [at_lt t j (by omega)]; exact hp _ (List.getElem_mem _)
    have hstep : ∀ b, under (L (at_ t k).f0) (L (at_ t j).f0) = b → hogsheadlaw2_TreeCuts.j4 (K + 1) t (k : Int) (j : Int) b = some true := by
      intro b hb
      rw [hogsheadlaw2_TreeCuts.j4]
      cases b
      · rw [if_neg (by simp), w_one j (by omega)]
        refine ih (j + 1) K (by omega) (by omega) fun i hi => ?_
        by_cases e : i = j
        · subst e; exact hb
        · exact hu i (by omega)
      · rw [if_pos rfl]; exact aw K (by omega)
    rw [hogsheadlaw2_TreeCuts.l0, if_pos (by omega), if_pos (by omega), if_pos (by omega), if_pos (by omega), rdN, rdN, size_L, size_L]
    by_cases h : ((L (at_ t j).f0).length : Int) > ((L (at_ t k).f0).length : Int)
    · rw [if_pos h, show wrap64 (((L (at_ t k).f0).length : Int) + 1) = (((L (at_ t k).f0).length + 1 : Nat) : Int) by rw [wrap_in (by omega) (by omega)]; omega, if_pos (by omega), if_pos (by omega), if_pos (by omega), Int.toNat_natCast]
      refine hstep _ ?_
      unfold under
      rw [decide_eq_true (by omega), Bool.true_and, ← beqD, toL, toL, L_extract, L_append]
      rfl
    · rw [if_neg h]
      refine hstep _ ?_
      unfold under
      rw [decide_eq_false (by omega)]; rfl
theorem cuts_j2 (K : Nat) (hK : 60000 ≤ K) (b : Bool) : hogsheadlaw2_TreeCuts.j2 K t (k : Int) b = some true := by
  obtain ⟨K, rfl⟩ : ∃ m, K = m + 1 := ⟨K - 1, by omega⟩
  rw [hogsheadlaw2_TreeCuts.j2]
  cases b
  · rw [if_neg (by simp)]
    exact cuts_l0 hm hg hp hl hk hk0 t.length 0 K (by omega) (by omega) (fun i hi => by omega)
  · rw [if_pos rfl]; exact aw K (by omega)
end
theorem cuts_j1 {t : List Nd} (hm : mayT t = true) (hg : ∀ x ∈ t, (L x.f2).length ≤ 500) (hp : ∀ x ∈ t, (L x.f0).length ≤ 300) (hl : t.length ≤ 60) {k : Nat} (hk : k < t.length) (K : Nat) (hK : 70000 ≤ K) : hogsheadlaw2_TreeCuts.j1 K t (k : Int) false = some true := by
  obtain ⟨K, rfl⟩ : ∃ m, K = m + 1 := ⟨K - 1, by omega⟩
  rw [hogsheadlaw2_TreeCuts.j1, if_neg (by simp)]
  by_cases e : k = 0
  · subst e
    obtain ⟨K, rfl⟩ : ∃ m, K = m + 1 := ⟨K - 1, by omega⟩
    rw [if_pos (by omega), hogsheadlaw2_TreeCuts.j2, if_pos rfl]; exact aw K (by omega)
  have h2 := fun b => cuts_j2 hm hg hp hl hk e K (by omega) b
  rw [if_neg (by omega), w_one k (by omega)]
  by_cases h : ((k + 1 : Nat) : Int) < (t.length : Int)
  · rw [if_pos h, if_pos (by omega), if_pos (by omega), if_pos (by omega), rdN, rdN]
    by_cases h' : ((at_ t (k + 1)).f0.size : Int) > ((at_ t k).f0.size : Int)
    · rw [if_pos h', if_pos (by omega), if_pos (by omega)]; exact h2 _
    · rw [if_neg h']; exact h2 _
  · rw [if_neg h]; exact h2 _
theorem cuts_true (t : List Nd) (a : Int) : hogsheadlaw2_TreeCuts.j0 100000 t a true = some true := by
  rw [hogsheadlaw2_TreeCuts.j0, if_pos rfl]; exact aw _ (by omega)
theorem TreeCuts : hogsheadlaw2_TreeCuts.Pure := by
  intro t a ⟨ht, _⟩ ha
  have ht' : t.length ≤ 9223372036854775807 := by unfold maxLen at ht; exact ht
  refine ⟨100000, ?_⟩
  unfold hogsheadlaw2_TreeCuts.f
  rw [show (60 : Int) = ((60 : Nat) : Int) from rfl, great_f t 60 (by omega) ht' _ (by omega), some_bind]
  by_cases h1 : great t 60 = true
  · rw [if_pos h1]; exact cuts_true t a
  obtain ⟨hl, hx⟩ := great_not h1
  rw [if_neg h1, mayT_f t (by omega) _ (by omega), some_bind]
  cases hm : mayT t
  · exact cuts_true t a
  have h0 : t.length ≠ 0 := ((mayT_iff t).1 hm).1
  have hr := Int.emod_nonneg (a % 18446744073709551616) (show (t.length : Int) ≠ 0 by omega)
  have hr2 := Int.emod_lt_of_pos (a % 18446744073709551616) (show (0 : Int) < (t.length : Int) by omega)
  show hogsheadlaw2_TreeCuts.j0 (99999 + 1) t a false = some true
  rw [hogsheadlaw2_TreeCuts.j0, if_neg (by simp), low_f a _ (by omega) (by omega), some_bind]
  generalize (a % 18446744073709551616) % (t.length : Int) = q at hr hr2
  obtain ⟨k, rfl⟩ : ∃ k : Nat, q = (k : Int) := ⟨q.toNat, by omega⟩
  rw [w_one k (by omega), if_pos (by omega), if_pos (by omega), Int.toNat_natCast, mayT_f _ (by rw [List.length_take]; omega) _ (by omega), mayT_take hm (k + 1) (by omega), some_bind, if_pos rfl, sort_up (up_may hm) (by omega) _ (by omega), some_bind,
    sameN_f t t (by omega) _ (by omega), sameN_self, some_bind]
  exact cuts_j1 hm (fun x h => (hx x h).2) (fun x h => (hx x h).1) hl (by omega) _ (by omega)
end Go.Proofs.YtfncpcmpapakjaaDoor.Pure
