/- The plain law behind FindLists. -/
import Derived.Test.YtipnajhimjenbaaDoorFindTh
import Derived.Test.YtipnajhimjenbaaDoorBs
namespace Go.Proofs.YtipnajhimjenbaaDoor.Pure
open Go.RowKit Go.Proofs.YtipnajhimjenbaaDoorX Go.Proofs.YtipnajhimjenbaaDoorW.PrintWords Go.Proofs.YtipnajhimjenbaaDoorW.PrintLast Go.Proofs.YtipnajhimjenbaaDoorW.PrintMore Go.Proofs.YtipnajhimjenbaaDoor.P Go.Proofs.YtipnajhimjenbaaDoor.Pa Go.Proofs.YtipnajhimjenbaaDoor.PaTh Go.Proofs.YtipnajhimjenbaaDoor.TreeTh Go.Proofs.YtipnajhimjenbaaDoor.TreeUp Go.Proofs.YtipnajhimjenbaaDoor.FindTh
set_option linter.unusedVariables false
set_option linter.unusedSimpArgs false
set_option maxRecDepth 100000 in
theorem awake_5000 : hogsheadlaw3_awake.f 5000 = some true := by decide +kernel
theorem awake_f (k : Nat) (hk : 5000 ≤ k) : hogsheadlaw3_awake.f k = some true := at_rounds (g := fun k => hogsheadlaw3_awake.f k) hogsheadlaw3_awake.mono hk awake_5000
theorem aw (k : Nat) (hk : 5000 ≤ k) : ((hogsheadlaw3_awake.f k).bind fun t => some t) = some true := by rw [awake_f k hk, some_bind]
theorem low_f (x n : Int) (h : 1 ≤ n) (h' : n ≤ 4611686018427387904) : hogsheadlaw0_Low.f x n = some ((x % 18446744073709551616) % n) := by
  unfold hogsheadlaw0_Low.f
  exact Go.Proofs.YtipnajhimjenbaaDoor.Bs.low_expr x n h h'
/-- A path's parent and base, and the path of these. -/
theorem path_of {l : List UInt8} (hm : may l = true) (hl : l ≠ []) : l = if dir l = [] then base l else dir l ++ 47 :: base l := by
  rcases last_cases l with hn | ⟨a, b, rfl, hb⟩
  · rw [dir_none hn, base_none hn, if_pos rfl]
  · rw [dir_slash hb, base_slash hb]
    have ha : a ≠ [] := by
      rintro rfl
      obtain ⟨h1, h2, h3⟩ := may_parts hm hl
      exact part_ne (h2 [] (by rw [cut_slash]; simp [cut, cutA])) rfl
    rw [if_neg ha]
section
variable {t : List Nd} (hm : mayT t = true) (hl : t.length ≤ 60) {k : Nat} (hk : k < t.length)
include hm hl hk
theorem kid_eq {i : Nat} (hi : i < t.length) : child (L (at_ t k).f0) (at_ t i) = (decide (1 ≤ i) && decide (dir (L (at_ t i).f0) = L (at_ t k).f0)) := by
  have _ := hk
  have _ := hl
  unfold child
  obtain ⟨h0, h1⟩ := (mayT_iff t).1 hm
  by_cases e : i = 0
  · subst e
    have := h1 0 hi
    unfold okAt at this
    rw [Bool.and_eq_true, Bool.and_eq_true] at this
    have h2 := this.2.2
    unfold fol at h2
    rw [if_pos (by simp), decide_eq_true_iff] at h2
    rw [decide_eq_false (by simp [h2])]
    rfl
  · obtain ⟨g1, g2, g3, g4, g5, g6⟩ := ok_fol (h1 i hi) (by omega) hi
    rw [decide_eq_true g3, g4, decide_eq_true (show 1 ≤ i by omega)]
    rfl
theorem count_l0 (nm : List ByteArray) (ok : Bool) : ∀ (f j K n : Nat), j + f = t.length → 1 ≤ j → 5000 + f < K → n ≤ j → hogsheadlaw3_FindLists.l0 K t (k : Int) nm ok (n : Int) (j : Int) =
    hogsheadlaw3_FindLists.l0 (K - f) t (k : Int) nm ok ((n + ((t.drop j).filter (child (L (at_ t k).f0))).length : Nat) : Int) (t.length : Int) := by
  intro f
  induction f with
  | zero =>
    intro j K n hj h1 hK hn
    rw [List.drop_of_length_le (by omega), show j = t.length by omega]; rfl
  | succ f ih =>
    intro j K n hj h1 hK hn
    obtain ⟨K, rfl⟩ : ∃ m, K = m + 1 := ⟨K - 1, by omega⟩
    have hc := kid_eq hm hl hk (i := j) (by omega)
    obtain ⟨g1, g2, g3, g4, g5, g6⟩ := ok_fol (((mayT_iff t).1 hm).2 j (by omega)) h1 (by omega)
    rw [decide_eq_true h1, Bool.true_and] at hc
    rw [hogsheadlaw3_FindLists.l0, if_pos (by omega), if_pos (by omega), rdN, rdN, parent_f _ K (by omega), if_neg g3, if_pos g4, some_bind, if_pos (by omega), if_pos (by omega), toL, toL, L_mkB, w_one j (by omega), w_one n (by omega),
      List.drop_eq_getElem_cons (show j < t.length by omega), List.filter_cons, ← at_lt t j (by omega), hc, show K + 1 - (f + 1) = K - f by omega]
    by_cases e : dir (L (at_ t j).f0) = L (at_ t k).f0
    · rw [if_pos e, decide_eq_true e, if_pos rfl, ih (j + 1) K (n + 1) (by omega) (by omega) (by omega) (by omega), List.length_cons, show n + 1 + ((t.drop (j + 1)).filter (child (L (at_ t k).f0))).length = n + (((t.drop (j + 1)).filter (child (L (at_ t k).f0))).length + 1) by omega]
    · rw [if_neg e, decide_eq_false e, if_neg (by simp), ih (j + 1) K n (by omega) (by omega) (by omega) (by omega)]
theorem kids_all : ((t.drop 1).filter (child (L (at_ t k).f0))) = t.filter (child (L (at_ t k).f0)) := by
  have h0 : 0 < t.length := by omega
  have hc := kid_eq hm hl hk (i := 0) h0
  have : t = at_ t 0 :: t.drop 1 := by rw [at_lt t 0 h0, ← List.drop_eq_getElem_cons h0, List.drop_zero]
  have e : t.filter (child (L (at_ t k).f0)) = (at_ t 0 :: t.drop 1).filter (child (L (at_ t k).f0)) := congrArg (List.filter (child (L (at_ t k).f0))) this
  rw [e, List.filter_cons, hc]
  rfl
/-- What each node that is right below a place has of a path. -/
theorem kid_path {x : Nd} (hx : x ∈ t.filter (child (L (at_ t k).f0))) : (∃ i, i < t.length ∧ at_ t i = x) ∧ L x.f0 ≠ [] ∧ may (L x.f0) = true ∧ dir (L x.f0) = L (at_ t k).f0 := by
  have _ := hm
  have _ := hl
  have _ := hk
  obtain ⟨h1, h2⟩ := List.mem_filter.1 hx
  unfold child at h2
  rw [Bool.and_eq_true, Bool.and_eq_true, decide_eq_true_iff, decide_eq_true_iff] at h2
  obtain ⟨i, hi, e⟩ := List.mem_iff_getElem.1 h1
  exact ⟨⟨i, hi, by rw [at_lt t i hi]; exact e⟩, h2.1, h2.2.1, h2.2.2⟩
theorem kid_join {x : Nd} (hx : x ∈ t.filter (child (L (at_ t k).f0))) (K : Nat) (hK : 1400 ≤ K) : path_Join.f K ((split (L (at_ t k).f0)).map mkB ++ [mkB (base (L x.f0))]) = some (x.f0, true) := by
  obtain ⟨⟨i, hi, hix⟩, h1, h2, h3⟩ := kid_path hm hl hk hx
  obtain ⟨d1, d2, d3, d4, d5, d6⟩ := dir_spec h2 h1
  obtain ⟨e1, e2, e3⟩ := may_parts h2 h1
  have e : (split (L (at_ t k).f0)).map mkB ++ [mkB (base (L x.f0))] = (cut (L x.f0)).map mkB := by
    rw [← may_ne_split h2 h1, d5, h3, List.map_append]; rfl
  rw [e, join_f (cut (L x.f0)) (by omega) (by rw [J_cut]; omega) K hK, J_cut, if_pos (List.all_eq_true.2 e2)]
  unfold fin
  rw [if_pos h2, mkB_L]
theorem kid_less {j : Nat} (hj : j + 1 < (t.filter (child (L (at_ t k).f0))).length) :
    Op.bytesLess (base (L ((t.filter (child (L (at_ t k).f0)))[j]'(by omega)).f0)) (base (L ((t.filter (child (L (at_ t k).f0)))[j + 1]'hj).f0)) = true := by
  have hpw : t.Pairwise (fun a b => Op.bytesLess (L a.f0) (L b.f0) = true) := by
    rw [List.pairwise_iff_getElem]
    intro i j hi hj hij
    have := up_may hm i j hij hj
    rw [at_lt t i hi, at_lt t j hj] at this
    exact this
  have hf := hpw.filter (child (L (at_ t k).f0))
  rw [List.pairwise_iff_getElem] at hf
  have h := hf j (j + 1) (by omega) hj (by omega)
  obtain ⟨_, a1, a2, a3⟩ := kid_path hm hl hk (List.getElem_mem (show j < (t.filter (child (L (at_ t k).f0))).length by omega))
  obtain ⟨_, b1, b2, b3⟩ := kid_path hm hl hk (List.getElem_mem hj)
  have ea := path_of a2 a1
  have eb := path_of b2 b1
  rw [a3] at ea
  rw [b3] at eb
  rw [ea, eb] at h
  by_cases hp : L (at_ t k).f0 = []
  · rw [if_pos hp, if_pos hp] at h; exact h
  · rw [if_neg hp, if_neg hp, less_pre] at h
    simpa [Op.bytesLess] using h
theorem lists_l1 : ∀ (f j K : Nat), j + f = (t.filter (child (L (at_ t k).f0))).length → 6000 + 2 * f < K → hogsheadlaw3_FindLists.l1 K t (k : Int) (names (L (at_ t k).f0) t) (j : Int) = some true := by
  intro f
  induction f with
  | zero =>
    intro j K hj hK
    obtain ⟨K, rfl⟩ : ∃ m, K = m + 1 := ⟨K - 1, by omega⟩
    rw [hogsheadlaw3_FindLists.l1, if_neg (by unfold names; rw [List.length_map]; omega)]
    exact aw K (by omega)
  | succ f ih =>
    intro j K hj hK
    obtain ⟨K, rfl⟩ : ∃ m, K = m + 2 := ⟨K - 2, by omega⟩
    have hlen : (names (L (at_ t k).f0) t).length = (t.filter (child (L (at_ t k).f0))).length := by unfold names; rw [List.length_map]
    have hle : (t.filter (child (L (at_ t k).f0))).length ≤ t.length := List.length_filter_le _ _
    have hat : ∀ i (h : i < (t.filter (child (L (at_ t k).f0))).length), rdOf ByteArray.empty (names (L (at_ t k).f0) t) (i : Int) = mkB (base (L ((t.filter (child (L (at_ t k).f0)))[i]'h).f0)) := by
      intro i h
      rw [rd_L _ i (by omega)]
      unfold names
      rw [List.getElem_map]
    have hj' : j < (t.filter (child (L (at_ t k).f0))).length := by omega
    have hx := List.getElem_mem hj'
    obtain ⟨⟨i, hi, hix⟩, h1, h2, h3⟩ := kid_path hm hl hk hx
    have hsp : (split (L (at_ t k).f0)).length ≤ 300 := by
      have hmk : may (L (at_ t k).f0) = true := by
        rw [← h3]; exact (dir_spec h2 h1).1
      unfold split
      by_cases e : L (at_ t k).f0 = []
      · rw [if_pos e]; simp
      · rw [if_neg e, if_pos hmk]
        have := cut_len (L (at_ t k).f0)
        have := may_size hmk
        omega
    have hfin : hogsheadlaw3_FindLists.j4 (K + 1) t (k : Int) (names (L (at_ t k).f0) t) (j : Int) false = some true := by
      rw [hogsheadlaw3_FindLists.j4, if_neg (by simp), w_one j (by omega)]
      exact ih (j + 1) K (by omega) (by omega)
    rw [hogsheadlaw3_FindLists.l1, if_pos (by omega), if_pos (by omega), if_pos (by omega), rdN, split_f _ (K + 1) (by omega), some_bind, if_pos (by omega), some_bind, if_pos (by rw [List.length_map]; simp only [List.length_cons, List.length_nil]; omega), hat j hj',
      kid_join hm hl hk hx (K + 1) (by omega), some_bind]
    show ((find_Lookup.f (K + 1) t ((t.filter (child (L (at_ t k).f0)))[j]'hj').f0).bind fun bt233 => _) = _
    rw [look_here hm (by omega) hi _ (by rw [hix]) (K + 1) (by omega), some_bind]
    show (if true = true then _ else _) = _
    rw [if_pos rfl]
    show (if true = true then _ else _) = _
    rw [if_pos rfl]
    by_cases e : j = 0
    · subst e
      rw [if_neg (by omega)]; exact hfin
    · obtain ⟨m, rfl⟩ : ∃ m, j = m + 1 := ⟨j - 1, by omega⟩
      have hw : wrap64 (((m + 1 : Nat) : Int) - 1) = (m : Int) := by rw [wrap_in (by omega) (by omega)]; omega
      rw [if_pos (by omega), hw, if_pos (by omega), if_pos (by omega), hat m (by omega), toL, toL, L_mkB, L_mkB, kid_less hm hl hk (by omega)]
      exact hfin
theorem lists_l0 (K : Nat) (hK : 20000 ≤ K) : hogsheadlaw3_FindLists.l0 K t (k : Int) (names (L (at_ t k).f0) t) true 0 1 = some true := by
  have hle : (t.filter (child (L (at_ t k).f0))).length ≤ t.length := List.length_filter_le _ _
  have h := count_l0 hm hl hk (names (L (at_ t k).f0) t) true (t.length - 1) 1 K 0 (by omega) (by omega) (by omega) (by omega)
  rw [show ((0 : Nat) : Int) = 0 from rfl, show ((1 : Nat) : Int) = 1 from rfl] at h
  rw [h, kids_all hm hl hk]
  obtain ⟨K', hK'⟩ : ∃ m, K - (t.length - 1) = m + 2 := ⟨K - (t.length - 1) - 2, by omega⟩
  rw [hK', hogsheadlaw3_FindLists.l0, if_neg (by omega), if_pos rfl]
  have hne : (((names (L (at_ t k).f0) t).length : Int) != ((0 + (t.filter (child (L (at_ t k).f0))).length : Nat) : Int)) = false := by
    unfold names
    rw [List.length_map, Nat.zero_add]
    simp
  rw [hne, hogsheadlaw3_FindLists.j2, if_neg (by simp)]
  exact lists_l1 hm hl hk (t.filter (child (L (at_ t k).f0))).length 0 K' (by omega) (by omega)
end
theorem lists_true (t : List Nd) (a : Int) : hogsheadlaw3_FindLists.j0 100000 t a true = some true := by
  rw [hogsheadlaw3_FindLists.j0, if_pos rfl]; exact aw _ (by omega)
theorem FindLists : hogsheadlaw3_FindLists.Pure := by
  intro t a ⟨ht, _⟩ ha
  have ht' : t.length ≤ 9223372036854775807 := by unfold maxLen at ht; exact ht
  refine ⟨100000, ?_⟩
  unfold hogsheadlaw3_FindLists.f
  rw [show (60 : Int) = ((60 : Nat) : Int) from rfl, great_f t 60 (by omega) ht' _ (by omega), some_bind]
  by_cases h1 : great t 60 = true
  · rw [if_pos h1]; exact lists_true t a
  obtain ⟨hl, hx⟩ := great_not h1
  rw [if_neg h1, mayT_f t (by omega) _ (by omega), some_bind]
  cases hm : mayT t
  · exact lists_true t a
  have h0 : t.length ≠ 0 := ((mayT_iff t).1 hm).1
  have hr := Int.emod_nonneg (a % 18446744073709551616) (show (t.length : Int) ≠ 0 by omega)
  have hr2 := Int.emod_lt_of_pos (a % 18446744073709551616) (show (0 : Int) < (t.length : Int) by omega)
  show hogsheadlaw3_FindLists.j0 (99999 + 1) t a false = some true
  rw [hogsheadlaw3_FindLists.j0, if_neg (by simp), low_f a _ (by omega) (by omega), some_bind]
  generalize (a % 18446744073709551616) % (t.length : Int) = q at hr hr2
  obtain ⟨k, rfl⟩ : ∃ k : Nat, q = (k : Int) := ⟨q.toNat, by omega⟩
  rw [if_pos (by omega), if_pos (by omega), rdN, list_here hm (by omega) (show k < t.length by omega) (at_ t k).f0 rfl _ (by omega), some_bind]
  by_cases e : (at_ t k).f1 = 1
  · rw [if_pos e, if_pos e]
    exact lists_l0 hm hl (by omega) _ (by omega)
  · rw [if_neg e, if_neg e]
    show (if false = true then _ else _) = _
    rw [if_neg (by simp)]
    show (if (([] : List ByteArray).length : Int) = 0 then _ else _) = _
    rw [if_pos (by simp)]
    exact aw _ (by omega)
end Go.Proofs.YtipnajhimjenbaaDoor.Pure
