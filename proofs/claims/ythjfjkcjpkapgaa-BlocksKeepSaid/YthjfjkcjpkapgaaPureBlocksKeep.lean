/- For any texts: what was put is got again by its numbers, no block stands there twice, like texts have like numbers. No condition. -/
import Derived.Test.YthjfjkcjpkapgaaTabGot
namespace Go.Proofs.Ythjfjkcjpkapgaa.Pure
open Go.RowKit Go.Proofs.YthjfjkcjpkapgaaX Go.Proofs.YthjfjkcjpkapgaaW.PrintWords Go.Proofs.YthjfjkcjpkapgaaW.PrintLast Go.Proofs.YthjfjkcjpkapgaaW.PrintMore Go.Proofs.Ythjfjkcjpkapgaa.P Go.Proofs.Ythjfjkcjpkapgaa.Bs Go.Proofs.Ythjfjkcjpkapgaa.Tab
set_option linter.unusedVariables false
set_option linter.unusedSimpArgs false
theorem rdL_nat (xs : List (List Int)) (i : Nat) (h : i < xs.length) : rd_L5 xs (i : Int) = xs[i] := by
  unfold rd_L5
  rw [Int.toNat_natCast, List.getD_eq_getElem?_getD, List.getElem?_eq_getElem h]; rfl
/-- Each of all blocks: unlike those ahead, of 1 to 64 bytes. -/
theorem l4_f {L : List ByteArray} (hL : GoodT L) (hl : L.length ≤ 4000) (M : List ByteArray) {i : Nat} (hi : i < L.length) : ∀ d k (j : Nat), j + d = i → d + 1 < k → hogsheadlaw18_BlocksKeep.l4 k L (i : Int) (j : Int) M false = hogsheadlaw18_BlocksKeep.l3 (k - d - 2) L ((i + 1 : Nat) : Int) M false
  | d, 0, j, _, hk => absurd hk (by omega)
  | d, 1, j, _, hk => absurd hk (by omega)
  | 0, k + 2, j, hj, hk => by
    obtain rfl : j = i := by omega
    have hs := hL.2 _ (List.getElem_mem hi)
    rw [hogsheadlaw18_BlocksKeep.l4, if_neg (by omega), if_pos (by omega), if_pos (by omega), rdOf_nat L j hi, if_neg (by omega), hogsheadlaw18_BlocksKeep.j7, decide_eq_false (by omega), if_neg (by simp), w_1 (by omega)]
    rfl
  | d + 1, k + 2, j, hj, hk => by
    rw [hogsheadlaw18_BlocksKeep.l4, if_pos (by omega), if_pos (by omega), if_pos (by omega), if_pos (by omega), if_pos (by omega), rdOf_nat L i hi, rdOf_nat L j (by omega), if_neg (fun e => by
      have := nodup_at hL.1 hi (by omega) (toList_inj.1 e)
      omega), w_1 (by omega), l4_f hL hl M hi d (k + 1) (j + 1) (by omega) (by omega)]
    congr 1
    omega
theorem l3_f {L : List ByteArray} (hL : GoodT L) (hl : L.length ≤ 4000) : ∀ d k (i : Nat), i + d = L.length → 5000 * d + 11 < k → hogsheadlaw18_BlocksKeep.l3 k L (i : Int) L false = some true
  | d, 0, i, _, hk => absurd hk (by omega)
  | 0, k + 1, i, hi, hk => by
    rw [hogsheadlaw18_BlocksKeep.l3, if_neg (by omega), blocks_Table_Len.f, some_bind, if_pos rfl, awake_f (by omega)]; rfl
  | d + 1, k + 1, i, hi, hk => by
    rw [hogsheadlaw18_BlocksKeep.l3, if_pos (by omega)]
    have h := l4_f hL hl L (show i < L.length by omega) i k 0 (by omega) (by omega)
    refine h.trans (l3_f hL hl d _ (i + 1) (by omega) (by omega))
/-- The numbers of like texts, and of unlike ones. -/
theorem l2_f {T : List ByteArray} {I : List (List Int)} {L : List ByteArray} (hT : ∀ j, (h : j < T.length) → T[j].size ≤ 400) (hI : I.length = T.length) (hl : T.length ≤ 20) (hL : GoodT L) (hG : ∀ j, (h : j < T.length) → Got L (I[j]'(by omega)) (cutL T[j])) {i : Nat} (hi : i < T.length) : ∀ d k (j : Nat), j + d = i → d + 50 < k → hogsheadlaw18_BlocksKeep.l2 k T I (i : Int) (j : Int) L false = hogsheadlaw18_BlocksKeep.l1 (k - d - 1) T I ((i + 1 : Nat) : Int) L false
  | d, 0, j, _, hk => absurd hk (by omega)
  | 0, k + 1, j, hj, hk => by
    rw [hogsheadlaw18_BlocksKeep.l2, if_neg (by omega), w_1 (by omega)]; rfl
  | d + 1, k + 1, j, hj, hk => by
    have g1 := hG i hi
    have g2 := hG j (by omega)
    have e1 := (cutL_facts _ T[j] (Nat.le_refl _)).2.1
    have s1 := hT j (by omega)
    rw [hogsheadlaw18_BlocksKeep.l2, if_pos (by omega), if_pos (by omega), if_pos (by omega), if_pos (by omega), if_pos (by omega), rdL_nat I i (by omega), rdL_nat I j (by omega), ints_f (by rw [g2.1, e1]; omega) (by rw [g2.1, e1]; omega), some_bind, if_pos (by omega), if_pos (by omega), rdOf_nat T i hi, rdOf_nat T j (by omega)]
    have hq : (decide (I[j]'(by omega) = I[i]'(by omega)) != (T[j].toList == T[i].toList)) = false := by
      by_cases h : T[j] = T[i]
      · have h2 : I[j]'(by omega) = I[i]'(by omega) := Got.same hL.1 g2 (by rw [h]; exact g1)
        rw [decide_eq_true h2, h]; simp
      · have h2 : ¬ I[j]'(by omega) = I[i]'(by omega) := fun e => h (cutL_inj (Got.texts g2 (by rw [e]; exact g1)))
        rw [decide_eq_false h2, beq_eq_false_iff_ne.2 (fun e => h (toList_inj.1 e))]; rfl
    rw [hq, if_neg (by simp), w_1 (by omega), l2_f hT hI hl hL hG hi d k (j + 1) (by omega) (by omega)]
    congr 1
    omega
theorem clone_f {l : List ByteArray} (h : l.length ≤ 1000000) : slices_Clone_string_string.f l = some l := by
  unfold slices_Clone_string_string.f
  rw [some_bind, if_pos (by rw [List.length_nil]; omega), List.nil_append]
theorem l1_f {T : List ByteArray} {I : List (List Int)} {L : List ByteArray} (hT : ∀ j, (h : j < T.length) → T[j].size ≤ 400) (hI : I.length = T.length) (hl : T.length ≤ 20) (hL : GoodT L) (hLl : L.length ≤ 140) (hG : ∀ j, (h : j < T.length) → Got L (I[j]'(by omega)) (cutL T[j])) : ∀ d k (i : Nat), i + d = T.length → 1000 * d + 1000000 < k → hogsheadlaw18_BlocksKeep.l1 k T I (i : Int) L false = some true
  | d, 0, i, _, hk => absurd hk (by omega)
  | d, 1, i, _, hk => absurd hk (by omega)
  | 0, k + 2, i, hi, hk => by
    rw [hogsheadlaw18_BlocksKeep.l1, if_neg (by omega), blocks_Table_All.f, clone_f (by omega), some_bind, some_bind]
    exact l3_f hL (by omega) L.length _ 0 (by omega) (by omega)
  | d + 1, k + 2, i, hi, hk => by
    rw [hogsheadlaw18_BlocksKeep.l1, if_pos (by omega), if_pos (by omega), if_pos (by omega), rdL_nat I i (by omega), got_f (hG i (by omega)) (by have := hT i (by omega); omega) (by omega) (by have := hT i (by omega); omega), some_bind, rdOf_nat T i (by omega), if_pos rfl, hogsheadlaw18_BlocksKeep.j3, if_neg (by simp)]
    have h := l2_f hT hI hl hL hG (show i < T.length by omega) i k 0 (by omega) (by omega)
    refine h.trans (l1_f hT hI hl hL hLl hG d _ (i + 1) (by omega) (by omega))
theorem l0_f {T : List ByteArray} (hT : ∀ j, (h : j < T.length) → T[j].size ≤ 400) (hl : T.length ≤ 20) : ∀ d k (i : Nat) (I : List (List Int)) (L : List ByteArray), (hid : i + d = T.length) → 1000 * d + 2000000 < k → (hI : I.length = i) → GoodT L → L.length ≤ 7 * i → (∀ j, (h : j < i) → Got L (I[j]'(by omega)) (cutL (T[j]'(by omega)))) → hogsheadlaw18_BlocksKeep.l0 k T I (i : Int) L false = some true
  | d, 0, i, I, L, _, hk, _, _, _, _ => absurd hk (by omega)
  | d, 1, i, I, L, _, hk, _, _, _, _ => absurd hk (by omega)
  | 0, k + 2, i, I, L, hi, hk, hI, hL, hLl, hG => by
    obtain rfl : i = T.length := by omega
    rw [hogsheadlaw18_BlocksKeep.l0, if_neg (by omega)]
    exact l1_f hT hI hl hL (by omega) hG T.length _ 0 (by omega) (by omega)
  | d + 1, k + 2, i, I, L, hi, hk, hI, hL, hLl, hG => by
    have s1 := hT i (by omega)
    have e1 := (cutL_facts _ T[i] (Nat.le_refl _)).2.1
    obtain ⟨p1, p2⟩ := put_some (L := L) (b := false) (s := T[i]) (k := k + 1) (by omega) (by omega) (by omega)
    have hlen : ((putGo L [] (cutL T[i])).1.length : Int) = wrap64 (Int.tdiv (wrap64 ((wrap64 ((T[i].size : Int) + 64)) - 1)) 64) := by
      have h1 := putGo_len L (cutL T[i]) []
      rw [e1] at h1
      generalize (putGo L [] (cutL T[i])).1.length = z at h1 ⊢
      rw [show wrap64 ((T[i].size : Int) + 64) = (T[i].size : Int) + 64 from wrap_in (by omega) (by omega), show wrap64 ((T[i].size : Int) + 64 - 1) = (T[i].size : Int) + 64 - 1 from wrap_in (by omega) (by omega), Int.tdiv_eq_ediv_of_nonneg (by omega)]
      have h2 : ((T[i].size : Int) + 64 - 1) / 64 = (z : Int) := by omega
      rw [h2, wrap_in (by omega) (by omega)]
    rw [hogsheadlaw18_BlocksKeep.l0, if_pos (by omega), if_pos (by omega), rdOf_nat T i (by omega), p1, some_bind, if_pos rfl, hogsheadlaw18_BlocksKeep.j1]
    dsimp only
    rw [bne_eq_false_iff_eq.2 hlen, if_neg (by simp), if_pos (by omega), w_1 (by omega)]
    refine l0_f hT hl d k (i + 1) _ _ (by omega) (by omega) (by rw [List.length_append, List.length_singleton, hI]) (hL.put _) (by omega) (fun j hj => ?_)
    by_cases hji : j < i
    · rw [List.getElem_append_left (by omega)]
      exact (hG j hji).more
    · obtain rfl : j = i := by omega
      rw [List.getElem_append_right (by omega)]
      simp only [hI, Nat.sub_self, List.getElem_singleton]
      exact Got.of L _
theorem BlocksKeep : hogsheadlaw18_BlocksKeep.Pure := fun T hw => by
  refine ⟨3000000, ?_⟩
  obtain ⟨b, h1, h2⟩ := great_f (x0 := T) (m := 20) (n := 400) (by have := hw.1; unfold maxLen at this; omega) (by omega) (by omega) (k := 3000000) (by omega)
  rw [hogsheadlaw18_BlocksKeep.f, h1, some_bind]
  cases b with
  | true => rw [if_pos rfl, awake_f (by omega)]; rfl
  | false =>
    obtain ⟨h3, h4⟩ := h2 rfl
    rw [if_neg (by simp), blocks_New.f, some_bind]
    exact l0_f (fun j h => by have := h4 j h; omega) (by omega) T.length _ 0 [] [] (by omega) (by omega) rfl ⟨List.nodup_nil, fun p hp => by cases hp⟩ (by simp) (fun j h => absurd h (by omega))
end Go.Proofs.Ythjfjkcjpkapgaa.Pure
