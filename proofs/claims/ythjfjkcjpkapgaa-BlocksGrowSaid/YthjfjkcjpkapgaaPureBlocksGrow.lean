/- For any texts: what is put later is added behind alone, as many blocks as are new, and two tables into which the same is put are the same. No condition. -/
import Derived.Test.YthjfjkcjpkapgaaTabGot
namespace Go.Proofs.Ythjfjkcjpkapgaa.Pure
open Go.RowKit Go.Proofs.YthjfjkcjpkapgaaX Go.Proofs.YthjfjkcjpkapgaaW.PrintWords Go.Proofs.YthjfjkcjpkapgaaW.PrintLast Go.Proofs.YthjfjkcjpkapgaaW.PrintMore Go.Proofs.Ythjfjkcjpkapgaa.P Go.Proofs.Ythjfjkcjpkapgaa.Bs Go.Proofs.Ythjfjkcjpkapgaa.Tab
set_option linter.unusedVariables false
set_option linter.unusedSimpArgs false
theorem clone_f {l : List ByteArray} (h : l.length ≤ 1000000) : slices_Clone_string_string.f l = some l := by
  unfold slices_Clone_string_string.f
  rw [some_bind, if_pos (by rw [List.length_nil]; omega), List.nil_append]
theorem texts_l0 (a : List ByteArray) (hl : a.length ≤ 1000000) : ∀ d k (i : Nat), i + d = a.length → d < k → hogsheadlaw0_SameTexts.l0 k a a (i : Int) = some true
  | d, 0, i, _, hk => absurd hk (by omega)
  | 0, k + 1, i, hi, _ => by rw [hogsheadlaw0_SameTexts.l0, if_neg (by omega)]
  | d + 1, k + 1, i, hi, hk => by rw [hogsheadlaw0_SameTexts.l0, if_pos (by omega), if_pos (by omega), if_pos (by omega), if_pos rfl, w_1 (by omega), texts_l0 a hl d k (i + 1) (by omega) (by omega)]
theorem texts_f {a : List ByteArray} (hl : a.length ≤ 1000000) {k : Nat} (hk : a.length < k) : hogsheadlaw0_SameTexts.f k a a = some true := by
  rw [hogsheadlaw0_SameTexts.f, if_pos rfl]
  exact texts_l0 a hl a.length k 0 (by omega) hk
theorem in_l0 (a : List Int) (n : Int) (hl : a.length ≤ 1000000) : ∀ d k (i : Nat), i + d = a.length → d < k → (∃ j : Nat, i ≤ j ∧ a[j]? = some n) → hogsheadlaw18_in.l0 k a n (i : Int) = some true
  | d, 0, i, _, hk, _ => absurd hk (by omega)
  | 0, k + 1, i, hi, _, ⟨j, h1, h2⟩ => by
    have := (List.getElem?_eq_some_iff.1 h2).1
    omega
  | d + 1, k + 1, i, hi, hk, ⟨j, h1, h2⟩ => by
    rw [hogsheadlaw18_in.l0, if_pos (by omega), if_pos (by omega), rd_nat a i (by omega)]
    by_cases h : a[i] = n
    · rw [if_pos h]
    · have hj : j ≠ i := by
        rintro rfl
        obtain ⟨q1, q2⟩ := List.getElem?_eq_some_iff.1 h2
        exact h q2
      rw [if_neg h, w_1 (by omega), in_l0 a n hl d k (i + 1) (by omega) (by omega) ⟨j, by omega, h2⟩]
theorem in_f {a : List Int} {n : Int} (hl : a.length ≤ 1000000) {k : Nat} (hk : a.length < k) (hm : n ∈ a) : hogsheadlaw18_in.f k a n = some true := by
  obtain ⟨j, hj, e⟩ := List.mem_iff_getElem.1 hm
  exact in_l0 a n hl a.length k 0 (by omega) hk ⟨j, by omega, List.getElem?_eq_some_iff.2 ⟨hj, e⟩⟩
/-- Each new place is told. -/
theorem putGo_ids (L : List ByteArray) : ∀ ps F (j : Nat), L.length + F.length ≤ j → j < L.length + (putGo L F ps).2.length → (j : Int) ∈ (putGo L F ps).1
  | [], F, j, h1, h2 => by
    rw [putGo] at h2
    exact absurd h2 (by show ¬ j < L.length + F.length; omega)
  | p :: ps, F, j, h1, h2 => by
    rw [putGo] at h2 ⊢
    cases hp : pos (L ++ F) p with
    | some i =>
      rw [hp] at h2
      exact List.mem_cons_of_mem _ (putGo_ids L ps F j h1 h2)
    | none =>
      rw [hp] at h2
      by_cases hj : j = L.length + F.length
      · exact hj ▸ List.mem_cons_self
      · exact List.mem_cons_of_mem _ (putGo_ids L ps (F ++ [p]) j (by rw [List.length_append, List.length_singleton]; omega) h2)
/-- Behind what stood there: unlike blocks, each of them told. -/
theorem l2_f {T L M : List ByteArray} {I : List Int} {x6 : Int} (hM : M.Nodup) (hl : M.length ≤ 4000) (hI : I.length ≤ 1000) (hin : ∀ j : Nat, L.length ≤ j → j < M.length → (j : Int) ∈ I) : ∀ d k (j : Nat), L.length ≤ j → j + d = M.length → 2 * d + 2000 < k → hogsheadlaw18_BlocksGrow.l2 k T L x6 I M (j : Int) M false = hogsheadlaw18_BlocksGrow.l0 (k - 2 * d - 1) T M (wrap64 (x6 + 1)) M false
  | d, 0, j, _, _, hk => absurd hk (by omega)
  | d, 1, j, _, _, hk => absurd hk (by omega)
  | 0, k + 2, j, h0, hj, hk => by
    rw [hogsheadlaw18_BlocksGrow.l2, if_neg (by omega)]; rfl
  | d + 1, k + 2, j, h0, hj, hk => by
    have ih := l2_f (T := T) (x6 := x6) hM hl hI hin d k (j + 1) (by omega) (by omega) (by omega)
    have e : k + 2 - 2 * (d + 1) - 1 = k - 2 * d - 1 := by omega
    rw [hogsheadlaw18_BlocksGrow.l2, if_pos (by omega), in_f (by omega) (by omega) (hin j h0 (by omega)), some_bind, e, ← ih]
    have ej : hogsheadlaw18_BlocksGrow.j5 (k + 1) T L x6 I M (j : Int) (!true) M false = hogsheadlaw18_BlocksGrow.l2 k T L x6 I M ((j + 1 : Nat) : Int) M false := by rw [hogsheadlaw18_BlocksGrow.j5, if_neg (by simp), w_1 (by omega)]
    by_cases h1 : (j : Int) > (L.length : Int)
    · have w1 : wrap64 ((j : Int) - 1) = ((j - 1 : Nat) : Int) := by rw [wrap_in (by omega) (by omega)]; omega
      rw [if_pos h1, if_pos (by omega), w1, if_pos (by omega), if_pos (by omega), rdOf_nat M j (by omega), rdOf_nat M (j - 1) (by omega), if_neg (fun e => by
        have := nodup_at hM (by omega) (by omega) (toList_inj.1 e)
        omega)]
      exact ej
    · rw [if_neg h1]
      exact ej
theorem l1_f {T L M : List ByteArray} {I : List Int} {x6 : Int} (hM : M.Nodup) (hl : M.length ≤ 4000) (hI : I.length ≤ 1000) (hLM : L.length ≤ M.length) (hin : ∀ j : Nat, L.length ≤ j → j < M.length → (j : Int) ∈ I) (hid : ∀ j, (h : j < I.length) → 0 ≤ I[j] ∧ I[j] < (M.length : Int)) : ∀ d k (j : Nat), j + d = I.length → 2 * d + 20000 < k → hogsheadlaw18_BlocksGrow.l1 k T L x6 I M (j : Int) M false = hogsheadlaw18_BlocksGrow.l0 (k - 2 * d - 2 - 2 * (M.length - L.length)) T M (wrap64 (x6 + 1)) M false
  | d, 0, j, _, hk => absurd hk (by omega)
  | d, 1, j, _, hk => absurd hk (by omega)
  | 0, k + 2, j, hj, hk => by
    rw [hogsheadlaw18_BlocksGrow.l1, if_neg (by omega), l2_f hM hl hI hin (M.length - L.length) (k + 1) L.length (by omega) (by omega) (by omega)]
    congr 1
    omega
  | d + 1, k + 2, j, hj, hk => by
    have h := hid j (by omega)
    have ih := l1_f (T := T) (x6 := x6) hM hl hI hLM hin hid d k (j + 1) (by omega) (by omega)
    rw [hogsheadlaw18_BlocksGrow.l1, if_pos (by omega), if_pos (by omega), rd_nat I j (by omega), if_neg (by omega), decide_eq_false (by omega), hogsheadlaw18_BlocksGrow.j3, if_neg (by simp), w_1 (by omega), ih]
    congr 1
    omega
theorem l0_f {T : List ByteArray} (hT : ∀ j, (h : j < T.length) → T[j].size ≤ 500) (hl : T.length ≤ 12) : ∀ d k (i : Nat) (L : List ByteArray), i + d = T.length → 100000 * d + 100000 < k → L.Nodup → L.length ≤ 8 * i → hogsheadlaw18_BlocksGrow.l0 k T L (i : Int) L false = some true
  | d, 0, i, L, _, hk, _, _ => absurd hk (by omega)
  | d, 1, i, L, _, hk, _, _ => absurd hk (by omega)
  | 0, k + 2, i, L, hi, hk, hL, hLl => by
    rw [hogsheadlaw18_BlocksGrow.l0, if_neg (by omega), blocks_Table_All.f, clone_f (by omega), some_bind, some_bind]
    dsimp only
    rw [texts_f (by omega) (by omega), some_bind, if_pos rfl, blocks_Table_Len.f, some_bind]
    dsimp only
    rw [if_pos rfl, awake_f (by omega)]; rfl
  | d + 1, k + 2, i, L, hi, hk, hL, hLl => by
    have s1 := hT i (by omega)
    have e1 := (cutL_facts _ T[i] (Nat.le_refl _)).2.1
    obtain ⟨p1, p2⟩ := put_some (L := L) (b := false) (s := T[i]) (k := k + 1) (by omega) (by omega) (by omega)
    have p3 := put_again p1
    obtain ⟨G, g1, g2⟩ := putGo_pre L (cutL T[i]) []
    have hI := putGo_len L (cutL T[i]) []
    have hg := Got.of L (cutL T[i])
    have hnd := putGo_nodup hL (cutL T[i])
    have hids := putGo_ids L (cutL T[i]) []
    rw [List.nil_append] at g1
    rw [hogsheadlaw18_BlocksGrow.l0, if_pos (by omega), if_pos (by omega), rdOf_nat T i (by omega), p1, some_bind]
    dsimp only
    rw [p3, some_bind]
    dsimp only
    rw [blocks_Table_All.f, clone_f (by omega), some_bind, some_bind]
    dsimp only
    clear p1 p3
    generalize (putGo L [] (cutL T[i])).1 = I at hI hg hids ⊢
    generalize (putGo L [] (cutL T[i])).2 = G' at g1 hg hnd hids p2 ⊢
    subst g1
    have hlen : (L ++ G').length = L.length + G'.length := List.length_append
    have hw : wrap64 ((L.length : Int) + (I.length : Int)) = (L.length : Int) + (I.length : Int) := wrap_in (by omega) (by omega)
    rw [if_pos (show (0 : Int) = 0 from rfl)]
    rw [if_pos (show (0 : Int) = 0 from rfl)]
    rw [ints_f (by omega) (by omega), some_bind]
    rw [if_pos (show decide (I = I) = true by simp)]
    rw [if_neg (show ¬ ((L ++ G').length : Int) < (L.length : Int) by omega)]
    rw [hw]
    clear hw
    rw [if_neg (show ¬ ((L ++ G').length : Int) > (L.length : Int) + (I.length : Int) by omega)]
    rw [if_pos (show (0 : Int) ≤ (L.length : Int) by omega)]
    rw [if_pos (show (L.length : Int) ≤ ((L ++ G').length : Int) by omega)]
    rw [Int.toNat_natCast, List.take_left, texts_f (by omega) (by omega), some_bind]
    rw [hogsheadlaw18_BlocksGrow.j1]
    rw [if_neg (show ¬ ((!true) = true) by simp)]
    have hk1 := l1_f (T := T) (L := L) (M := L ++ G') (I := I) (x6 := (i : Int)) hnd (by omega) (by omega) (by omega) (fun j h1 h2 => hids j (by simpa using h1) (by omega)) (fun j h => by
      obtain ⟨i', q1, q2⟩ := hg.2 j (by omega)
      obtain ⟨q3, q4⟩ := List.getElem?_eq_some_iff.1 q1
      rw [q4]
      rw [List.getElem?_eq_getElem (show j < (cutL T[i]).length by omega)] at q2
      have := (List.getElem?_eq_some_iff.1 q2).1
      omega) I.length k 0 (by omega) (by omega)
    refine hk1.trans ?_
    rw [w_1 (by omega)]
    exact l0_f hT hl d _ (i + 1) _ (by omega) (by omega) hnd (by omega)
theorem BlocksGrow : hogsheadlaw18_BlocksGrow.Pure := fun T hw => by
  refine ⟨3000000, ?_⟩
  obtain ⟨b, h1, h2⟩ := great_f (x0 := T) (m := 12) (n := 500) (by have := hw.1; unfold maxLen at this; omega) (by omega) (by omega) (k := 3000000) (by omega)
  rw [hogsheadlaw18_BlocksGrow.f, h1, some_bind]
  cases b with
  | true => rw [if_pos rfl, awake_f (by omega)]; rfl
  | false =>
    obtain ⟨h3, h4⟩ := h2 rfl
    rw [if_neg (by simp), blocks_New.f, some_bind]
    exact l0_f (fun j h => by have := h4 j h; omega) (by omega) T.length _ 0 [] (by omega) (by omega) List.nodup_nil (by simp)
end Go.Proofs.Ythjfjkcjpkapgaa.Pure
