/- For any texts and numbers: whatever is put, and got, each call answers as the document says. No condition. -/
import Derived.Test.YthjfjkcjpkapgaaTabGot
import Derived.Test.YthjfjkcjpkapgaaTabDuoTh
namespace Go.Proofs.Ythjfjkcjpkapgaa.Pure
open Go.RowKit Go.Proofs.YthjfjkcjpkapgaaX Go.Proofs.YthjfjkcjpkapgaaW.PrintWords Go.Proofs.YthjfjkcjpkapgaaW.PrintLast Go.Proofs.YthjfjkcjpkapgaaW.PrintMore Go.Proofs.Ythjfjkcjpkapgaa.P Go.Proofs.Ythjfjkcjpkapgaa.Bs Go.Proofs.Ythjfjkcjpkapgaa.Tab
set_option linter.unusedVariables false
set_option linter.unusedSimpArgs false
theorem clone_f {l : List ByteArray} (h : l.length ≤ 1000000) : slices_Clone_string_string.f l = some l := by
  unfold slices_Clone_string_string.f
  rw [some_bind, if_pos (by rw [List.length_nil]; omega), List.nil_append]
theorem texts_l0 (a : List ByteArray) (hl : a.length ≤ 1000000) : ∀ d k (i : Nat), i + d = a.length → d < k → hogsheadlaw0_SameTexts.l0 k a a (i : Int) = some true
  | d, 0, i, _, hk => absurd hk (by omega)
  | 0, k + 1, i, hi, _ => by rw [hogsheadlaw0_SameTexts.l0, if_neg (by omega)]
  | d + 1, k + 1, i, hi, hk => by rw [hogsheadlaw0_SameTexts.l0, if_pos (by omega), if_pos (by omega), if_pos (by omega), if_pos rfl, w_1 (by omega), texts_l0 a hl d k (i + 1) (by omega) (by omega)]
theorem texts_f {a : List ByteArray} (hl : a.length ≤ 1000000) {k : Nat} (hk : a.length < k) : hogsheadlaw0_SameTexts.f k a a = some true := by
  rw [hogsheadlaw0_SameTexts.f, if_pos rfl]
  exact texts_l0 a hl a.length k 0 (by omega) hk
theorem overInts_l0 : ∀ d k (a : List Int) (i : Nat), a.length ≤ 1000000 → i + d = a.length → d < k → hogsheadlaw0_OverInts.l0 k a (i : Int) = some ()
  | d, 0, a, i, _, _, hk => absurd hk (by omega)
  | 0, k + 1, a, i, hl, hi, _ => by rw [hogsheadlaw0_OverInts.l0, if_neg (by omega), if_pos (by omega)]
  | d + 1, k + 1, a, i, hl, hi, hk => by rw [hogsheadlaw0_OverInts.l0, if_pos (by omega), if_pos (by omega), w_1 (by omega), overInts_l0 d k _ (i + 1) (by rw [List.length_set]; exact hl) (by rw [List.length_set]; omega) (by omega)]
theorem overTexts_l0 : ∀ d k (a : List ByteArray) (i : Nat), a.length ≤ 1000000 → i + d = a.length → d < k → hogsheadlaw0_OverTexts.l0 k a (i : Int) = some ()
  | d, 0, a, i, _, _, hk => absurd hk (by omega)
  | 0, k + 1, a, i, hl, hi, _ => by rw [hogsheadlaw0_OverTexts.l0, if_neg (by omega), if_pos (by omega)]
  | d + 1, k + 1, a, i, hl, hi, hk => by rw [hogsheadlaw0_OverTexts.l0, if_pos (by omega), if_pos (by omega), w_1 (by omega), overTexts_l0 d k _ (i + 1) (by rw [List.length_set]; exact hl) (by rw [List.length_set]; omega) (by omega)]
theorem rdOf_small {L : List ByteArray} (hL : ∀ p ∈ L, p.size ≤ 64) (x : Int) : (rdOf ByteArray.empty L x).size ≤ 64 := by
  unfold rdOf
  rw [List.getD_eq_getElem?_getD]
  cases h : L[x.toNat]? with
  | none => simp
  | some p => exact hL p (List.mem_of_getElem? h)
theorem get_l0 {L : List ByteArray} {b : Bool} {ids : List Int} (hL : ∀ p ∈ L, p.size ≤ 64) (hi : ids.length ≤ 1000000) : ∀ d k (j : Nat) out, j + d = ids.length → d < k → out.length ≤ 64 * j → ∃ u o, blocks_Table_Get.l0 k out ids (ids.length : Int) (j : Int) L b = some (u, o, L, b)
  | d, 0, j, out, _, hk, _ => absurd hk (by omega)
  | 0, k + 1, j, out, hj, hk, ho => by
    rw [blocks_Table_Get.l0, if_neg (by omega)]
    exact ⟨_, _, rfl⟩
  | d + 1, k + 1, j, out, hj, hk, ho => by
    have hs := rdOf_small hL (rd ids (j : Int))
    rw [blocks_Table_Get.l0, if_pos (by omega), if_pos (by omega), if_pos (by omega)]
    by_cases h3 : rd ids (j : Int) < 0
    · rw [if_pos h3]; exact ⟨_, _, rfl⟩
    · rw [if_neg h3]
      by_cases h4 : rd ids (j : Int) ≥ (L.length : Int)
      · rw [if_pos h4]; exact ⟨_, _, rfl⟩
      · rw [if_neg h4, if_pos (by omega), if_pos (by omega), if_pos (by omega), w_1 (by omega)]
        exact get_l0 hL hi d k (j + 1) _ (by omega) (by omega) (by rw [List.length_append, bytesOf_length]; omega)
theorem get_f {L : List ByteArray} {b : Bool} {ids : List Int} (hL : ∀ p ∈ L, p.size ≤ 64) (hi : ids.length ≤ 1000000) {k : Nat} (hk : ids.length < k) : ∃ u o, blocks_Table_Get.f k L b ids = some (u, o, L, b) := get_l0 hL hi ids.length k 0 [] (by omega) hk (by simp)
theorem cutref_f {s : ByteArray} {k : Nat} (hs : s.size ≤ 400) (hk : 1000 ≤ k) : hogsheadref18_Cut.f k s = some (cutL s) := by
  have hf := (cutL_facts _ s (Nat.le_refl _)).2.1
  exact at_rounds (g := fun k => hogsheadref18_Cut.f k s) (fun k => hogsheadref18_Cut.mono s k) (show 999 + 1 ≤ k by omega) (Duo.cut_ref (cut_f (by omega) (by omega)) (by omega))
theorem l0_f {T : List ByteArray} {ids : List Int} (hT : ∀ j, (h : j < T.length) → T[j].size ≤ 400) (hl : T.length ≤ 30) (hi : ids.length ≤ 20) : ∀ d k (i : Nat) (L : List ByteArray), i + d = T.length → 2 * d + 100000 < k → GoodT L → L.length ≤ 7 * i → hogsheadlaw18_BlocksScript.l0 k T ids (i : Int) L false = some true
  | d, 0, i, L, _, hk, _, _ => absurd hk (by omega)
  | d, 1, i, L, _, hk, _, _ => absurd hk (by omega)
  | 0, k + 2, i, L, hi', hk, hL, hLl => by
    rw [hogsheadlaw18_BlocksScript.l0, if_neg (by omega), blocks_Table_All.f, clone_f (by omega), some_bind, some_bind]
    dsimp only
    rw [tab_SameL.f, texts_f (by omega) (by omega), some_bind, some_bind]
    dsimp only
    rw [if_pos rfl, awake_f (by omega)]; rfl
  | d + 1, k + 2, i, L, hi', hk, hL, hLl => by
    have s1 := hT i (by omega)
    have e1 := (cutL_facts _ T[i] (Nat.le_refl _)).2.1
    obtain ⟨p1, p2⟩ := put_some (L := L) (b := false) (s := T[i]) (k := k + 1) (by omega) (by omega) (by omega)
    have p3 := put_again p1
    have hg := hL.put T[i]
    have hI := putGo_len L (cutL T[i]) []
    have p4 := cut_f (k := k + 1) (s := T[i]) (by omega) (by omega)
    have p5 := cutref_f (k := k + 1) (s := T[i]) (by omega) (by omega)
    obtain ⟨u, o, p6⟩ := get_f (L := L ++ (putGo L [] (cutL T[i])).2) (b := false) (ids := ids) (fun p hp => (hg.2 p hp).2) (by omega) (k := k + 1) (by omega)
    rw [hogsheadlaw18_BlocksScript.l0, if_pos (by omega), if_pos (by omega), rdOf_nat T i (by omega), p1, some_bind]
    dsimp only
    rw [p3, some_bind]
    dsimp only
    rw [p4, some_bind, p6, some_bind]
    dsimp only
    rw [p6, some_bind]
    dsimp only
    rw [blocks_Table_All.f, clone_f (by omega), some_bind, some_bind]
    dsimp only
    rw [ints_f (by omega) (by omega), some_bind, if_pos (by simp), hogsheadlaw0_Num.f, some_bind, if_pos rfl, p5, some_bind, texts_f (by omega) (by omega), some_bind, if_pos rfl, if_pos rfl, if_neg (by simp), blocks_Table_Len.f, some_bind]
    dsimp only
    rw [if_pos rfl, tab_SameL.f, texts_f (by omega) (by omega), some_bind, some_bind]
    dsimp only
    rw [hogsheadlaw18_BlocksScript.j2, if_neg (by simp), hogsheadlaw0_OverInts.f, show ((0 : Int)) = ((0 : Nat) : Int) from rfl, overInts_l0 _ k _ 0 (by omega) (Nat.zero_add _) (by omega), some_bind, hogsheadlaw0_OverTexts.f, show ((0 : Int)) = ((0 : Nat) : Int) from rfl, overTexts_l0 _ k _ 0 (by omega) (Nat.zero_add _) (by omega), some_bind, w_1 (by omega)]
    exact l0_f hT hl hi d k (i + 1) _ (by omega) (by omega) hg (by omega)
theorem BlocksScript : hogsheadlaw18_BlocksScript.Pure := fun T ids hw hv => by
  refine ⟨3000001, ?_⟩
  obtain ⟨b, h1, h2⟩ := great_f (x0 := T) (m := 30) (n := 400) (by have := hw.1; unfold maxLen at this; omega) (by omega) (by omega) (k := 3000001) (by omega)
  rw [hogsheadlaw18_BlocksScript.f, h1, some_bind]
  cases b with
  | true => rw [if_pos rfl, hogsheadlaw18_BlocksScript.j0, if_pos rfl, awake_f (by omega)]; rfl
  | false =>
    obtain ⟨h3, h4⟩ := h2 rfl
    rw [if_neg (by simp), hogsheadlaw18_BlocksScript.j0]
    by_cases h5 : (ids.length : Int) > 20
    · rw [if_pos (decide_eq_true h5), awake_f (by omega)]; rfl
    · rw [if_neg (by rw [decide_eq_false h5]; simp), blocks_New.f, some_bind]
      exact l0_f (fun j h => by have := h4 j h; omega) (by omega) (by omega) T.length _ 0 [] (by omega) (by omega) ⟨List.nodup_nil, fun p hp => by cases hp⟩ (by simp)
end Go.Proofs.Ythjfjkcjpkapgaa.Pure
