/- The printed functions of the plain reference of package path are the plain ones (over PaTh). -/
import Derived.Test.YtbhjoflpnepikaaDoorPaTh
namespace Go.Proofs.YtbhjoflpnepikaaDoor.PaTh
open Go.RowKit Go.Proofs.YtbhjoflpnepikaaDoorX Go.Proofs.YtbhjoflpnepikaaDoorW.PrintWords Go.Proofs.YtbhjoflpnepikaaDoorW.PrintLast Go.Proofs.YtbhjoflpnepikaaDoorW.PrintMore Go.Proofs.YtbhjoflpnepikaaDoor.P Go.Proofs.YtbhjoflpnepikaaDoor.Pa
set_option linter.unusedVariables false
set_option linter.unusedSimpArgs false
theorem refPart_end (l : List UInt8) (s : ByteArray) (hs : L s = l) :
    (if (s.size : Int) ≥ 1 then (if (s.size : Int) ≤ 60 then (if s.toList = ([46] : List UInt8) then (some false) else (if s.toList = ([46, 46] : List UInt8) then (some false) else (if (s.size : Int) ≥ 4 then (if (0 : Int) ≤ 4 then (if 4 ≤ (s.size : Int) then (some (!((s.extract 0 4).toList == ([46, 119, 104, 46] : List UInt8)))) else (none)) else (none)) else (some (!false))))) else (some false)) else (some false))
      = some (decide (l ≠ [] ∧ l.length ≤ 60 ∧ l ≠ [46] ∧ l ≠ [46, 46] ∧ l.take 4 ≠ [46, 119, 104, 46])) := by
  rw [toL, toL, L_extract, List.drop_zero, size_L, hs]
  by_cases h1 : l = []
  · rw [if_neg (by rw [h1]; simp), decide_eq_false (fun h => h.1 h1)]
  have h1' : l.length ≠ 0 := fun e => h1 (List.eq_nil_of_length_eq_zero e)
  rw [if_pos (show (l.length : Int) ≥ 1 by omega)]
  by_cases h2 : l.length ≤ 60
  case neg => rw [if_neg (show ¬ (l.length : Int) ≤ 60 by omega), decide_eq_false (fun h => h2 h.2.1)]
  rw [if_pos (show (l.length : Int) ≤ 60 by omega)]
  by_cases h5 : l = [46]
  · rw [if_pos h5, decide_eq_false (fun h => h.2.2.1 h5)]
  rw [if_neg h5]
  by_cases h6 : l = [46, 46]
  · rw [if_pos h6, decide_eq_false (fun h => h.2.2.2.1 h6)]
  rw [if_neg h6]
  by_cases h4 : 4 ≤ l.length
  · rw [if_pos (show (l.length : Int) ≥ 4 by omega), if_pos (by omega), if_pos (show 4 ≤ (l.length : Int) by omega)]
    refine congrArg some ?_
    by_cases h7 : l.take 4 = [46, 119, 104, 46]
    · rw [decide_eq_false (fun h => h.2.2.2.2 h7), h7]; rfl
    · rw [decide_eq_true ⟨h1, h2, h5, h6, h7⟩, beq_eq_false_iff_ne.2 h7]; rfl
  · rw [if_neg (show ¬ (l.length : Int) ≥ 4 by omega)]
    refine congrArg some ?_
    rw [decide_eq_true ⟨h1, h2, h5, h6, fun h => by have := congrArg List.length h; simp only [List.length_take, List.length_cons, List.length_nil] at this; omega⟩]; rfl
theorem refPart_l0 (s : ByteArray) (hs : s.size ≤ 1000000) : ∀ (f j k : Nat), j + f = s.size → f < k →
    hogsheadref1_Part.l0 k s (j : Int) = some (decide ((47 ∉ (L s).drop j ∧ 0 ∉ (L s).drop j) ∧ (L s ≠ [] ∧ (L s).length ≤ 60 ∧ L s ≠ [46] ∧ L s ≠ [46, 46] ∧ (L s).take 4 ≠ [46, 119, 104, 46]))) := by
  intro f
  induction f with
  | zero =>
    intro j k hj hk
    obtain ⟨k, rfl⟩ : ∃ m, k = m + 1 := ⟨k - 1, by omega⟩
    rw [hogsheadref1_Part.l0, if_neg (by omega), List.drop_of_length_le (by rw [← size_L]; omega)]
    refine (refPart_end (L s) s rfl).trans (congrArg some ?_)
    rw [decide_eq_decide]
    exact ⟨fun h => ⟨⟨by simp, by simp⟩, h⟩, fun h => h.2⟩
  | succ f ih =>
    intro j k hj hk
    obtain ⟨k, rfl⟩ : ∃ m, k = m + 1 := ⟨k - 1, by omega⟩
    have hl : j < (L s).length := by rw [← size_L]; omega
    rw [hogsheadref1_Part.l0, if_pos (by omega), if_pos (by omega), List.drop_eq_getElem_cons hl, w_one j (by omega), ih (j + 1) k (by omega) (by omega)]
    by_cases h1 : (L s)[j] = 47
    · rw [if_pos (show bt s (j : Int) = 47 from (bt_is s j (by omega) 47).2 h1), decide_eq_false (fun h => h.1.1 (by rw [h1]; simp))]
    rw [if_neg (show ¬ bt s (j : Int) = 47 from fun e => h1 ((bt_is s j (by omega) 47).1 e))]
    by_cases h2 : (L s)[j] = 0
    · rw [if_pos (show bt s (j : Int) = 0 from (bt_is s j (by omega) 0).2 h2), decide_eq_false (fun h => h.1.2 (by rw [h2]; simp))]
    rw [if_neg (show ¬ bt s (j : Int) = 0 from fun e => h2 ((bt_is s j (by omega) 0).1 e))]
    refine congrArg some ?_
    rw [decide_eq_decide, List.mem_cons, List.mem_cons, not_or, not_or]
    exact ⟨fun h => ⟨⟨⟨fun e => h1 e.symm, h.1.1⟩, ⟨fun e => h2 e.symm, h.1.2⟩⟩, h.2⟩, fun h => ⟨⟨h.1.1.2, h.1.2.2⟩, h.2⟩⟩
theorem refPart_f (s : ByteArray) (hs : s.size ≤ 1000) (k : Nat) (hk : 1100 ≤ k) : hogsheadref1_Part.f k s = some (isPart (L s)) := by
  have := refPart_l0 s (by omega) s.size 0 k (by omega) (by omega)
  unfold hogsheadref1_Part.f
  rw [show ((0 : Nat) : Int) = 0 from rfl] at this
  rw [this, List.drop_zero]
  refine congrArg some ?_
  unfold isPart
  rw [decide_eq_decide]
  exact ⟨fun ⟨⟨a, b⟩, c, d, e, f, g⟩ => ⟨c, d, a, b, e, f, g⟩, fun ⟨c, d, a, b, e, f, g⟩ => ⟨⟨a, b⟩, c, d, e, f, g⟩⟩
theorem refCut_l0 (s : ByteArray) (hs : s.size ≤ 1000000) : ∀ (f j k st : Nat) (x : List ByteArray), j + f = s.size → f + 1 < k → st ≤ j → x.length ≤ j →
    hogsheadref1_Cut.l0 k s x (st : Int) (j : Int) = some (x ++ (cutA (((L s).take j).drop st) ((L s).drop j)).map mkB) := by
  intro f
  induction f with
  | zero =>
    intro j k st x hj hk hst hx
    obtain ⟨k, rfl⟩ : ∃ m, k = m + 2 := ⟨k - 2, by omega⟩
    rw [hogsheadref1_Cut.l0, if_pos (by omega), if_pos (by omega), if_pos (by omega), if_pos (by omega), if_pos (by omega), w_one j (by omega), hogsheadref1_Cut.l0, if_neg (by omega), List.drop_of_length_le (show (L s).length ≤ j by rw [← size_L]; omega)]
    refine congrArg some ?_
    rw [Int.toNat_natCast, Int.toNat_natCast]
    have e : s.extract st j = mkB (((L s).take j).drop st) := L_inj (by rw [L_extract, L_mkB])
    rw [e]; rfl
  | succ f ih =>
    intro j k st x hj hk hst hx
    obtain ⟨k, rfl⟩ : ∃ m, k = m + 1 := ⟨k - 1, by omega⟩
    have hl : j < (L s).length := by rw [← size_L]; omega
    have e : s.extract st j = mkB (((L s).take j).drop st) := L_inj (by rw [L_extract, L_mkB])
    rw [hogsheadref1_Cut.l0, if_pos (by omega), if_neg (by omega), if_pos (by omega), if_pos (by omega), w_one j (by omega), List.drop_eq_getElem_cons hl, cutA]
    by_cases h1 : (L s)[j] = 47
    · rw [if_pos (show bt s (j : Int) = 47 from (bt_is s j (by omega) 47).2 h1), if_pos h1, if_pos (by omega), if_pos (by omega), if_pos (by omega), Int.toNat_natCast, Int.toNat_natCast, e,
        ih (j + 1) k (j + 1) _ (by omega) (by omega) (by omega) (by rw [List.length_append]; simp; omega), List.drop_of_length_le (show ((L s).take (j + 1)).length ≤ j + 1 by rw [List.length_take]; omega)]
      simp [List.append_assoc]
    · rw [if_neg (show ¬ bt s (j : Int) = 47 from fun e => h1 ((bt_is s j (by omega) 47).1 e)), if_neg h1, ih (j + 1) k st x (by omega) (by omega) (by omega) (by omega)]
      have ht : (L s).take (j + 1) = (L s).take j ++ [(L s)[j]] := by rw [List.take_add_one, List.getElem?_eq_getElem hl]; rfl
      rw [ht, List.drop_append_of_le_length (by rw [List.length_take]; omega)]
theorem refCut_f (s : ByteArray) (hs : s.size ≤ 1000) (k : Nat) (hk : 1100 ≤ k) : hogsheadref1_Cut.f k s = some ((cut (L s)).map mkB) := by
  have := refCut_l0 s (by omega) s.size 0 k 0 [] (by omega) (by omega) (by omega) (by simp)
  unfold hogsheadref1_Cut.f
  exact this
theorem refMay_l0 (c : List ByteArray) (hc : c.length ≤ 1000000) (hz : ∀ x ∈ c, x.size ≤ 1000) : ∀ (f j k : Nat), j + f = c.length → f + 1100 < k →
    hogsheadref1_May.l0 k c (j : Int) = some (if (c.drop j).all (fun x => isPart (L x)) then decide (c.length ≤ 10) else false) := by
  intro f
  induction f with
  | zero =>
    intro j k hj hk
    obtain ⟨k, rfl⟩ : ∃ m, k = m + 1 := ⟨k - 1, by omega⟩
    rw [hogsheadref1_May.l0, if_neg (by omega), List.drop_of_length_le (by omega)]
    simp only [List.all_nil, if_true]
    refine congrArg some ?_
    rw [decide_eq_decide]; omega
  | succ f ih =>
    intro j k hj hk
    obtain ⟨k, rfl⟩ : ∃ m, k = m + 1 := ⟨k - 1, by omega⟩
    rw [hogsheadref1_May.l0, if_pos (by omega), if_pos (by omega), rd_L _ _ (by omega), refPart_f _ (hz _ (List.getElem_mem _)) k (by omega), some_bind, w_one j (by omega), ih (j + 1) k (by omega) (by omega), List.drop_eq_getElem_cons (show j < c.length by omega), List.all_cons]
    cases isPart (L c[j]) <;> rfl
theorem cut_small (l : List UInt8) : ∀ x ∈ (cut l).map mkB, x.size ≤ l.length := by
  intro x hx
  obtain ⟨y, hy, rfl⟩ := List.mem_map.1 hx
  have := J_length_one _ _ hy
  rw [J_cut] at this
  exact this
theorem refMay_f (a : ByteArray) (k : Nat) (hk : 1400 ≤ k) : hogsheadref1_May.f k a = some (may (L a)) := by
  unfold hogsheadref1_May.f may
  rw [toL]
  by_cases h1 : L a = []
  · rw [if_pos h1]; simp [h1]
  rw [if_neg h1]
  by_cases h2 : (L a).length ≤ 200
  case neg => rw [if_pos (show (a.size : Int) > 200 by rw [size_L]; omega), decide_eq_false (fun h => h.elim h1 (fun e => h2 e.1))]
  have hl := cut_len (L a)
  have hm := cut_small (L a)
  have := refMay_l0 ((cut (L a)).map mkB) (by rw [List.length_map]; omega) (fun x hx => by have := hm x hx; omega) (cut (L a)).length 0 k (by rw [List.length_map]; omega) (by omega)
  rw [show ((0 : Nat) : Int) = 0 from rfl] at this
  rw [if_neg (show ¬ (a.size : Int) > 200 by rw [size_L]; omega), refCut_f a (by rw [size_L]; omega) k (by omega), some_bind, this, List.drop_zero, List.all_map, List.length_map]
  refine congrArg some ?_
  show (if (cut (L a)).all isPart = true then _ else _) = _
  by_cases h3 : (cut (L a)).all isPart = true
  · rw [if_pos h3, decide_eq_decide]
    exact ⟨fun h => .inr ⟨by omega, h3, h⟩, fun h => h.elim (fun e => absurd e h1) (fun e => e.2.2)⟩
  · rw [if_neg h3]
    exact (decide_eq_false fun h => h.elim (fun e => h1 e) (fun e => h3 e.2.1)).symm
theorem J_le (a b : List (List UInt8)) : (J a).length ≤ (J (a ++ b)).length := by
  by_cases h : a = []
  · subst h; simp [J]
  · rw [J_append h]; simp
/-- The reference's join, of any parts. -/
theorem refJoin_all (c : List (List UInt8)) (hc : c.length ≤ 1000) (hs : ∀ x ∈ c, x.length ≤ 1000) : ∀ (r d : List (List UInt8)) (k : Nat), c = d ++ r → (J d).length ≤ 2000 → 2 * r.length + 1401 < k →
    hogsheadref1_Join.l0 k (c.map mkB) (mkB (J d)) (d.length : Int) = some (if r.all isPart then fin (J c) else (mkB [], false)) := by
  intro r
  induction r with
  | nil =>
    intro d k he hd2 hk
    obtain ⟨k, rfl⟩ : ∃ m, k = m + 1 := ⟨k - 1, by omega⟩
    rw [List.append_nil] at he
    subst he
    rw [hogsheadref1_Join.l0, if_neg (by rw [List.length_map]; omega), refMay_f _ k (by omega), some_bind, L_mkB]
    unfold fin
    simp only [List.all_nil, if_true]
    cases may (J c) <;> rfl
  | cons x r ih =>
    intro d k he hd2 hk
    obtain ⟨k, rfl⟩ : ∃ m, k = m + 2 := ⟨k - 2, by omega⟩
    simp only [List.length_cons] at hk
    have hl : c.length = d.length + (r.length + 1) := by rw [he]; simp
    have hxs := hs x (by rw [he]; simp)
    have hrd : rdOf ByteArray.empty (c.map mkB) (d.length : Int) = mkB x := by
      rw [rd_L _ _ (by rw [List.length_map]; omega), List.getElem_map]
      congr 1
      simp [he]
    have e1 : mkB (J d) ++ (⟨#[47]⟩ : ByteArray) ++ mkB x = mkB (J d ++ 47 :: x) := L_inj (by rw [L_append, L_append]; simp only [L_mkB]; rw [List.append_assoc]; rfl)
    have e2 : mkB (J d) ++ mkB x = mkB (J d ++ x) := L_inj (by rw [L_append]; simp only [L_mkB])
    have hsz : ∀ l, (mkB l).size = l.length := fun _ => rfl
    rw [hogsheadref1_Join.l0, if_pos (by rw [List.length_map]; omega), if_pos (by omega), hrd, refPart_f _ (by rw [hsz]; omega) (k + 1) (by omega), L_mkB, some_bind, List.all_cons]
    cases hx : isPart x
    · rw [if_neg (by decide), hogsheadref1_Join.j1, if_pos rfl, Bool.false_and, if_neg (by decide)]; rfl
    rw [if_pos rfl, Bool.true_and]
    by_cases hb : (J d).length ≤ 200
    case neg =>
      rw [decide_eq_true (show ((mkB (J d)).size : Int) > 200 by rw [hsz]; omega), hogsheadref1_Join.j1, if_pos rfl]
      have hd : (J d).length ≤ (J c).length := by rw [he]; exact J_le d _
      have hm : may (J c) = false := by
        cases h : may (J c)
        · rfl
        · exact absurd (may_size h) (by omega)
      unfold fin
      rw [hm]
      cases r.all isPart <;> rfl
    have ih' := ih (d ++ [x]) k (by rw [he]; simp)
    rw [List.length_append, List.length_singleton] at ih'
    rw [decide_eq_false (show ¬ ((mkB (J d)).size : Int) > 200 by rw [hsz]; omega), hogsheadref1_Join.j1, if_neg (by decide), hrd, w_one _ (by omega)]
    by_cases h0 : d = []
    · rw [if_neg (by rw [h0]; simp), if_pos (by omega), if_pos (by rw [List.length_map]; omega), if_pos (by rw [hsz, hsz]; omega), e2]
      rw [h0] at ih' ⊢
      have := ih' (by simp [J, T]; omega) (by omega)
      simpa [J, T] using this
    · have hd0 : d.length ≠ 0 := fun e => h0 (List.eq_nil_of_length_eq_zero e)
      rw [J_append h0, T_cons, show T [] = [] from rfl, List.append_nil] at ih'
      rw [if_pos (by omega), if_pos (by rw [hsz]; omega), if_pos (by omega), if_pos (by rw [List.length_map]; omega), if_pos (by
        rw [size_L, L_append, List.length_append, L_mkB, hsz, show (L (⟨#[47]⟩ : ByteArray)).length = 1 from rfl]; omega), e1, ih' (by simp; omega) (by omega)]
theorem refJoinG_f (c : List (List UInt8)) (hc : c.length ≤ 100) (hs : ∀ x ∈ c, x.length ≤ 1000) (k : Nat) (hk : 2000 ≤ k) : hogsheadref1_Join.f k (c.map mkB) = some (if c.all isPart then fin (J c) else (mkB [], false)) := by
  unfold hogsheadref1_Join.f
  exact refJoin_all c (by omega) hs c [] k rfl (by simp [J]) (by omega)
/-- Are texts more, or longer, than is gone through? -/
def greatX (t : List ByteArray) (m n : Nat) : Bool := decide (m < t.length) || t.any (fun x => decide (n < (L x).length))
theorem greatX_l0 (t : List ByteArray) (m n : Nat) (hm : t.length ≤ m) (hm' : m ≤ 1000000) : ∀ (f j k : Nat), j + f = t.length → 2 * f + 1 < k → hogsheadlaw0_GreatTexts.l0 k t (m : Int) (n : Int) (j : Int) = some ((t.drop j).any (fun x => decide (n < (L x).length))) := by
  intro f
  induction f with
  | zero =>
    intro j k hj hk
    obtain ⟨k, rfl⟩ : ∃ m, k = m + 2 := ⟨k - 2, by omega⟩
    rw [hogsheadlaw0_GreatTexts.l0, if_neg (by omega), hogsheadlaw0_GreatTexts.j1, if_neg (by simp), List.drop_of_length_le (by omega)]
    rw [decide_eq_false (by omega)]; rfl
  | succ f ih =>
    intro j k hj hk
    obtain ⟨k, rfl⟩ : ∃ m, k = m + 2 := ⟨k - 2, by omega⟩
    rw [hogsheadlaw0_GreatTexts.l0, if_pos (by omega), hogsheadlaw0_GreatTexts.j1, if_pos (decide_eq_true (by omega)), if_pos (by omega), if_pos (by omega), rd_L _ _ (by omega), w_one j (by omega), List.drop_eq_getElem_cons (show j < t.length by omega), List.any_cons]
    by_cases h1 : ((t[j]).size : Int) > n
    · rw [if_pos h1, decide_eq_true (show n < (L t[j]).length by rw [← size_L]; omega)]; rfl
    rw [if_neg h1, decide_eq_false (show ¬ n < (L t[j]).length by rw [← size_L]; omega), ih (j + 1) k (by omega) (by omega)]
    rfl
theorem greatX_f (t : List ByteArray) (m n : Nat) (hm' : m ≤ 1000) (k : Nat) (hk : 2100 ≤ k) : hogsheadlaw0_GreatTexts.f k t (m : Int) (n : Int) = some (greatX t m n) := by
  unfold hogsheadlaw0_GreatTexts.f greatX
  by_cases h : t.length ≤ m
  · rw [show (0 : Int) = ((0 : Nat) : Int) from rfl, greatX_l0 t m n h (by omega) t.length 0 k (by omega) (by omega), decide_eq_false (by omega)]; rfl
  · obtain ⟨k, rfl⟩ : ∃ m, k = m + 2 := ⟨k - 2, by omega⟩
    rw [hogsheadlaw0_GreatTexts.l0, if_pos (by omega), hogsheadlaw0_GreatTexts.j1, if_neg (by rw [decide_eq_false (by omega)]; simp), decide_eq_true (by omega), decide_eq_true (show m < t.length by omega)]; rfl
theorem greatX_not {t : List ByteArray} {m n : Nat} (h : ¬ greatX t m n = true) : t.length ≤ m ∧ ∀ x ∈ t, (L x).length ≤ n := by
  unfold greatX at h
  rw [Bool.or_eq_true, not_or, decide_eq_true_iff] at h
  refine ⟨by omega, fun x hx => ?_⟩
  have := h.2
  rw [Bool.not_eq_true, List.any_eq_false] at this
  have := this x hx
  rw [decide_eq_true_iff] at this
  omega
end Go.Proofs.YtbhjoflpnepikaaDoor.PaTh
