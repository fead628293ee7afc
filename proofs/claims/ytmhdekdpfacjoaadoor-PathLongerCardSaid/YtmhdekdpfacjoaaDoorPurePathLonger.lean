/- The plain law behind PathLonger. -/
import Derived.Test.YtmhdekdpfacjoaaDoorPaThB
namespace Go.Proofs.YtmhdekdpfacjoaaDoor.Pure
open Go.RowKit Go.Proofs.YtmhdekdpfacjoaaDoorX Go.Proofs.YtmhdekdpfacjoaaDoorW.PrintWords Go.Proofs.YtmhdekdpfacjoaaDoorW.PrintLast Go.Proofs.YtmhdekdpfacjoaaDoor.P Go.Proofs.YtmhdekdpfacjoaaDoor.Pa Go.Proofs.YtmhdekdpfacjoaaDoor.PaTh
set_option linter.unusedVariables false
set_option linter.unusedSimpArgs false
theorem J_nil_iff {c : List (List UInt8)} (hp : ∀ x ∈ c, isPart x = true) : J c = [] → c = [] := by
  intro h
  cases c with
  | nil => rfl
  | cons x c =>
    have := part_ne (hp x (by simp))
    simp only [J, List.append_eq_nil_iff] at h
    exact absurd h.1 this
theorem may_J {c : List (List UInt8)} (hp : ∀ x ∈ c, isPart x = true) : may (J c) = decide (c.length ≤ 10 ∧ (J c).length ≤ 200) := by
  by_cases hc : c = []
  · subst hc; rfl
  unfold may
  rw [decide_eq_decide, cut_J c hc (fun x hx => part_noslash (hp x hx))]
  constructor
  · rintro (h | ⟨h1, _, h3⟩)
    · exact absurd (J_nil_iff hp h) hc
    · exact ⟨h3, h1⟩
  · rintro ⟨h1, h2⟩
    exact .inr ⟨h2, List.all_eq_true.2 hp, h1⟩
theorem split_J {c : List (List UInt8)} (hp : ∀ x ∈ c, isPart x = true) (hm : may (J c) = true) : split (J c) = c := by
  by_cases hc : c = []
  · subst hc; rfl
  · rw [may_ne_split hm (fun e => hc (J_nil_iff hp e)), cut_J c hc (fun x hx => part_noslash (hp x hx))]
theorem longer_j3 (a : ByteArray) (ha : may (L a) = true) (c : List (List UInt8)) (hp : ∀ x ∈ c, isPart x = true) (hc : c.length ≤ 20) (hu : U (J c) (L a)) (k : Nat) (hk : 3000 ≤ k) :
    hogsheadlaw1_PathLonger.j3 k a (c.map mkB) (fin (J c)).1 (fin (J c)).2 ((J c).length : Int) false = some true := by
  obtain ⟨k, rfl⟩ : ∃ m, k = m + 1 := ⟨k - 1, by omega⟩
  rw [hogsheadlaw1_PathLonger.j3, if_neg (by decide), awake_f k (by omega)]
  unfold fin
  cases hm : may (J c)
  · show (if (false : Bool) = true then _ else if (mkB []).toList = [] then ((some true).bind fun t => some t) else some false) = some true
    rw [if_neg (by decide), toL, L_mkB, if_pos rfl]; rfl
  · rw [if_pos rfl, if_pos rfl]
    show (if ((mkB (J c)).size : Int) = ((J c).length : Int) then (path_Under.f k (mkB (J c)) a).bind _ else _) = _
    rw [if_pos (show ((mkB (J c)).size : Int) = ((J c).length : Int) from rfl), under_f _ _ k (by omega), L_mkB, some_bind, show under (J c) (L a) = true by unfold under; rw [hm, ha, decide_eq_true hu]; rfl, if_pos rfl, split_f _ k (by omega), L_mkB, split_J hp hm, some_bind,
      same_f _ _ (by rw [List.length_map]; omega) k (by omega), some_bind, if_pos (decide_eq_true rfl)]
    rfl
theorem longer_j2 (a : ByteArray) (ha : may (L a) = true) (c : List (List UInt8)) (hp : ∀ x ∈ c, isPart x = true) (hc : c.length ≤ 20) (hu : U (J c) (L a)) (k : Nat) (hk : 3001 ≤ k) :
    hogsheadlaw1_PathLonger.j2 k a (c.map mkB) (fin (J c)).1 (fin (J c)).2 ((J c).length : Int) = some true := by
  obtain ⟨k, rfl⟩ : ∃ m, k = m + 1 := ⟨k - 1, by omega⟩
  have h3 := longer_j3 a ha c hp hc hu k (by omega)
  have hf : (fin (J c)).2 = decide (c.length ≤ 10 ∧ (J c).length ≤ 200) := by
    rw [← may_J hp]; unfold fin; cases may (J c) <;> rfl
  rw [hogsheadlaw1_PathLonger.j2, List.length_map]
  by_cases h : c.length ≤ 10
  · rw [if_pos (by omega)]
    have : ((fin (J c)).2 != decide (((J c).length : Int) ≤ 200)) = false := by
      rw [hf, bne_eq_false_iff_eq, decide_eq_decide]
      exact ⟨fun h => by omega, fun h' => ⟨h, by omega⟩⟩
    rw [this]; exact h3
  · rw [if_neg (by omega)]
    have : ((fin (J c)).2 != false) = false := by
      rw [hf, bne_eq_false_iff_eq]
      exact decide_eq_false (fun e => h e.1)
    rw [this]; exact h3
theorem split_cases {l : List UInt8} (h : may l = true) : (l = [] ∧ split l = []) ∨ (l ≠ [] ∧ split l ≠ [] ∧ J (split l) = l) := by
  by_cases hl : l = []
  · exact .inl ⟨hl, by rw [hl]; rfl⟩
  · refine .inr ⟨hl, ?_, ?_⟩
    · rw [may_ne_split h hl]; exact cut_ne _
    · rw [may_ne_split h hl, J_cut]
theorem split_parts {l : List UInt8} (h : may l = true) : (∀ x ∈ split l, isPart x = true) ∧ (split l).length ≤ 10 := by
  by_cases hl : l = []
  · rw [hl]; exact ⟨fun x hx => absurd hx (by simp [split]), by decide⟩
  · rw [may_ne_split h hl]
    have := may_parts h hl
    exact ⟨this.2.1, this.2.2⟩
theorem longer_j0 (a b : ByteArray) (ha : may (L a) = true) (hb : may (L b) = true) (k : Nat) (hk : 3003 ≤ k) : hogsheadlaw1_PathLonger.j0 k a b false = some true := by
  obtain ⟨k, rfl⟩ : ∃ m, k = m + 2 := ⟨k - 2, by omega⟩
  obtain ⟨pa, la⟩ := split_parts ha
  obtain ⟨pb, lb⟩ := split_parts hb
  have za := may_size ha
  have zb := may_size hb
  have hp : ∀ x ∈ split (L a) ++ split (L b), isPart x = true := fun x hx => (List.mem_append.1 hx).elim (pa x) (pb x)
  have hl : (split (L a) ++ split (L b)).length ≤ 20 := by rw [List.length_append]; omega
  have ca := split_cases ha
  have cb := split_cases hb
  -- what is joined, and how long it is
  have key : U (J (split (L a) ++ split (L b))) (L a) ∧ (J (split (L a) ++ split (L b))).length = (L a).length + (L b).length + (if (split (L a)).length > 0 ∧ (split (L b)).length > 0 then 1 else 0) := by
    rcases ca with ⟨a1, a2⟩ | ⟨a1, a2, a3⟩
    · rcases cb with ⟨b1, b2⟩ | ⟨b1, b2, b3⟩
      · rw [a2, b2, a1, b1]; exact ⟨U_nil _, rfl⟩
      · rw [a2, a1, List.nil_append, b3]
        exact ⟨U_nil _, by simp⟩
    · rcases cb with ⟨b1, b2⟩ | ⟨b1, b2, b3⟩
      · rw [b2, b1, List.append_nil, a3]
        exact ⟨U_self _, by simp⟩
      · rw [J_append a2, a3, T_J b2, b3]
        refine ⟨.inr (.inr ⟨L b, by simp⟩), ?_⟩
        have h1 : (split (L a)).length ≠ 0 := fun e => a2 (List.eq_nil_of_length_eq_zero e)
        have h2 : (split (L b)).length ≠ 0 := fun e => b2 (List.eq_nil_of_length_eq_zero e)
        rw [if_pos ⟨by omega, by omega⟩]
        simp only [List.length_append, List.length_cons]; omega
  obtain ⟨hu, hN⟩ := key
  have hj := longer_j2 a ha _ hp hl hu k (by omega)
  have hmap : ([] : List ByteArray) ++ (split (L a)).map mkB ++ (split (L b)).map mkB = (split (L a) ++ split (L b)).map mkB := by simp
  have hjoin := join_f (split (L a) ++ split (L b)) (by omega) (by rw [hN]; split <;> omega) (k + 1) (by omega)
  rw [if_pos (List.all_eq_true.2 hp)] at hjoin
  have hw : wrap64 ((a.size : Int) + (b.size : Int)) = (((L a).length + (L b).length : Nat) : Int) := by
    rw [size_L, size_L, wrap_in (by omega) (by omega)]; omega
  rw [hogsheadlaw1_PathLonger.j0, if_neg (by decide), split_f a (k + 1) (by omega), some_bind, split_f b (k + 1) (by omega), some_bind, if_pos (by simp; omega), some_bind, if_pos (by simp; omega), some_bind, hmap, hjoin, some_bind, hw, List.length_map, List.length_map]
  rw [hogsheadlaw1_PathLonger.j1, hogsheadlaw1_PathLonger.j1, w_one _ (by omega)]
  clear hw hjoin hmap
  by_cases h1 : (split (L a)).length > 0
  · rw [if_pos (show ((split (L a)).length : Int) > 0 by omega)]
    by_cases h2 : (split (L b)).length > 0
    · rw [if_pos ⟨h1, h2⟩] at hN
      rw [if_pos (show decide (((split (L b)).length : Int) > 0) = true from decide_eq_true (by omega)), ← hN]
      exact hj
    · rw [if_neg (fun e => h2 e.2), Nat.add_zero] at hN
      rw [if_neg (show ¬ decide (((split (L b)).length : Int) > 0) = true from fun e => h2 (by have := of_decide_eq_true e; omega)), ← hN]
      exact hj
  · rw [if_neg (fun e => h1 e.1), Nat.add_zero] at hN
    rw [if_neg (show ¬ ((split (L a)).length : Int) > 0 by omega), if_neg (by decide), ← hN]
    exact hj
theorem longer_true (a b : ByteArray) (k : Nat) (hk : 3003 ≤ k) : hogsheadlaw1_PathLonger.j0 k a b true = some true := by
  obtain ⟨k, rfl⟩ : ∃ m, k = m + 1 := ⟨k - 1, by omega⟩
  rw [hogsheadlaw1_PathLonger.j0, if_pos rfl, awake_f k (by omega), some_bind]
theorem PathLonger : hogsheadlaw1_PathLonger.Pure := by
  intro a b _ _
  refine ⟨3003, ?_⟩
  unfold hogsheadlaw1_PathLonger.f
  rw [longer_true a b 3003 (by omega), may_f a 3003 (by omega), some_bind, may_f b 3003 (by omega), some_bind]
  by_cases h1 : (a.size : Int) > 200
  · rw [if_pos h1]
  rw [if_neg h1]
  by_cases h2 : (b.size : Int) > 200
  · rw [if_pos h2]
  rw [if_neg h2]
  cases ha : may (L a)
  · rfl
  rw [if_pos rfl]
  cases hb : may (L b)
  · exact longer_true a b 3003 (by omega)
  · exact longer_j0 a b ha hb 3003 (by omega)
end Go.Proofs.YtmhdekdpfacjoaaDoor.Pure
