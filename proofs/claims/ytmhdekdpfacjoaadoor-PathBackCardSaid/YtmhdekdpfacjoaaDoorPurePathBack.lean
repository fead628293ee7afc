/- The plain law behind PathBack. -/
import Derived.Test.YtmhdekdpfacjoaaDoorPaThA
namespace Go.Proofs.YtmhdekdpfacjoaaDoor.PureB
open Go.RowKit Go.Proofs.YtmhdekdpfacjoaaDoorX Go.Proofs.YtmhdekdpfacjoaaDoorW.PrintWords Go.Proofs.YtmhdekdpfacjoaaDoorW.PrintLast Go.Proofs.YtmhdekdpfacjoaaDoor.P Go.Proofs.YtmhdekdpfacjoaaDoor.Pa Go.Proofs.YtmhdekdpfacjoaaDoor.PaTh
set_option linter.unusedVariables false
set_option linter.unusedSimpArgs false
theorem under_mk {a b : List UInt8} (h : may a = true) (k : may b = true) (u : U a b) : under a b = true := by
  unfold under
  simp only [Bool.and_eq_true, decide_eq_true_eq]
  exact ⟨⟨h, k⟩, u⟩
theorem join_split {l : List UInt8} (h : may l = true) (hl : l ≠ []) (k : Nat) (hk : 1400 ≤ k) : path_Join.f k ((cut l).map mkB) = some (mkB l, true) := by
  obtain ⟨h1, h2, h3⟩ := may_parts h hl
  rw [join_f (cut l) (by omega) (by rw [J_cut]; omega) k hk, J_cut, if_pos (List.all_eq_true.2 h2)]
  unfold fin
  rw [if_pos h]
theorem back_j0 (a : ByteArray) (hm : may (L a) = true) (k : Nat) (hk : 2000 ≤ k) : hogsheadlaw1_PathBack.j0 k a false = some true := by
  obtain ⟨k, rfl⟩ : ∃ m, k = m + 1 := ⟨k - 1, by omega⟩
  rw [hogsheadlaw1_PathBack.j0, if_neg (by decide), toL, parent_f a k (by omega), some_bind, some_bind, base_f a k (by omega), awake_f k (by omega)]
  by_cases h : L a = []
  · rw [if_pos h, h, if_neg (by decide), some_bind, toL, L_mkB, if_pos may_nil, if_pos (show base [] = [] from rfl)]; rfl
  rw [if_neg h, if_neg h, if_pos hm, if_pos hm]
  obtain ⟨d1, d2, d3, d4, d5, d6⟩ := dir_spec hm h
  obtain ⟨h1, h2, h3⟩ := may_parts hm h
  have hs := may_ne_split hm h
  simp only []
  rw [split_f (mkB (dir (L a))) k (by omega), L_mkB, some_bind, some_bind, if_pos (by
    rw [List.length_map, d2, List.length_dropLast]; omega)]
  have hc : (split (dir (L a))).map mkB ++ [mkB (base (L a))] = (cut (L a)).map mkB := by
    rw [← hs, d5, List.map_append]; rfl
  rw [hc, join_split hm h k (by omega), some_bind, if_pos rfl, may_f _ k (by omega), L_mkB, some_bind, if_pos d1]
  simp only []
  rw [toL, L_mkB, if_pos rfl, if_pos trivial, under_f _ _ k (by omega), L_mkB, some_bind, under_f _ _ k (by omega), L_mkB,
    under_mk hm d1 (d4.elim (fun e => .inr (.inl e)) (fun e => .inr (.inr e))), if_pos rfl, some_bind]
  have hu : under (dir (L a)) (L a) = false := by
    unfold under
    rw [decide_eq_false (fun u => by have := U_len u; omega), Bool.and_false]
  rw [hu, if_neg (by decide), some_bind, part_f, L_mkB, some_bind, if_pos d6, split_f a k (by omega), some_bind, some_bind]
  have hn : (cut (L a)).length ≠ 0 := fun e => cut_ne _ (List.eq_nil_of_length_eq_zero e)
  rw [if_pos (by
    rw [List.length_map, List.length_map, d2, hs, List.length_dropLast, wrap_in (by omega) (by omega)]; omega)]
  rfl
theorem PathBack : hogsheadlaw1_PathBack.Pure := by
  intro a _
  refine ⟨2001, ?_⟩
  unfold hogsheadlaw1_PathBack.f
  rw [awake_f 2001 (by omega), some_bind]
  by_cases hz : (a.size : Int) > 300
  · rw [if_pos hz]
  rw [if_neg hz, may_f a 2001 (by omega), some_bind, split_f a 2001 (by omega), some_bind, parent_f a 2001 (by omega), some_bind, some_bind, base_f a 2001 (by omega), some_bind, nil_e]
  cases hm : may (L a)
  · have h : L a ≠ [] := fun e => by rw [e, may_nil] at hm; cases hm
    have hu : ∀ x, under (L a) x = false := fun x => by unfold under; rw [hm]; rfl
    have hs : split (L a) = [] := by unfold split; rw [if_neg h, hm]; rfl
    rw [if_neg (by decide), hs, if_pos (show ((([] : List (List UInt8)).map mkB).length : Int) = 0 from rfl), if_neg h, if_neg (show ¬ (false = true) by decide), if_neg (show ¬ ((mkB [], false) : ByteArray × Bool).2 = true by decide), if_neg (show ¬ (false = true) by decide), toL, L_mkB, if_pos rfl, under_f _ _ 2001 (by omega), under_f _ _ 2001 (by omega), hu, hu]
    rfl
  · have hu : under (L a) [] = true := under_mk hm may_nil (U_nil _)
    have hv : under (L a) (L a) = true := under_mk hm hm (U_self _)
    rw [if_pos rfl]
    by_cases h : L a = []
    · have hs : split (L a) = [] := by rw [h]; rfl
      rw [hs, join_f [] (by simp) (by simp [J]) 2001 (by omega), some_bind]
      rw [show (if ([] : List (List UInt8)).all isPart = true then fin (J []) else (mkB [], false)) = (mkB [], true) by decide, if_pos (by rw [toL, toL, L_mkB, h]), if_pos rfl, under_f _ _ 2001 (by omega), under_f _ _ 2001 (by omega), L_mkB, hu, hv, some_bind, if_pos rfl, some_bind]
      exact back_j0 a hm 2001 (by omega)
    · rw [may_ne_split hm h, join_split hm h 2001 (by omega), some_bind, if_pos (by rw [toL, toL, L_mkB]), if_pos rfl, under_f _ _ 2001 (by omega), under_f _ _ 2001 (by omega), L_mkB, hu, hv, some_bind, if_pos rfl, some_bind]
      exact back_j0 a hm 2001 (by omega)
end Go.Proofs.YtmhdekdpfacjoaaDoor.PureB
namespace Go.Proofs.YtmhdekdpfacjoaaDoor.Pure
theorem PathBack : Go.Proofs.YtmhdekdpfacjoaaDoor.P.hogsheadlaw1_PathBack.Pure := Go.Proofs.YtmhdekdpfacjoaaDoor.PureB.PathBack
end Go.Proofs.YtmhdekdpfacjoaaDoor.Pure
