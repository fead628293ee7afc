/- Laid by a program of this session (wip/pr), after the printer of the kit: the functions that a statement reaches as plain Lean functions, and that the calls of the machine come to them. No condition. -/
import Derived.Test.YtkloomnkpfaijaaDoorPx0
import Derived.Test.YtkloomnkpfaijaaDoorPx2
import Derived.Test.YtkloomnkpfaijaaDoorPx5
import Derived.Test.YtkloomnkpfaijaaDoorPx6
import Derived.Test.YtkloomnkpfaijaaDoorPx7
import Derived.Test.YtkloomnkpfaijaaDoorPx8
import Derived.Test.YtkloomnkpfaijaaDoorPx9
import Derived.Test.YtkloomnkpfaijaaDoorPx10
namespace Go.Proofs.YtkloomnkpfaijaaDoor.P
open Go.RowKit Go.Proofs.YtkloomnkpfaijaaDoorX Go.Proofs.YtkloomnkpfaijaaDoorW.PrintWords Go.Proofs.YtkloomnkpfaijaaDoorW.PrintLast Go.Proofs.YtkloomnkpfaijaaDoorW.PrintMore
attribute [local go_sem] max2_int min2_int max_two min_two max_three min_three max_four min_four   -- for this text's walks alone
set_option linter.unusedVariables false
set_option linter.unusedSimpArgs false

/-! ### hogsheadlaw3_FindDeep: function 4 -/
mutual
def hogsheadlaw3_FindDeep.j0 : Nat → List (S31) → Int → Int → Bool → Option (Bool)
  | 0, _, _, _, _ => none
  | k + 1, x0, x1, x2, x32 => if x32 = true then ((hogsheadlaw3_awake.f k).bind fun t209 => (some t209)) else ((hogsheadlaw0_Low.f x1 (x0.length : Int)).bind fun t210 => (if 0 ≤ t210 then (if t210 < (x0.length : Int) then ((find_Sub.f k x0 ((rd_T31 x0 t210).f0)).bind fun bt212 => (if bt212.2 = true then (if (bt212.1.length : Int) = 0 then (hogsheadlaw3_FindDeep.j1 k x0 x2 ((rd_T31 x0 t210).f0) bt212.1 true) else ((tree_May.f k bt212.1).bind fun t216 => (hogsheadlaw3_FindDeep.j1 k x0 x2 ((rd_T31 x0 t210).f0) bt212.1 (!t216)))) else (hogsheadlaw3_FindDeep.j1 k x0 x2 ((rd_T31 x0 t210).f0) bt212.1 true))) else (none)) else (none)))
def hogsheadlaw3_FindDeep.j1 : Nat → List (S31) → Int → ByteArray → List (S31) → Bool → Option (Bool)
  | 0, _, _, _, _, _ => none
  | k + 1, x0, x2, x7, x8, x59 => if x59 = true then (some false) else ((hogsheadlaw0_Low.f x2 (x8.length : Int)).bind fun t217 => (if 0 ≤ t217 then (if t217 < (x8.length : Int) then ((path_Split.f k x7).bind fun t219 => ((path_Split.f k ((rd_T31 x8 t217).f0)).bind fun t222 => (if t219.length + t222.length < 8796093022208 then ((path_Join.f k (t219 ++ t222)).bind fun bt228 => (if bt228.2 = true then ((find_Sub.f k x8 ((rd_T31 x8 t217).f0)).bind fun bt230 => ((find_Sub.f k x0 bt228.1).bind fun bt234 => ((find_List.f k x8 ((rd_T31 x8 t217).f0)).bind fun bt238 => ((find_List.f k x0 bt228.1).bind fun bt242 => ((find_Lookup.f k x8 ((rd_T31 x8 t217).f0)).bind fun bt246 => ((find_Lookup.f k x0 bt228.1).bind fun bt251 => (if bt230.2 = true then (if bt234.2 = true then ((hogsheadlaw0_SameNodes.f k bt230.1 bt234.1).bind fun t256 => (if t256 = true then (if (bt238.2 == bt242.2) = true then ((hogsheadlaw0_SameTexts.f k bt238.1 bt242.1).bind fun t257 => (if t257 = true then (if bt246.2.2.2 = true then (if bt251.2.2.2 = true then (if bt246.2.1 = bt251.2.1 then (if bt246.2.2.1.toList = bt251.2.2.1.toList then (if bt251.1.toList = bt228.1.toList then ((hogsheadlaw3_awake.f k).bind fun t258 => (some t258)) else (some false)) else (some false)) else (some false)) else (some false)) else (some false)) else (some false))) else (some false)) else (some false))) else (some false)) else (some false)))))))) else (some false))) else (none)))) else (none)) else (none)))
end
def hogsheadlaw3_FindDeep.f (k : Nat) (l0 : List (S31)) (a1 : Int) (a2 : Int) : Option (Bool) := (hogsheadlaw0_GreatNodes.f k l0 60).bind fun t207 => (if t207 = true then (hogsheadlaw3_FindDeep.j0 k l0 a1 a2 true) else ((tree_May.f k l0).bind fun t208 => (hogsheadlaw3_FindDeep.j0 k l0 a1 a2 (!t208))))
theorem hogsheadlaw3_FindDeep.mono_l : ∀ k, (∀ y0 y1 y2 y3, LeO (hogsheadlaw3_FindDeep.j0 k y0 y1 y2 y3) (hogsheadlaw3_FindDeep.j0 (k + 1) y0 y1 y2 y3)) ∧ (∀ y0 y1 y2 y3 y4, LeO (hogsheadlaw3_FindDeep.j1 k y0 y1 y2 y3 y4) (hogsheadlaw3_FindDeep.j1 (k + 1) y0 y1 y2 y3 y4))
  | 0 => ⟨fun _ _ _ _ r h => by simp [hogsheadlaw3_FindDeep.j0] at h, fun _ _ _ _ _ r h => by simp [hogsheadlaw3_FindDeep.j1] at h⟩
  | k + 1 => by
    obtain ⟨ih0, ih1⟩ := hogsheadlaw3_FindDeep.mono_l k
    refine ⟨?_, ?_⟩
    · intro y0 y1 y2 y3
      unfold hogsheadlaw3_FindDeep.j0
      repeat' first
      | (with_reducible exact ih0 _ _ _ _)
      | (with_reducible exact ih1 _ _ _ _ _)
      | (with_reducible exact find_List.mono _ _ _)
      | (with_reducible exact find_Lookup.mono _ _ _)
      | (with_reducible exact find_Sub.mono _ _ _)
      | (with_reducible exact hogsheadlaw0_GreatNodes.mono _ _ _)
      | (with_reducible exact hogsheadlaw0_SameNodes.mono _ _ _)
      | (with_reducible exact hogsheadlaw0_SameTexts.mono _ _ _)
      | (with_reducible exact hogsheadlaw3_awake.mono _)
      | (with_reducible exact path_Join.mono _ _)
      | (with_reducible exact path_Split.mono _ _)
      | (with_reducible exact tree_May.mono _ _)
      | (with_reducible exact LeO.refl _)
      | (with_reducible exact LeO.none _)
      | (with_reducible refine LeO.ite ?_ ?_)
      | (with_reducible refine LeO.bind ?_ (fun _ => ?_))
      | exact ih0 _ _ _ _
      | exact ih1 _ _ _ _ _
      | exact find_List.mono _ _ _
      | exact find_Lookup.mono _ _ _
      | exact find_Sub.mono _ _ _
      | exact hogsheadlaw0_GreatNodes.mono _ _ _
      | exact hogsheadlaw0_SameNodes.mono _ _ _
      | exact hogsheadlaw0_SameTexts.mono _ _ _
      | exact hogsheadlaw3_awake.mono _
      | exact path_Join.mono _ _
      | exact path_Split.mono _ _
      | exact tree_May.mono _ _
      | exact LeO.none _
      | refine LeO.ite ?_ ?_
      | refine LeO.bind ?_ (fun _ => ?_)
    · intro y0 y1 y2 y3 y4
      unfold hogsheadlaw3_FindDeep.j1
      repeat' first
      | (with_reducible exact ih0 _ _ _ _)
      | (with_reducible exact ih1 _ _ _ _ _)
      | (with_reducible exact find_List.mono _ _ _)
      | (with_reducible exact find_Lookup.mono _ _ _)
      | (with_reducible exact find_Sub.mono _ _ _)
      | (with_reducible exact hogsheadlaw0_GreatNodes.mono _ _ _)
      | (with_reducible exact hogsheadlaw0_SameNodes.mono _ _ _)
      | (with_reducible exact hogsheadlaw0_SameTexts.mono _ _ _)
      | (with_reducible exact hogsheadlaw3_awake.mono _)
      | (with_reducible exact path_Join.mono _ _)
      | (with_reducible exact path_Split.mono _ _)
      | (with_reducible exact tree_May.mono _ _)
      | (with_reducible exact LeO.refl _)
      | (with_reducible exact LeO.none _)
      | (with_reducible refine LeO.ite ?_ ?_)
      | (with_reducible refine LeO.bind ?_ (fun _ => ?_))
      | exact ih0 _ _ _ _
      | exact ih1 _ _ _ _ _
      | exact find_List.mono _ _ _
      | exact find_Lookup.mono _ _ _
      | exact find_Sub.mono _ _ _
      | exact hogsheadlaw0_GreatNodes.mono _ _ _
      | exact hogsheadlaw0_SameNodes.mono _ _ _
      | exact hogsheadlaw0_SameTexts.mono _ _ _
      | exact hogsheadlaw3_awake.mono _
      | exact path_Join.mono _ _
      | exact path_Split.mono _ _
      | exact tree_May.mono _ _
      | exact LeO.none _
      | refine LeO.ite ?_ ?_
      | refine LeO.bind ?_ (fun _ => ?_)
theorem hogsheadlaw3_FindDeep.mono : ∀ a0 a1 a2 k, LeO (hogsheadlaw3_FindDeep.f k a0 a1 a2) (hogsheadlaw3_FindDeep.f (k + 1) a0 a1 a2) := by
  intro a0 a1 a2 k
  obtain ⟨ih0, ih1⟩ := hogsheadlaw3_FindDeep.mono_l k
  unfold hogsheadlaw3_FindDeep.f
  repeat' first
      | (with_reducible exact ih0 _ _ _ _)
      | (with_reducible exact ih1 _ _ _ _ _)
      | (with_reducible exact find_List.mono _ _ _)
      | (with_reducible exact find_Lookup.mono _ _ _)
      | (with_reducible exact find_Sub.mono _ _ _)
      | (with_reducible exact hogsheadlaw0_GreatNodes.mono _ _ _)
      | (with_reducible exact hogsheadlaw0_SameNodes.mono _ _ _)
      | (with_reducible exact hogsheadlaw0_SameTexts.mono _ _ _)
      | (with_reducible exact hogsheadlaw3_awake.mono _)
      | (with_reducible exact path_Join.mono _ _)
      | (with_reducible exact path_Split.mono _ _)
      | (with_reducible exact tree_May.mono _ _)
      | (with_reducible exact LeO.refl _)
      | (with_reducible exact LeO.none _)
      | (with_reducible refine LeO.ite ?_ ?_)
      | (with_reducible refine LeO.bind ?_ (fun _ => ?_))
      | exact ih0 _ _ _ _
      | exact ih1 _ _ _ _ _
      | exact find_List.mono _ _ _
      | exact find_Lookup.mono _ _ _
      | exact find_Sub.mono _ _ _
      | exact hogsheadlaw0_GreatNodes.mono _ _ _
      | exact hogsheadlaw0_SameNodes.mono _ _ _
      | exact hogsheadlaw0_SameTexts.mono _ _ _
      | exact hogsheadlaw3_awake.mono _
      | exact path_Join.mono _ _
      | exact path_Split.mono _ _
      | exact tree_May.mono _ _
      | exact LeO.none _
      | refine LeO.ite ?_ ?_
      | refine LeO.bind ?_ (fun _ => ?_)
set_option maxHeartbeats 8000000 in
set_option maxRecDepth 100000 in
theorem hogsheadlaw3_FindDeep.calls (k : Nat) (A0 : Option Addr) (c0 : Nat) (l0 : List (S31)) (a1 : Int) (a2 : Int) (r : Bool) (w : World) (hr0 : Kd.C k31 w A0 l0.length l0) (hc0 : l0.length ≤ c0) (h : hogsheadlaw3_FindDeep.f k l0 a1 a2 = some true) :
    Calls Tryd.prog 4 #[.slice A0 l0.length c0, .int .i64 a1, .int .i64 a2] w fun e w' => e = .returned (.bool true) ∧ Below w.heap.size w w' := by
  have hu31 := Tryd.underlying31
  have HR0 := Aside0.mk hr0
  have HC0 := Aside0.mk hc0
  clear hr0 hc0
  have HB := Aside0.mk (Below.refl w.heap.size w)
  have H : ((hogsheadlaw0_GreatNodes.f k l0 60).bind fun t207 => (if t207 = true then (hogsheadlaw3_FindDeep.j0 k l0 a1 a2 true) else ((tree_May.f k l0).bind fun t208 => (hogsheadlaw3_FindDeep.j0 k l0 a1 a2 (!t208))))) = some true := h
  clear h
  have HC4 := Aside0.mk H
  clear H
  go_enter Tryd.func4, Tryd.ntmps4
  go_upto_region 1 with (fail)
  go_cut [32] (fun v32 wc => ∃ (kq : Nat) (x32_3 : Bool), v32 = .bool x32_3 ∧ Aside0 (hogsheadlaw3_FindDeep.j0 kq l0 a1 a2 x32_3 = some true) ∧ Aside0 (kq ≤ k) ∧ Aside0 (Below w.heap.size w wc))
  case first =>
    have H := HC4.out
    clear HC4
    replace H := Option.bind_eq_some_iff.mp H
    obtain ⟨t207, A50, H⟩ := H
    replace H : (if t207 = true then (hogsheadlaw3_FindDeep.j0 k l0 a1 a2 true) else ((tree_May.f k l0).bind fun t208 => (hogsheadlaw3_FindDeep.j0 k l0 a1 a2 (!t208)))) = some true := H
    have A5 := Aside0.mk A50
    clear A50
    by_cases c6 : t207 = true
    · subst c6
      have H1 : (hogsheadlaw3_FindDeep.j0 k l0 a1 a2 true) = some true := by rw [if_pos rfl] at H; exact H
      clear H
      have H := H1
      clear H1
      have H' := Aside0.mk H
      clear H
      go_wp2_with (first | ((with_reducible refine gate_callee (f := 7) rfl ?_); refine goesL_ (some 27) rfl rfl Tryd.func7 (by kernel_rfl) rfl #[.slice A0 l0.length c0, .int .i64 60] rfl (by (try simp only [List.map_toArray, List.map_cons, List.map_nil]); first | done | rfl | (simp only [List.length_drop, List.length_take]; rfl)) ?_; (with_reducible refine (hogsheadlaw0_GreatNodes.calls k _ _ l0 60 true _ ?side1 ?side2 A5.out).mono ?_); (case side1 => repeat (first | exact (Kd.C_below HR0.out HB.out) | (with_reducible refine Kd.C_alloc ?_ _) | (with_reducible refine Kd.C_drewN ?_ _) | (with_reducible refine Kd.C_drew ?_))); (case side2 => exact HC0.out); rintro e w' ⟨rfl, ⟨nd, rfl⟩⟩; refine ⟨_, rfl, ?_⟩))
      go_meet
      case rel => exact ⟨_, (true), (by first | rfl | (simp; done) | (simp [*]; done)), H', ⟨by first | omega | exact Nat.le_refl _⟩, ⟨by repeat (first | (with_reducible first | exact HB.out | apply below_alloc | apply pw_below_drewN | apply below_drew1) | exact HB.out)⟩⟩
    · replace c6 := Bool.eq_false_iff.mpr c6
      subst c6
      have H1 : ((tree_May.f k l0).bind fun t208 => (hogsheadlaw3_FindDeep.j0 k l0 a1 a2 (!t208))) = some true := by rw [if_neg (show ¬ (false = true) by decide)] at H; exact H
      clear H
      have H := H1
      clear H1
      replace H := Option.bind_eq_some_iff.mp H
      obtain ⟨t208, A70, H⟩ := H
      replace H : (hogsheadlaw3_FindDeep.j0 k l0 a1 a2 (!t208)) = some true := H
      have A7 := Aside0.mk A70
      clear A70
      have H' := Aside0.mk H
      clear H
      go_wp2_with (first | ((with_reducible refine gate_callee (f := 7) rfl ?_); refine goesL_ (some 27) rfl rfl Tryd.func7 (by kernel_rfl) rfl #[.slice A0 l0.length c0, .int .i64 60] rfl (by (try simp only [List.map_toArray, List.map_cons, List.map_nil]); first | done | rfl | (simp only [List.length_drop, List.length_take]; rfl)) ?_; (with_reducible refine (hogsheadlaw0_GreatNodes.calls k _ _ l0 60 false _ ?side1 ?side2 A5.out).mono ?_); (case side1 => repeat (first | exact (Kd.C_below HR0.out HB.out) | (with_reducible refine Kd.C_alloc ?_ _) | (with_reducible refine Kd.C_drewN ?_ _) | (with_reducible refine Kd.C_drew ?_))); (case side2 => exact HC0.out); rintro e w' ⟨rfl, ⟨nd, rfl⟩⟩; refine ⟨_, rfl, ?_⟩) | (go_at_call 8; (with_reducible refine (tree_May.calls k _ _ l0 t208 _ ?side1 ?side2 A7.out).mono ?_); (case side1 => repeat (first | exact (Kd.C_below HR0.out (by repeat (first | (with_reducible first | exact HB.out | apply below_alloc | apply pw_below_drewN | apply below_drew1) | exact HB.out))) | (with_reducible refine Kd.C_alloc ?_ _) | (with_reducible refine Kd.C_drewN ?_ _) | (with_reducible refine Kd.C_drew ?_))); (case side2 => exact HC0.out); rintro e w8 ⟨rfl, hb⟩; have n0_ := Aside0.mk (below_step (by repeat (first | (with_reducible first | exact HB.out | apply below_alloc | apply pw_below_drewN | apply below_drew1) | exact HB.out)) hb); clear HB; have HB := n0_; clear n0_; (try clear hb); (try clear hb2); (try clear hk); (try clear hi)))
      go_meet
      case rel => exact ⟨_, (!t208), (by first | rfl | (simp; done) | (simp [*]; done)), H', ⟨by first | omega | exact Nat.le_refl _⟩, ⟨by repeat (first | (with_reducible first | exact HB.out | apply below_alloc | apply pw_below_drewN | apply below_drew1) | exact HB.out)⟩⟩
  case rest =>
    clear HC4
    try clear p2
    try clear c4
    try clear c6
    try clear c7
    obtain ⟨kq, x32_3, rfl, HA, HJ3, HB⟩ := hcut
    cases kq with
    | zero => exact absurd HA.out (by simp [hogsheadlaw3_FindDeep.j0])
    | succ kj3 =>
      have H := HA.out
      clear HA
      simp only [hogsheadlaw3_FindDeep.j0] at H
      by_cases c9 : x32_3 = true
      · subst c9
        have H1 : ((hogsheadlaw3_awake.f kj3).bind fun t209 => (some t209)) = some true := by rw [if_pos rfl] at H; exact H
        clear H
        have H := H1
        clear H1
        replace H := Option.bind_eq_some_iff.mp H
        obtain ⟨t209, A100, H⟩ := H
        replace H : (some t209) = some true := H
        have A10 := Aside0.mk A100
        clear A100
        have hr_ := Option.some.inj H
        go_wp2_with (first | ((with_reducible refine gate_callee (f := 9) rfl ?_); refine goesL_ (some 33) rfl rfl Tryd.func9 (by kernel_rfl) rfl #[] rfl (by (try simp only [List.map_toArray, List.map_cons, List.map_nil]); first | done | rfl | (simp only [List.length_drop, List.length_take]; rfl)) ?_; (with_reducible refine (hogsheadlaw3_awake.calls kj3  t209 _ A10.out).mono ?_); rintro e w11 ⟨rfl, hb⟩; refine ⟨_, rfl, ?_⟩; have n0_ := Aside0.mk (below_step (by repeat (first | (with_reducible first | exact HB.out | apply below_alloc | apply pw_below_drewN | apply below_drew1) | exact HB.out)) hb); clear HB; have HB := n0_; clear n0_; (try clear hb); (try clear hb2); (try clear hk); (try clear hi)))
        go_ret
        exact ⟨by first | rfl | (simp [errW_none, errW_some] <;> rfl) | (simp [*, errW_none, errW_some] <;> rfl), by repeat (first | (with_reducible first | exact HB.out | apply below_alloc | apply pw_below_drewN | apply below_drew1) | exact HB.out)⟩
      · replace c9 := Bool.eq_false_iff.mpr c9
        subst c9
        have H1 : ((hogsheadlaw0_Low.f a1 (l0.length : Int)).bind fun t210 => (if 0 ≤ t210 then (if t210 < (l0.length : Int) then ((find_Sub.f kj3 l0 ((rd_T31 l0 t210).f0)).bind fun bt212 => (if bt212.2 = true then (if (bt212.1.length : Int) = 0 then (hogsheadlaw3_FindDeep.j1 kj3 l0 a2 ((rd_T31 l0 t210).f0) bt212.1 true) else ((tree_May.f kj3 bt212.1).bind fun t216 => (hogsheadlaw3_FindDeep.j1 kj3 l0 a2 ((rd_T31 l0 t210).f0) bt212.1 (!t216)))) else (hogsheadlaw3_FindDeep.j1 kj3 l0 a2 ((rd_T31 l0 t210).f0) bt212.1 true))) else (none)) else (none))) = some true := by rw [if_neg (show ¬ (false = true) by decide)] at H; exact H
        clear H
        have H := H1
        clear H1
        replace H := Option.bind_eq_some_iff.mp H
        obtain ⟨t210, A120, H⟩ := H
        replace H : (if 0 ≤ t210 then (if t210 < (l0.length : Int) then ((find_Sub.f kj3 l0 ((rd_T31 l0 t210).f0)).bind fun bt212 => (if bt212.2 = true then (if (bt212.1.length : Int) = 0 then (hogsheadlaw3_FindDeep.j1 kj3 l0 a2 ((rd_T31 l0 t210).f0) bt212.1 true) else ((tree_May.f kj3 bt212.1).bind fun t216 => (hogsheadlaw3_FindDeep.j1 kj3 l0 a2 ((rd_T31 l0 t210).f0) bt212.1 (!t216)))) else (hogsheadlaw3_FindDeep.j1 kj3 l0 a2 ((rd_T31 l0 t210).f0) bt212.1 true))) else (none)) else (none)) = some true := H
        have A12 := Aside0.mk A120
        clear A120
        by_cases c13 : 0 ≤ t210
        · rw [if_pos c13] at H
          have c13b0 : decide (0 ≤ t210) = true := decide_eq_true c13
          clear c13
          by_cases c14 : t210 < (l0.length : Int)
          · rw [if_pos c14] at H
            have c14b0 : decide (t210 < (l0.length : Int)) = true := decide_eq_true c14
            clear c14
            replace H := Option.bind_eq_some_iff.mp H
            obtain ⟨⟨t212, t213⟩, A150, H⟩ := H
            replace H : (if t213 = true then (if (t212.length : Int) = 0 then (hogsheadlaw3_FindDeep.j1 kj3 l0 a2 ((rd_T31 l0 t210).f0) t212 true) else ((tree_May.f kj3 t212).bind fun t216 => (hogsheadlaw3_FindDeep.j1 kj3 l0 a2 ((rd_T31 l0 t210).f0) t212 (!t216)))) else (hogsheadlaw3_FindDeep.j1 kj3 l0 a2 ((rd_T31 l0 t210).f0) t212 true)) = some true := H
            have A15 := Aside0.mk A150
            clear A150
            have HC16 := Aside0.mk H
            clear H
            go_upto_region 5 with (first | ((with_reducible refine gate_callee (f := 10) rfl ?_); refine goesL_ (some 38) rfl rfl Tryd.func10 (by kernel_rfl) rfl #[.int .i64 a1, .int .i64 (l0.length : Int)] rfl (by (try simp only [List.map_toArray, List.map_cons, List.map_nil]); first | done | rfl | (simp only [List.length_drop, List.length_take]; rfl)) ?_; (with_reducible refine (hogsheadlaw0_Low.calls a1 (l0.length : Int) t210 _ A12.out).mono ?_); rintro e w' ⟨rfl, ⟨nd, rfl⟩⟩; refine ⟨_, rfl, ?_⟩; have p211 : 0 ≤ (t210 : Int) := of_decide_eq_true (by first | (with_reducible assumption) | assumption); have q211 : t210 < (l0.length : Int) := of_decide_eq_true (by first | (with_reducible assumption) | assumption); obtain ⟨ad211, e211, hx211_0, hx211_1, hx211_2⟩ := at_T31 HR0.out t210 p211 q211; cases e211; replace hx211_0 := (HB.out.cell (World.block_lt_of_cell? w _ hx211_0)).trans hx211_0; replace hx211_1 := (HB.out.cell (World.block_lt_of_cell? w _ hx211_1)).trans hx211_1; replace hx211_2 := (HB.out.cell (World.block_lt_of_cell? w _ hx211_2)).trans hx211_2; replace p211 := eq_true p211; replace q211 := eq_true q211) | ((with_reducible refine gate_callee (f := 16) rfl ?_); refine goesL_ (some 45) rfl rfl Tryd.func16 (by kernel_rfl) rfl #[.slice (some ad211) l0.length c0, .string ((rd_T31 l0 t210).f0)] rfl (by (try simp only [List.map_toArray, List.map_cons, List.map_nil]); first | done | rfl | (simp only [List.length_drop, List.length_take]; rfl)) ?_; (with_reducible refine (find_Sub.calls kj3 _ _ l0 ((rd_T31 l0 t210).f0) t212 t213 _ ?side1 ?side2 A15.out).mono ?_); (case side1 => repeat (first | exact (Kd.C_below HR0.out (by repeat (first | (with_reducible first | exact HB.out | apply below_alloc | apply pw_below_drewN | apply below_drew1) | exact HB.out))) | (with_reducible refine Kd.C_alloc ?_ _) | (with_reducible refine Kd.C_drewN ?_ _) | (with_reducible refine Kd.C_drew ?_))); (case side2 => exact HC0.out); rintro e w17 ⟨v214, rfl, ho0, hb⟩; refine ⟨_, rfl, ?_⟩; have n0_ := Aside0.mk (Kd.R_lower ho0 (below_size (by repeat (first | (with_reducible first | exact HB.out | apply below_alloc | apply pw_below_drewN | apply below_drew1) | exact HB.out)))); have n1_ := Aside0.mk (below_step (by repeat (first | (with_reducible first | exact HB.out | apply below_alloc | apply pw_below_drewN | apply below_drew1) | exact HB.out)) hb); clear HB; have HO215 := n0_; have HB := n1_; clear n0_ n1_; (try clear hb); (try clear hb2); (try clear hk); (try clear hi); (try clear ho0)))
            (try simp only [Act.put, List.setIfInBounds_toArray, List.set_cons_zero, List.set_cons_succ])
            go_cut [59] (fun v59 wc => ∃ (kq : Nat) (x59_15 : Bool), v59 = .bool x59_15 ∧ Aside0 (hogsheadlaw3_FindDeep.j1 kq l0 a2 ((rd_T31 l0 t210).f0) t212 x59_15 = some true) ∧ Aside0 (kq ≤ kj3) ∧ Aside0 (Kd.R k31 31 wc w.heap.size (fun _ => True) v214 t212) ∧ Aside0 (Below w.heap.size w wc))
            case first =>
              have H := HC16.out
              clear HC16
              by_cases c18 : t213 = true
              · subst c18
                have H1 : (if (t212.length : Int) = 0 then (hogsheadlaw3_FindDeep.j1 kj3 l0 a2 ((rd_T31 l0 t210).f0) t212 true) else ((tree_May.f kj3 t212).bind fun t216 => (hogsheadlaw3_FindDeep.j1 kj3 l0 a2 ((rd_T31 l0 t210).f0) t212 (!t216)))) = some true := by rw [if_pos rfl] at H; exact H
                clear H
                have H := H1
                clear H1
                by_cases c19 : (t212.length : Int) = 0
                · rw [if_pos c19] at H
                  exact absurd H (by cases kj3 <;> simp [hogsheadlaw3_FindDeep.j1, Option.bind_eq_some_iff])
                · rw [if_neg c19] at H
                  have c19b0 : ((t212.length : Int) == 0) = false := beq_eq_false_iff_ne.mpr c19
                  have c19b1 : ((t212.length : Int) != 0) = true := bne_iff_ne.mpr c19
                  have c19b2 : ¬ (t212 = []) := fun h_ => c19 (by rw [h_]; rfl)
                  (first | rw [c19b0] | (simp only [i64_w, i32_w]; rw [c19b0]) | skip)
                  replace H := Option.bind_eq_some_iff.mp H
                  obtain ⟨t216, A210, H⟩ := H
                  replace H : (hogsheadlaw3_FindDeep.j1 kj3 l0 a2 ((rd_T31 l0 t210).f0) t212 (!t216)) = some true := H
                  have A21 := Aside0.mk A210
                  clear A210
                  have H' := Aside0.mk H
                  clear H
                  obtain ⟨Ao22, co22, eo22⟩ := Kd.R_slice HO215.out
                  subst eo22
                  go_wp2_with (first | (go_at_call 8; (with_reducible refine (tree_May.calls kj3 _ _ t212 t216 _ ?side1 ?side2 A21.out).mono ?_); (case side1 => repeat (first | exact (Kd.R_reads' HO215.out).2.2 | (with_reducible refine Kd.C_alloc ?_ _) | (with_reducible refine Kd.C_drewN ?_ _) | (with_reducible refine Kd.C_drew ?_))); (case side2 => exact (Kd.R_reads' HO215.out).2.1); rintro e w23 ⟨rfl, hb⟩; have n0_ := Aside0.mk (Kd.R_below (by (with_reducible repeat (first | apply Kd.R_alloc | apply Kd.R_drewN | apply Kd.R_drew)); exact HO215.out) hb); have n1_ := Aside0.mk (below_step (by repeat (first | (with_reducible first | exact HB.out | apply below_alloc | apply pw_below_drewN | apply below_drew1) | exact HB.out)) hb); clear HO215; clear HB; have HO215 := n0_; have HB := n1_; clear n0_ n1_; (try clear hb); (try clear hb2); (try clear hk); (try clear hi)))
                  go_meet
                  case rel => exact ⟨_, (!t216), (by first | rfl | (simp; done) | (simp [*]; done)), H', ⟨by have := HJ3.out; first | omega | exact Nat.le_refl _⟩, ⟨by (with_reducible repeat (first | apply Kd.R_alloc | apply Kd.R_drewN | apply Kd.R_drew)); exact HO215.out⟩, ⟨by repeat (first | (with_reducible first | exact HB.out | apply below_alloc | apply pw_below_drewN | apply below_drew1) | exact HB.out)⟩⟩
              · replace c18 := Bool.eq_false_iff.mpr c18
                subst c18
                have H1 : (hogsheadlaw3_FindDeep.j1 kj3 l0 a2 ((rd_T31 l0 t210).f0) t212 true) = some true := by rw [if_neg (show ¬ (false = true) by decide)] at H; exact H
                exact absurd H1 (by cases kj3 <;> simp [hogsheadlaw3_FindDeep.j1, Option.bind_eq_some_iff])
            case rest =>
              clear HC16
              try clear c1
              try clear p2
              try clear q2
              try clear hx2
              try clear c4
              try clear c6
              try clear c7
              try clear c9
              try clear c10
              try clear c13
              try clear c13b0
              try clear c14
              try clear c14b0
              try clear c16
              try clear c18
              try clear c19
              try clear c19b0
              try clear c19b1
              try clear c19b2
              try clear p21
              try clear q21
              try clear hx21
              try clear hx211_0
              try clear hx211_1
              try clear hx211_2
              try clear p2
              try clear p211
              try clear q211
              obtain ⟨kq, x59_15, rfl, HA, HJ15, HO_8, HB⟩ := hcut
              cases kq with
              | zero => exact absurd HA.out (by simp [hogsheadlaw3_FindDeep.j1])
              | succ kj15 =>
                have H := HA.out
                clear HA
                simp only [hogsheadlaw3_FindDeep.j1] at H
                by_cases c24 : x59_15 = true
                · subst c24
                  have H1 : (some false) = some true := by rw [if_pos rfl] at H; exact H
                  exact absurd H1 (by simp)
                · replace c24 := Bool.eq_false_iff.mpr c24
                  subst c24
                  have H1 : ((hogsheadlaw0_Low.f a2 (t212.length : Int)).bind fun t217 => (if 0 ≤ t217 then (if t217 < (t212.length : Int) then ((path_Split.f kj15 ((rd_T31 l0 t210).f0)).bind fun t219 => ((path_Split.f kj15 ((rd_T31 t212 t217).f0)).bind fun t222 => (if t219.length + t222.length < 8796093022208 then ((path_Join.f kj15 (t219 ++ t222)).bind fun bt228 => (if bt228.2 = true then ((find_Sub.f kj15 t212 ((rd_T31 t212 t217).f0)).bind fun bt230 => ((find_Sub.f kj15 l0 bt228.1).bind fun bt234 => ((find_List.f kj15 t212 ((rd_T31 t212 t217).f0)).bind fun bt238 => ((find_List.f kj15 l0 bt228.1).bind fun bt242 => ((find_Lookup.f kj15 t212 ((rd_T31 t212 t217).f0)).bind fun bt246 => ((find_Lookup.f kj15 l0 bt228.1).bind fun bt251 => (if bt230.2 = true then (if bt234.2 = true then ((hogsheadlaw0_SameNodes.f kj15 bt230.1 bt234.1).bind fun t256 => (if t256 = true then (if (bt238.2 == bt242.2) = true then ((hogsheadlaw0_SameTexts.f kj15 bt238.1 bt242.1).bind fun t257 => (if t257 = true then (if bt246.2.2.2 = true then (if bt251.2.2.2 = true then (if bt246.2.1 = bt251.2.1 then (if bt246.2.2.1.toList = bt251.2.2.1.toList then (if bt251.1.toList = bt228.1.toList then ((hogsheadlaw3_awake.f kj15).bind fun t258 => (some t258)) else (some false)) else (some false)) else (some false)) else (some false)) else (some false)) else (some false))) else (some false)) else (some false))) else (some false)) else (some false)))))))) else (some false))) else (none)))) else (none)) else (none))) = some true := by rw [if_neg (show ¬ (false = true) by decide)] at H; exact H
                  clear H
                  have H := H1
                  clear H1
                  replace H := Option.bind_eq_some_iff.mp H
                  obtain ⟨t217, A250, H⟩ := H
                  replace H : (if 0 ≤ t217 then (if t217 < (t212.length : Int) then ((path_Split.f kj15 ((rd_T31 l0 t210).f0)).bind fun t219 => ((path_Split.f kj15 ((rd_T31 t212 t217).f0)).bind fun t222 => (if t219.length + t222.length < 8796093022208 then ((path_Join.f kj15 (t219 ++ t222)).bind fun bt228 => (if bt228.2 = true then ((find_Sub.f kj15 t212 ((rd_T31 t212 t217).f0)).bind fun bt230 => ((find_Sub.f kj15 l0 bt228.1).bind fun bt234 => ((find_List.f kj15 t212 ((rd_T31 t212 t217).f0)).bind fun bt238 => ((find_List.f kj15 l0 bt228.1).bind fun bt242 => ((find_Lookup.f kj15 t212 ((rd_T31 t212 t217).f0)).bind fun bt246 => ((find_Lookup.f kj15 l0 bt228.1).bind fun bt251 => (if bt230.2 = true then (if bt234.2 = true then ((hogsheadlaw0_SameNodes.f kj15 bt230.1 bt234.1).bind fun t256 => (if t256 = true then (if (bt238.2 == bt242.2) = true then ((hogsheadlaw0_SameTexts.f kj15 bt238.1 bt242.1).bind fun t257 => (if t257 = true then (if bt246.2.2.2 = true then (if bt251.2.2.2 = true then (if bt246.2.1 = bt251.2.1 then (if bt246.2.2.1.toList = bt251.2.2.1.toList then (if bt251.1.toList = bt228.1.toList then ((hogsheadlaw3_awake.f kj15).bind fun t258 => (some t258)) else (some false)) else (some false)) else (some false)) else (some false)) else (some false)) else (some false))) else (some false)) else (some false))) else (some false)) else (some false)))))))) else (some false))) else (none)))) else (none)) else (none)) = some true := H
                  have A25 := Aside0.mk A250
                  clear A250
                  by_cases c26 : 0 ≤ t217
                  · rw [if_pos c26] at H
                    have c26b0 : decide (0 ≤ t217) = true := decide_eq_true c26
                    clear c26
                    by_cases c27 : t217 < (t212.length : Int)
                    · rw [if_pos c27] at H
                      have c27b0 : decide (t217 < (t212.length : Int)) = true := decide_eq_true c27
                      clear c27
                      replace H := Option.bind_eq_some_iff.mp H
                      obtain ⟨t219, A280, H⟩ := H
                      replace H : ((path_Split.f kj15 ((rd_T31 t212 t217).f0)).bind fun t222 => (if t219.length + t222.length < 8796093022208 then ((path_Join.f kj15 (t219 ++ t222)).bind fun bt228 => (if bt228.2 = true then ((find_Sub.f kj15 t212 ((rd_T31 t212 t217).f0)).bind fun bt230 => ((find_Sub.f kj15 l0 bt228.1).bind fun bt234 => ((find_List.f kj15 t212 ((rd_T31 t212 t217).f0)).bind fun bt238 => ((find_List.f kj15 l0 bt228.1).bind fun bt242 => ((find_Lookup.f kj15 t212 ((rd_T31 t212 t217).f0)).bind fun bt246 => ((find_Lookup.f kj15 l0 bt228.1).bind fun bt251 => (if bt230.2 = true then (if bt234.2 = true then ((hogsheadlaw0_SameNodes.f kj15 bt230.1 bt234.1).bind fun t256 => (if t256 = true then (if (bt238.2 == bt242.2) = true then ((hogsheadlaw0_SameTexts.f kj15 bt238.1 bt242.1).bind fun t257 => (if t257 = true then (if bt246.2.2.2 = true then (if bt251.2.2.2 = true then (if bt246.2.1 = bt251.2.1 then (if bt246.2.2.1.toList = bt251.2.2.1.toList then (if bt251.1.toList = bt228.1.toList then ((hogsheadlaw3_awake.f kj15).bind fun t258 => (some t258)) else (some false)) else (some false)) else (some false)) else (some false)) else (some false)) else (some false))) else (some false)) else (some false))) else (some false)) else (some false)))))))) else (some false))) else (none))) = some true := H
                      have A28 := Aside0.mk A280
                      clear A280
                      replace H := Option.bind_eq_some_iff.mp H
                      obtain ⟨t222, A290, H⟩ := H
                      replace H : (if t219.length + t222.length < 8796093022208 then ((path_Join.f kj15 (t219 ++ t222)).bind fun bt228 => (if bt228.2 = true then ((find_Sub.f kj15 t212 ((rd_T31 t212 t217).f0)).bind fun bt230 => ((find_Sub.f kj15 l0 bt228.1).bind fun bt234 => ((find_List.f kj15 t212 ((rd_T31 t212 t217).f0)).bind fun bt238 => ((find_List.f kj15 l0 bt228.1).bind fun bt242 => ((find_Lookup.f kj15 t212 ((rd_T31 t212 t217).f0)).bind fun bt246 => ((find_Lookup.f kj15 l0 bt228.1).bind fun bt251 => (if bt230.2 = true then (if bt234.2 = true then ((hogsheadlaw0_SameNodes.f kj15 bt230.1 bt234.1).bind fun t256 => (if t256 = true then (if (bt238.2 == bt242.2) = true then ((hogsheadlaw0_SameTexts.f kj15 bt238.1 bt242.1).bind fun t257 => (if t257 = true then (if bt246.2.2.2 = true then (if bt251.2.2.2 = true then (if bt246.2.1 = bt251.2.1 then (if bt246.2.2.1.toList = bt251.2.2.1.toList then (if bt251.1.toList = bt228.1.toList then ((hogsheadlaw3_awake.f kj15).bind fun t258 => (some t258)) else (some false)) else (some false)) else (some false)) else (some false)) else (some false)) else (some false))) else (some false)) else (some false))) else (some false)) else (some false)))))))) else (some false))) else (none)) = some true := H
                      have A29 := Aside0.mk A290
                      clear A290
                      by_cases c30 : t219.length + t222.length < 8796093022208
                      · rw [if_pos c30] at H
                        have LMc30 := Aside0.mk c30
                        clear c30
                        obtain ⟨y225, hy225⟩ : ∃ y_ : List ByteArray, y_ = (t219 ++ t222) := ⟨_, rfl⟩
                        replace H : ((path_Join.f kj15 y225).bind fun bt228 => (if bt228.2 = true then ((find_Sub.f kj15 t212 ((rd_T31 t212 t217).f0)).bind fun bt230 => ((find_Sub.f kj15 l0 bt228.1).bind fun bt234 => ((find_List.f kj15 t212 ((rd_T31 t212 t217).f0)).bind fun bt238 => ((find_List.f kj15 l0 bt228.1).bind fun bt242 => ((find_Lookup.f kj15 t212 ((rd_T31 t212 t217).f0)).bind fun bt246 => ((find_Lookup.f kj15 l0 bt228.1).bind fun bt251 => (if bt230.2 = true then (if bt234.2 = true then ((hogsheadlaw0_SameNodes.f kj15 bt230.1 bt234.1).bind fun t256 => (if t256 = true then (if (bt238.2 == bt242.2) = true then ((hogsheadlaw0_SameTexts.f kj15 bt238.1 bt242.1).bind fun t257 => (if t257 = true then (if bt246.2.2.2 = true then (if bt251.2.2.2 = true then (if bt246.2.1 = bt251.2.1 then (if bt246.2.2.1.toList = bt251.2.2.1.toList then (if bt251.1.toList = bt228.1.toList then ((hogsheadlaw3_awake.f kj15).bind fun t258 => (some t258)) else (some false)) else (some false)) else (some false)) else (some false)) else (some false)) else (some false))) else (some false)) else (some false))) else (some false)) else (some false)))))))) else (some false))) = some true := by first | (rw [hy225]; with_reducible exact H) | (have H2_ := (Option.bind_some _ _).symm.trans H; rw [hy225]; with_reducible exact H2_) | (have H2_ := (Option.bind_some _ _).symm.trans H; with_reducible exact H2_) | with_reducible exact H | (rw [hy225]; exact H) | exact H
                        have Ny225 := Aside0.mk hy225
                        clear hy225
                        replace H := Option.bind_eq_some_iff.mp H
                        obtain ⟨⟨t228, t229⟩, A310, H⟩ := H
                        replace H : (if t229 = true then ((find_Sub.f kj15 t212 ((rd_T31 t212 t217).f0)).bind fun bt230 => ((find_Sub.f kj15 l0 t228).bind fun bt234 => ((find_List.f kj15 t212 ((rd_T31 t212 t217).f0)).bind fun bt238 => ((find_List.f kj15 l0 t228).bind fun bt242 => ((find_Lookup.f kj15 t212 ((rd_T31 t212 t217).f0)).bind fun bt246 => ((find_Lookup.f kj15 l0 t228).bind fun bt251 => (if bt230.2 = true then (if bt234.2 = true then ((hogsheadlaw0_SameNodes.f kj15 bt230.1 bt234.1).bind fun t256 => (if t256 = true then (if (bt238.2 == bt242.2) = true then ((hogsheadlaw0_SameTexts.f kj15 bt238.1 bt242.1).bind fun t257 => (if t257 = true then (if bt246.2.2.2 = true then (if bt251.2.2.2 = true then (if bt246.2.1 = bt251.2.1 then (if bt246.2.2.1.toList = bt251.2.2.1.toList then (if bt251.1.toList = t228.toList then ((hogsheadlaw3_awake.f kj15).bind fun t258 => (some t258)) else (some false)) else (some false)) else (some false)) else (some false)) else (some false)) else (some false))) else (some false)) else (some false))) else (some false)) else (some false)))))))) else (some false)) = some true := H
                        have A31 := Aside0.mk A310
                        clear A310
                        by_cases c32 : t229 = true
                        · subst c32
                          have H1 : ((find_Sub.f kj15 t212 ((rd_T31 t212 t217).f0)).bind fun bt230 => ((find_Sub.f kj15 l0 t228).bind fun bt234 => ((find_List.f kj15 t212 ((rd_T31 t212 t217).f0)).bind fun bt238 => ((find_List.f kj15 l0 t228).bind fun bt242 => ((find_Lookup.f kj15 t212 ((rd_T31 t212 t217).f0)).bind fun bt246 => ((find_Lookup.f kj15 l0 t228).bind fun bt251 => (if bt230.2 = true then (if bt234.2 = true then ((hogsheadlaw0_SameNodes.f kj15 bt230.1 bt234.1).bind fun t256 => (if t256 = true then (if (bt238.2 == bt242.2) = true then ((hogsheadlaw0_SameTexts.f kj15 bt238.1 bt242.1).bind fun t257 => (if t257 = true then (if bt246.2.2.2 = true then (if bt251.2.2.2 = true then (if bt246.2.1 = bt251.2.1 then (if bt246.2.2.1.toList = bt251.2.2.1.toList then (if bt251.1.toList = t228.toList then ((hogsheadlaw3_awake.f kj15).bind fun t258 => (some t258)) else (some false)) else (some false)) else (some false)) else (some false)) else (some false)) else (some false))) else (some false)) else (some false))) else (some false)) else (some false)))))))) = some true := by rw [if_pos rfl] at H; exact H
                          clear H
                          have H := H1
                          clear H1
                          replace H := Option.bind_eq_some_iff.mp H
                          obtain ⟨⟨t230, t231⟩, A330, H⟩ := H
                          replace H : ((find_Sub.f kj15 l0 t228).bind fun bt234 => ((find_List.f kj15 t212 ((rd_T31 t212 t217).f0)).bind fun bt238 => ((find_List.f kj15 l0 t228).bind fun bt242 => ((find_Lookup.f kj15 t212 ((rd_T31 t212 t217).f0)).bind fun bt246 => ((find_Lookup.f kj15 l0 t228).bind fun bt251 => (if t231 = true then (if bt234.2 = true then ((hogsheadlaw0_SameNodes.f kj15 t230 bt234.1).bind fun t256 => (if t256 = true then (if (bt238.2 == bt242.2) = true then ((hogsheadlaw0_SameTexts.f kj15 bt238.1 bt242.1).bind fun t257 => (if t257 = true then (if bt246.2.2.2 = true then (if bt251.2.2.2 = true then (if bt246.2.1 = bt251.2.1 then (if bt246.2.2.1.toList = bt251.2.2.1.toList then (if bt251.1.toList = t228.toList then ((hogsheadlaw3_awake.f kj15).bind fun t258 => (some t258)) else (some false)) else (some false)) else (some false)) else (some false)) else (some false)) else (some false))) else (some false)) else (some false))) else (some false)) else (some false))))))) = some true := H
                          have A33 := Aside0.mk A330
                          clear A330
                          replace H := Option.bind_eq_some_iff.mp H
                          obtain ⟨⟨t234, t235⟩, A340, H⟩ := H
                          replace H : ((find_List.f kj15 t212 ((rd_T31 t212 t217).f0)).bind fun bt238 => ((find_List.f kj15 l0 t228).bind fun bt242 => ((find_Lookup.f kj15 t212 ((rd_T31 t212 t217).f0)).bind fun bt246 => ((find_Lookup.f kj15 l0 t228).bind fun bt251 => (if t231 = true then (if t235 = true then ((hogsheadlaw0_SameNodes.f kj15 t230 t234).bind fun t256 => (if t256 = true then (if (bt238.2 == bt242.2) = true then ((hogsheadlaw0_SameTexts.f kj15 bt238.1 bt242.1).bind fun t257 => (if t257 = true then (if bt246.2.2.2 = true then (if bt251.2.2.2 = true then (if bt246.2.1 = bt251.2.1 then (if bt246.2.2.1.toList = bt251.2.2.1.toList then (if bt251.1.toList = t228.toList then ((hogsheadlaw3_awake.f kj15).bind fun t258 => (some t258)) else (some false)) else (some false)) else (some false)) else (some false)) else (some false)) else (some false))) else (some false)) else (some false))) else (some false)) else (some false)))))) = some true := H
                          have A34 := Aside0.mk A340
                          clear A340
                          replace H := Option.bind_eq_some_iff.mp H
                          obtain ⟨⟨t238, t239⟩, A350, H⟩ := H
                          replace H : ((find_List.f kj15 l0 t228).bind fun bt242 => ((find_Lookup.f kj15 t212 ((rd_T31 t212 t217).f0)).bind fun bt246 => ((find_Lookup.f kj15 l0 t228).bind fun bt251 => (if t231 = true then (if t235 = true then ((hogsheadlaw0_SameNodes.f kj15 t230 t234).bind fun t256 => (if t256 = true then (if (t239 == bt242.2) = true then ((hogsheadlaw0_SameTexts.f kj15 t238 bt242.1).bind fun t257 => (if t257 = true then (if bt246.2.2.2 = true then (if bt251.2.2.2 = true then (if bt246.2.1 = bt251.2.1 then (if bt246.2.2.1.toList = bt251.2.2.1.toList then (if bt251.1.toList = t228.toList then ((hogsheadlaw3_awake.f kj15).bind fun t258 => (some t258)) else (some false)) else (some false)) else (some false)) else (some false)) else (some false)) else (some false))) else (some false)) else (some false))) else (some false)) else (some false))))) = some true := H
                          have A35 := Aside0.mk A350
                          clear A350
                          replace H := Option.bind_eq_some_iff.mp H
                          obtain ⟨⟨t242, t243⟩, A360, H⟩ := H
                          replace H : ((find_Lookup.f kj15 t212 ((rd_T31 t212 t217).f0)).bind fun bt246 => ((find_Lookup.f kj15 l0 t228).bind fun bt251 => (if t231 = true then (if t235 = true then ((hogsheadlaw0_SameNodes.f kj15 t230 t234).bind fun t256 => (if t256 = true then (if (t239 == t243) = true then ((hogsheadlaw0_SameTexts.f kj15 t238 t242).bind fun t257 => (if t257 = true then (if bt246.2.2.2 = true then (if bt251.2.2.2 = true then (if bt246.2.1 = bt251.2.1 then (if bt246.2.2.1.toList = bt251.2.2.1.toList then (if bt251.1.toList = t228.toList then ((hogsheadlaw3_awake.f kj15).bind fun t258 => (some t258)) else (some false)) else (some false)) else (some false)) else (some false)) else (some false)) else (some false))) else (some false)) else (some false))) else (some false)) else (some false)))) = some true := H
                          have A36 := Aside0.mk A360
                          clear A360
                          replace H := Option.bind_eq_some_iff.mp H
                          obtain ⟨⟨t246, t247, t248, t249⟩, A370, H⟩ := H
                          replace H : ((find_Lookup.f kj15 l0 t228).bind fun bt251 => (if t231 = true then (if t235 = true then ((hogsheadlaw0_SameNodes.f kj15 t230 t234).bind fun t256 => (if t256 = true then (if (t239 == t243) = true then ((hogsheadlaw0_SameTexts.f kj15 t238 t242).bind fun t257 => (if t257 = true then (if t249 = true then (if bt251.2.2.2 = true then (if t247 = bt251.2.1 then (if t248.toList = bt251.2.2.1.toList then (if bt251.1.toList = t228.toList then ((hogsheadlaw3_awake.f kj15).bind fun t258 => (some t258)) else (some false)) else (some false)) else (some false)) else (some false)) else (some false)) else (some false))) else (some false)) else (some false))) else (some false)) else (some false))) = some true := H
                          have A37 := Aside0.mk A370
                          clear A370
                          replace H := Option.bind_eq_some_iff.mp H
                          obtain ⟨⟨t251, t252, t253, t254⟩, A380, H⟩ := H
                          replace H : (if t231 = true then (if t235 = true then ((hogsheadlaw0_SameNodes.f kj15 t230 t234).bind fun t256 => (if t256 = true then (if (t239 == t243) = true then ((hogsheadlaw0_SameTexts.f kj15 t238 t242).bind fun t257 => (if t257 = true then (if t249 = true then (if t254 = true then (if t247 = t252 then (if t248.toList = t253.toList then (if t251.toList = t228.toList then ((hogsheadlaw3_awake.f kj15).bind fun t258 => (some t258)) else (some false)) else (some false)) else (some false)) else (some false)) else (some false)) else (some false))) else (some false)) else (some false))) else (some false)) else (some false)) = some true := H
                          have A38 := Aside0.mk A380
                          clear A380
                          by_cases c39 : t231 = true
                          · subst c39
                            have H1 : (if t235 = true then ((hogsheadlaw0_SameNodes.f kj15 t230 t234).bind fun t256 => (if t256 = true then (if (t239 == t243) = true then ((hogsheadlaw0_SameTexts.f kj15 t238 t242).bind fun t257 => (if t257 = true then (if t249 = true then (if t254 = true then (if t247 = t252 then (if t248.toList = t253.toList then (if t251.toList = t228.toList then ((hogsheadlaw3_awake.f kj15).bind fun t258 => (some t258)) else (some false)) else (some false)) else (some false)) else (some false)) else (some false)) else (some false))) else (some false)) else (some false))) else (some false)) = some true := by rw [if_pos rfl] at H; exact H
                            clear H
                            have H := H1
                            clear H1
                            by_cases c40 : t235 = true
                            · subst c40
                              have H1 : ((hogsheadlaw0_SameNodes.f kj15 t230 t234).bind fun t256 => (if t256 = true then (if (t239 == t243) = true then ((hogsheadlaw0_SameTexts.f kj15 t238 t242).bind fun t257 => (if t257 = true then (if t249 = true then (if t254 = true then (if t247 = t252 then (if t248.toList = t253.toList then (if t251.toList = t228.toList then ((hogsheadlaw3_awake.f kj15).bind fun t258 => (some t258)) else (some false)) else (some false)) else (some false)) else (some false)) else (some false)) else (some false))) else (some false)) else (some false))) = some true := by rw [if_pos rfl] at H; exact H
                              clear H
                              have H := H1
                              clear H1
                              replace H := Option.bind_eq_some_iff.mp H
                              obtain ⟨t256, A410, H⟩ := H
                              replace H : (if t256 = true then (if (t239 == t243) = true then ((hogsheadlaw0_SameTexts.f kj15 t238 t242).bind fun t257 => (if t257 = true then (if t249 = true then (if t254 = true then (if t247 = t252 then (if t248.toList = t253.toList then (if t251.toList = t228.toList then ((hogsheadlaw3_awake.f kj15).bind fun t258 => (some t258)) else (some false)) else (some false)) else (some false)) else (some false)) else (some false)) else (some false))) else (some false)) else (some false)) = some true := H
                              have A41 := Aside0.mk A410
                              clear A410
                              by_cases c42 : t256 = true
                              · subst c42
                                have H1 : (if (t239 == t243) = true then ((hogsheadlaw0_SameTexts.f kj15 t238 t242).bind fun t257 => (if t257 = true then (if t249 = true then (if t254 = true then (if t247 = t252 then (if t248.toList = t253.toList then (if t251.toList = t228.toList then ((hogsheadlaw3_awake.f kj15).bind fun t258 => (some t258)) else (some false)) else (some false)) else (some false)) else (some false)) else (some false)) else (some false))) else (some false)) = some true := by rw [if_pos rfl] at H; exact H
                                clear H
                                have H := H1
                                clear H1
                                by_cases c43 : (t239 == t243) = true
                                · rw [if_pos c43] at H
                                  have c43b0 : (t239 == t243) = true := c43
                                  (try (have c43b1 : decide (t239 = t243) = true := by simpa using c43))
                                  (try (have c43b2 : (t239 == t243) = true := by simpa using c43))
                                  clear c43
                                  replace H := Option.bind_eq_some_iff.mp H
                                  obtain ⟨t257, A440, H⟩ := H
                                  replace H : (if t257 = true then (if t249 = true then (if t254 = true then (if t247 = t252 then (if t248.toList = t253.toList then (if t251.toList = t228.toList then ((hogsheadlaw3_awake.f kj15).bind fun t258 => (some t258)) else (some false)) else (some false)) else (some false)) else (some false)) else (some false)) else (some false)) = some true := H
                                  have A44 := Aside0.mk A440
                                  clear A440
                                  by_cases c45 : t257 = true
                                  · subst c45
                                    have H1 : (if t249 = true then (if t254 = true then (if t247 = t252 then (if t248.toList = t253.toList then (if t251.toList = t228.toList then ((hogsheadlaw3_awake.f kj15).bind fun t258 => (some t258)) else (some false)) else (some false)) else (some false)) else (some false)) else (some false)) = some true := by rw [if_pos rfl] at H; exact H
                                    clear H
                                    have H := H1
                                    clear H1
                                    by_cases c46 : t249 = true
                                    · subst c46
                                      have H1 : (if t254 = true then (if t247 = t252 then (if t248.toList = t253.toList then (if t251.toList = t228.toList then ((hogsheadlaw3_awake.f kj15).bind fun t258 => (some t258)) else (some false)) else (some false)) else (some false)) else (some false)) = some true := by rw [if_pos rfl] at H; exact H
                                      clear H
                                      have H := H1
                                      clear H1
                                      by_cases c47 : t254 = true
                                      · subst c47
                                        have H1 : (if t247 = t252 then (if t248.toList = t253.toList then (if t251.toList = t228.toList then ((hogsheadlaw3_awake.f kj15).bind fun t258 => (some t258)) else (some false)) else (some false)) else (some false)) = some true := by rw [if_pos rfl] at H; exact H
                                        clear H
                                        have H := H1
                                        clear H1
                                        by_cases c48 : t247 = t252
                                        · rw [if_pos c48] at H
                                          have c48b0 : (t247 == t252) = true := beq_iff_eq.mpr c48
                                          have c48b1 : (t247 != t252) = false := bne_eq_false_iff_eq.mpr c48
                                          clear c48
                                          by_cases c49 : t248.toList = t253.toList
                                          · rw [if_pos c49] at H
                                            have c49b0 : (t248.toList == t253.toList) = true := beq_iff_eq.mpr c49
                                            have c49b1 : (t248.toList != t253.toList) = false := bne_eq_false_iff_eq.mpr c49
                                            clear c49
                                            by_cases c50 : t251.toList = t228.toList
                                            · rw [if_pos c50] at H
                                              have c50b0 : (t251.toList == t228.toList) = true := beq_iff_eq.mpr c50
                                              have c50b1 : (t251.toList != t228.toList) = false := bne_eq_false_iff_eq.mpr c50
                                              clear c50
                                              replace H := Option.bind_eq_some_iff.mp H
                                              obtain ⟨t258, A510, H⟩ := H
                                              replace H : (some t258) = some true := H
                                              have A51 := Aside0.mk A510
                                              clear A510
                                              have hr_ := Option.some.inj H
                                              obtain ⟨Ao52, co52, eo52⟩ := Kd.R_slice HO_8.out
                                              subst eo52
                                              go_wp2_with (first | ((with_reducible refine gate_callee (f := 10) rfl ?_); refine goesL_ (some 64) rfl rfl Tryd.func10 (by kernel_rfl) rfl #[.int .i64 a2, .int .i64 (t212.length : Int)] rfl (by (try simp only [List.map_toArray, List.map_cons, List.map_nil]); first | done | rfl | (simp only [List.length_drop, List.length_take]; rfl)) ?_; (with_reducible refine (hogsheadlaw0_Low.calls a2 (t212.length : Int) t217 _ A25.out).mono ?_); rintro e w' ⟨rfl, ⟨nd, rfl⟩⟩; refine ⟨_, rfl, ?_⟩; (try (rw [drewN_self wc]; generalize hq_ : World.drewN wc _ = wc; have n0_ : Aside0 (Kd.R k31 31 wc w.heap.size (fun _ => True) (.slice Ao52 t212.length co52) t212) := ⟨by rw [← hq_]; exact (by (with_reducible repeat (first | apply Kd.R_alloc | apply Kd.R_drewN | apply Kd.R_drew)); exact HO_8.out)⟩; have n1_ : Aside0 (Below w.heap.size w wc) := ⟨by rw [← hq_]; exact (by repeat (first | (with_reducible first | exact HB.out | apply below_alloc | apply pw_below_drewN | apply below_drew1) | exact HB.out))⟩; clear HO_8 HB hq_; have HO_8 := n0_; have HB := n1_; clear n0_ n1_)); have p218 : 0 ≤ (t217 : Int) := of_decide_eq_true (by first | (with_reducible assumption) | assumption); have q218 : t217 < (t212.length : Int) := of_decide_eq_true (by first | (with_reducible assumption) | assumption); obtain ⟨ad218, e218, hx218_0, hx218_1, hx218_2⟩ := at_T31 (Kd.R_reads' HO_8.out).2.2 t217 p218 q218; cases e218; replace p218 := eq_true p218; replace q218 := eq_true q218) | ((with_reducible refine gate_callee (f := 13) rfl ?_); refine goesL_ (some 69) rfl rfl Tryd.func13 (by kernel_rfl) rfl #[.string ((rd_T31 l0 t210).f0)] rfl (by (try simp only [List.map_toArray, List.map_cons, List.map_nil]); first | done | rfl | (simp only [List.length_drop, List.length_take]; rfl)) ?_; (with_reducible refine (path_Split.calls kj15 ((rd_T31 l0 t210).f0) t219 _ A28.out).mono ?_); rintro e w53 ⟨v220, rfl, ho0, hb⟩; refine ⟨_, rfl, ?_⟩; have n0_ := Aside0.mk (Kd.R_below (by (with_reducible repeat (first | apply Kd.R_alloc | apply Kd.R_drewN | apply Kd.R_drew)); exact HO_8.out) hb); have n1_ := Aside0.mk (Kd.R_lower ho0 (below_size (by repeat (first | (with_reducible first | exact HB.out | apply below_alloc | apply pw_below_drewN | apply below_drew1) | exact HB.out)))); have n2_ := Aside0.mk (below_step (by repeat (first | (with_reducible first | exact HB.out | apply below_alloc | apply pw_below_drewN | apply below_drew1) | exact HB.out)) hb); clear HO_8; clear HB; have HO_8 := n0_; have HO221 := n1_; have HB := n2_; clear n0_ n1_ n2_; (try clear hb); (try clear hb2); (try clear hk); (try clear hi); (try clear ho0)) | ((with_reducible refine gate_callee (f := 13) rfl ?_); refine goesL_ (some 71) rfl rfl Tryd.func13 (by kernel_rfl) rfl #[.string ((rd_T31 t212 t217).f0)] rfl (by (try simp only [List.map_toArray, List.map_cons, List.map_nil]); first | done | rfl | (simp only [List.length_drop, List.length_take]; rfl)) ?_; (with_reducible refine (path_Split.calls kj15 ((rd_T31 t212 t217).f0) t222 _ A29.out).mono ?_); rintro e w54 ⟨v223, rfl, ho0, hb⟩; refine ⟨_, rfl, ?_⟩; have n0_ := Aside0.mk (Kd.R_below (by (with_reducible repeat (first | apply Kd.R_alloc | apply Kd.R_drewN | apply Kd.R_drew)); exact HO_8.out) hb); have n1_ := Aside0.mk (Kd.R_elder' (by (with_reducible repeat (first | apply Kd.R_alloc | apply Kd.R_drewN | apply Kd.R_drew)); exact HO221.out) (Kd.R_base ho0) hb); have n2_ := Aside0.mk (Kd.R_lower (Kd.R_new' ho0 (Kd.R_lt (by (with_reducible repeat (first | apply Kd.R_alloc | apply Kd.R_drewN | apply Kd.R_drew)); exact HO221.out))) (below_size (by repeat (first | (with_reducible first | exact HB.out | apply below_alloc | apply pw_below_drewN | apply below_drew1) | exact HB.out)))); have n3_ := Aside0.mk (below_step (by repeat (first | (with_reducible first | exact HB.out | apply below_alloc | apply pw_below_drewN | apply below_drew1) | exact HB.out)) hb); clear HO_8; clear HO221; clear HB; have HO_8 := n0_; have HO221 := n1_; have HO224 := n2_; have HB := n3_; clear n0_ n1_ n2_ n3_; (try clear hb); (try clear hb2); (try clear hk); (try clear hi); (try clear ho0); obtain ⟨Ao56, co56, eo56⟩ := Kd.R_slice HO224.out; subst eo56) | ((with_reducible refine gate_builtin (b := .append) (xs := #[.tmp 69, .tmp 71]) rfl ?_); (try (refine gate_guard (by rfl) ?_; dsimp only)); at_builtin; refine Kd.R_append_rows Kd.string (w0 := w) w.heap.size rfl (.tmp 69) (.tmp 71) 27 9 (.string ⟨#[]⟩) 16 rfl Tryd.underlying27 info9 rfl (by decide) (by omega) v220 t219 t222 _ _ _ (fun k_ => some k_ ≠ (.slice Ao56 t222.length co56 : Value).ownBlock) (fun _ => False) rfl rfl ?aO ?aR (fun _ _ h => h) (fun _ h => h.elim) ?aF ?aB ?aS ?aL ?_; (case aR => repeat (first | exact (Kd.R_reads' HO224.out).2.2 | (with_reducible refine Kd.C_alloc ?_ _) | (with_reducible refine Kd.C_drewN ?_ _) | (with_reducible refine Kd.C_drew ?_))); (case aB => exact (by repeat (first | (with_reducible first | exact HB.out | apply below_alloc | apply pw_below_drewN | apply below_drew1) | exact HB.out))); (case aF => exact (fun k_ hk => Kd.fresh' (Kd.R_lt (by (with_reducible repeat (first | apply Kd.R_alloc | apply Kd.R_drewN | apply Kd.R_drew)); exact HO224.out)) k_ hk)); (case aO => exact (by (with_reducible repeat (first | apply Kd.R_alloc | apply Kd.R_drewN | apply Kd.R_drew)); exact Kd.R_mono HO221.out (fun _ hk => hk.2))); (case aS => exact (below_size (by repeat (first | (with_reducible first | exact HB.out | apply below_alloc | apply pw_below_drewN | apply below_drew1) | exact HB.out)))); (case aL => have := LMc30.out; omega); intro v226 w55 ho hb hg hat; rw [← Ny225.out] at ho; have n0_ := Aside0.mk (Kd.R_over' (by (with_reducible repeat (first | apply Kd.R_alloc | apply Kd.R_drewN | apply Kd.R_drew)); exact HO_8.out) (Kd.R_typed (by (with_reducible repeat (first | apply Kd.R_alloc | apply Kd.R_drewN | apply Kd.R_drew)); exact HO221.out)) (by decide) hg); have n1_ := Aside0.mk (Kd.R_after (ok := (fun _ => True)) (by (with_reducible repeat (first | apply Kd.R_alloc | apply Kd.R_drewN | apply Kd.R_drew)); exact HO224.out) hg hat); have n2_ := Aside0.mk (hb); have n3_ := Aside0.mk (ho); clear HO_8; clear HO224; clear HB; clear HO221; have HO_8 := n0_; have HO224 := n1_; have HB := n2_; have HO227 := n3_; clear n0_ n1_ n2_ n3_; clear ho hb hg hat; obtain ⟨Ao57, co57, eo57⟩ := Kd.R_slice HO227.out; subst eo57) | ((with_reducible refine gate_callee (f := 14) rfl ?_); refine goesL_ (some 75) rfl rfl Tryd.func14 (by kernel_rfl) rfl #[.slice Ao57 y225.length co57] rfl (by (try simp only [List.map_toArray, List.map_cons, List.map_nil]); first | done | rfl | (simp only [List.length_drop, List.length_take]; rfl)) ?_; (with_reducible refine (path_Join.calls kj15 _ _ y225 t228 true _ ?side1 ?side2 A31.out).mono ?_); (case side1 => repeat (first | exact (Kd.R_reads' HO227.out).2.2 | (with_reducible refine Kd.C_alloc ?_ _) | (with_reducible refine Kd.C_drewN ?_ _) | (with_reducible refine Kd.C_drew ?_))); (case side2 => exact (Kd.R_reads' HO227.out).2.1); rintro e w58 ⟨rfl, hb⟩; refine ⟨_, rfl, ?_⟩; have n0_ := Aside0.mk (Kd.R_below (by (with_reducible repeat (first | apply Kd.R_alloc | apply Kd.R_drewN | apply Kd.R_drew)); exact HO_8.out) hb); have n1_ := Aside0.mk (Kd.R_below (by (with_reducible repeat (first | apply Kd.R_alloc | apply Kd.R_drewN | apply Kd.R_drew)); exact HO224.out) hb); have n2_ := Aside0.mk (Kd.R_below (by (with_reducible repeat (first | apply Kd.R_alloc | apply Kd.R_drewN | apply Kd.R_drew)); exact HO227.out) hb); have n3_ := Aside0.mk (below_step (by repeat (first | (with_reducible first | exact HB.out | apply below_alloc | apply pw_below_drewN | apply below_drew1) | exact HB.out)) hb); clear HO_8; clear HO224; clear HO227; clear HB; have HO_8 := n0_; have HO224 := n1_; have HO227 := n2_; have HB := n3_; clear n0_ n1_ n2_ n3_; (try clear hb); (try clear hb2); (try clear hk); (try clear hi)) | ((with_reducible refine gate_callee (f := 16) rfl ?_); refine goesL_ (some 83) rfl rfl Tryd.func16 (by kernel_rfl) rfl #[.slice (some ad218) t212.length co52, .string ((rd_T31 t212 t217).f0)] rfl (by (try simp only [List.map_toArray, List.map_cons, List.map_nil]); first | done | rfl | (simp only [List.length_drop, List.length_take]; rfl)) ?_; (with_reducible refine (find_Sub.calls kj15 _ _ t212 ((rd_T31 t212 t217).f0) t230 true _ ?side1 ?side2 A33.out).mono ?_); (case side1 => repeat (first | exact (Kd.R_reads' HO_8.out).2.2 | (with_reducible refine Kd.C_alloc ?_ _) | (with_reducible refine Kd.C_drewN ?_ _) | (with_reducible refine Kd.C_drew ?_))); (case side2 => exact (Kd.R_reads' HO_8.out).2.1); rintro e w59 ⟨v232, rfl, ho0, hb⟩; refine ⟨_, rfl, ?_⟩; have n0_ := Aside0.mk (Kd.R_elder' (by (with_reducible repeat (first | apply Kd.R_alloc | apply Kd.R_drewN | apply Kd.R_drew)); exact HO_8.out) (Kd.R_base ho0) hb); have n1_ := Aside0.mk (Kd.R_below (by (with_reducible repeat (first | apply Kd.R_alloc | apply Kd.R_drewN | apply Kd.R_drew)); exact HO224.out) hb); have n2_ := Aside0.mk (Kd.R_below (by (with_reducible repeat (first | apply Kd.R_alloc | apply Kd.R_drewN | apply Kd.R_drew)); exact HO227.out) hb); have n3_ := Aside0.mk (Kd.R_lower (Kd.R_new' ho0 (Kd.R_lt (by (with_reducible repeat (first | apply Kd.R_alloc | apply Kd.R_drewN | apply Kd.R_drew)); exact HO_8.out))) (below_size (by repeat (first | (with_reducible first | exact HB.out | apply below_alloc | apply pw_below_drewN | apply below_drew1) | exact HB.out)))); have n4_ := Aside0.mk (below_step (by repeat (first | (with_reducible first | exact HB.out | apply below_alloc | apply pw_below_drewN | apply below_drew1) | exact HB.out)) hb); clear HO_8; clear HO224; clear HO227; clear HB; have HO_8 := n0_; have HO224 := n1_; have HO227 := n2_; have HO233 := n3_; have HB := n4_; clear n0_ n1_ n2_ n3_ n4_; (try clear hb); (try clear hb2); (try clear hk); (try clear hi); (try clear ho0)) | ((with_reducible refine gate_callee (f := 16) rfl ?_); refine goesL_ (some 89) rfl rfl Tryd.func16 (by kernel_rfl) rfl #[.slice (some ad211) l0.length c0, .string t228] rfl (by (try simp only [List.map_toArray, List.map_cons, List.map_nil]); first | done | rfl | (simp only [List.length_drop, List.length_take]; rfl)) ?_; (with_reducible refine (find_Sub.calls kj15 _ _ l0 t228 t234 true _ ?side1 ?side2 A34.out).mono ?_); (case side1 => repeat (first | exact (Kd.C_below HR0.out HB.out) | (with_reducible refine Kd.C_alloc ?_ _) | (with_reducible refine Kd.C_drewN ?_ _) | (with_reducible refine Kd.C_drew ?_))); (case side2 => exact HC0.out); rintro e w60 ⟨v236, rfl, ho0, hb⟩; refine ⟨_, rfl, ?_⟩; have n0_ := Aside0.mk (Kd.R_elder' (by (with_reducible repeat (first | apply Kd.R_alloc | apply Kd.R_drewN | apply Kd.R_drew)); exact HO_8.out) (Kd.R_base ho0) hb); have n1_ := Aside0.mk (Kd.R_below (by (with_reducible repeat (first | apply Kd.R_alloc | apply Kd.R_drewN | apply Kd.R_drew)); exact HO224.out) hb); have n2_ := Aside0.mk (Kd.R_below (by (with_reducible repeat (first | apply Kd.R_alloc | apply Kd.R_drewN | apply Kd.R_drew)); exact HO227.out) hb); have n3_ := Aside0.mk (Kd.R_elder' (by (with_reducible repeat (first | apply Kd.R_alloc | apply Kd.R_drewN | apply Kd.R_drew)); exact HO233.out) (Kd.R_base ho0) hb); have n4_ := Aside0.mk (Kd.R_lower (Kd.R_new' (Kd.R_new' ho0 (Kd.R_lt (by (with_reducible repeat (first | apply Kd.R_alloc | apply Kd.R_drewN | apply Kd.R_drew)); exact HO_8.out))) (Kd.R_lt (by (with_reducible repeat (first | apply Kd.R_alloc | apply Kd.R_drewN | apply Kd.R_drew)); exact HO233.out))) (below_size (by repeat (first | (with_reducible first | exact HB.out | apply below_alloc | apply pw_below_drewN | apply below_drew1) | exact HB.out)))); have n5_ := Aside0.mk (below_step (by repeat (first | (with_reducible first | exact HB.out | apply below_alloc | apply pw_below_drewN | apply below_drew1) | exact HB.out)) hb); clear HO_8; clear HO224; clear HO227; clear HO233; clear HB; have HO_8 := n0_; have HO224 := n1_; have HO227 := n2_; have HO233 := n3_; have HO237 := n4_; have HB := n5_; clear n0_ n1_ n2_ n3_ n4_ n5_; (try clear hb); (try clear hb2); (try clear hk); (try clear hi); (try clear ho0)) | ((with_reducible refine gate_callee (f := 11) rfl ?_); refine goesL_ (some 95) rfl rfl Tryd.func11 (by kernel_rfl) rfl #[.slice (some ad218) t212.length co52, .string ((rd_T31 t212 t217).f0)] rfl (by (try simp only [List.map_toArray, List.map_cons, List.map_nil]); first | done | rfl | (simp only [List.length_drop, List.length_take]; rfl)) ?_; (with_reducible refine (find_List.calls kj15 _ _ t212 ((rd_T31 t212 t217).f0) t238 t239 _ ?side1 ?side2 A35.out).mono ?_); (case side1 => repeat (first | exact (Kd.R_reads' HO_8.out).2.2 | (with_reducible refine Kd.C_alloc ?_ _) | (with_reducible refine Kd.C_drewN ?_ _) | (with_reducible refine Kd.C_drew ?_))); (case side2 => exact (Kd.R_reads' HO_8.out).2.1); rintro e w61 ⟨v240, rfl, ho0, hb⟩; refine ⟨_, rfl, ?_⟩; have n0_ := Aside0.mk (Kd.R_below (by (with_reducible repeat (first | apply Kd.R_alloc | apply Kd.R_drewN | apply Kd.R_drew)); exact HO_8.out) hb); have n1_ := Aside0.mk (Kd.R_elder' (by (with_reducible repeat (first | apply Kd.R_alloc | apply Kd.R_drewN | apply Kd.R_drew)); exact HO224.out) (Kd.R_base ho0) hb); have n2_ := Aside0.mk (Kd.R_elder' (by (with_reducible repeat (first | apply Kd.R_alloc | apply Kd.R_drewN | apply Kd.R_drew)); exact HO227.out) (Kd.R_base ho0) hb); have n3_ := Aside0.mk (Kd.R_below (by (with_reducible repeat (first | apply Kd.R_alloc | apply Kd.R_drewN | apply Kd.R_drew)); exact HO233.out) hb); have n4_ := Aside0.mk (Kd.R_below (by (with_reducible repeat (first | apply Kd.R_alloc | apply Kd.R_drewN | apply Kd.R_drew)); exact HO237.out) hb); have n5_ := Aside0.mk (Kd.R_lower (Kd.R_new' (Kd.R_new' ho0 (Kd.R_lt (by (with_reducible repeat (first | apply Kd.R_alloc | apply Kd.R_drewN | apply Kd.R_drew)); exact HO224.out))) (Kd.R_lt (by (with_reducible repeat (first | apply Kd.R_alloc | apply Kd.R_drewN | apply Kd.R_drew)); exact HO227.out))) (below_size (by repeat (first | (with_reducible first | exact HB.out | apply below_alloc | apply pw_below_drewN | apply below_drew1) | exact HB.out)))); have n6_ := Aside0.mk (below_step (by repeat (first | (with_reducible first | exact HB.out | apply below_alloc | apply pw_below_drewN | apply below_drew1) | exact HB.out)) hb); clear HO_8; clear HO224; clear HO227; clear HO233; clear HO237; clear HB; have HO_8 := n0_; have HO224 := n1_; have HO227 := n2_; have HO233 := n3_; have HO237 := n4_; have HO241 := n5_; have HB := n6_; clear n0_ n1_ n2_ n3_ n4_ n5_ n6_; (try clear hb); (try clear hb2); (try clear hk); (try clear hi); (try clear ho0)) | ((with_reducible refine gate_callee (f := 11) rfl ?_); refine goesL_ (some 101) rfl rfl Tryd.func11 (by kernel_rfl) rfl #[.slice (some ad211) l0.length c0, .string t228] rfl (by (try simp only [List.map_toArray, List.map_cons, List.map_nil]); first | done | rfl | (simp only [List.length_drop, List.length_take]; rfl)) ?_; (with_reducible refine (find_List.calls kj15 _ _ l0 t228 t242 t243 _ ?side1 ?side2 A36.out).mono ?_); (case side1 => repeat (first | exact (Kd.C_below HR0.out HB.out) | (with_reducible refine Kd.C_alloc ?_ _) | (with_reducible refine Kd.C_drewN ?_ _) | (with_reducible refine Kd.C_drew ?_))); (case side2 => exact HC0.out); rintro e w62 ⟨v244, rfl, ho0, hb⟩; refine ⟨_, rfl, ?_⟩; have n0_ := Aside0.mk (Kd.R_below (by (with_reducible repeat (first | apply Kd.R_alloc | apply Kd.R_drewN | apply Kd.R_drew)); exact HO_8.out) hb); have n1_ := Aside0.mk (Kd.R_elder' (by (with_reducible repeat (first | apply Kd.R_alloc | apply Kd.R_drewN | apply Kd.R_drew)); exact HO224.out) (Kd.R_base ho0) hb); have n2_ := Aside0.mk (Kd.R_elder' (by (with_reducible repeat (first | apply Kd.R_alloc | apply Kd.R_drewN | apply Kd.R_drew)); exact HO227.out) (Kd.R_base ho0) hb); have n3_ := Aside0.mk (Kd.R_below (by (with_reducible repeat (first | apply Kd.R_alloc | apply Kd.R_drewN | apply Kd.R_drew)); exact HO233.out) hb); have n4_ := Aside0.mk (Kd.R_below (by (with_reducible repeat (first | apply Kd.R_alloc | apply Kd.R_drewN | apply Kd.R_drew)); exact HO237.out) hb); have n5_ := Aside0.mk (Kd.R_elder' (by (with_reducible repeat (first | apply Kd.R_alloc | apply Kd.R_drewN | apply Kd.R_drew)); exact HO241.out) (Kd.R_base ho0) hb); have n6_ := Aside0.mk (Kd.R_lower (Kd.R_new' (Kd.R_new' (Kd.R_new' ho0 (Kd.R_lt (by (with_reducible repeat (first | apply Kd.R_alloc | apply Kd.R_drewN | apply Kd.R_drew)); exact HO224.out))) (Kd.R_lt (by (with_reducible repeat (first | apply Kd.R_alloc | apply Kd.R_drewN | apply Kd.R_drew)); exact HO227.out))) (Kd.R_lt (by (with_reducible repeat (first | apply Kd.R_alloc | apply Kd.R_drewN | apply Kd.R_drew)); exact HO241.out))) (below_size (by repeat (first | (with_reducible first | exact HB.out | apply below_alloc | apply pw_below_drewN | apply below_drew1) | exact HB.out)))); have n7_ := Aside0.mk (below_step (by repeat (first | (with_reducible first | exact HB.out | apply below_alloc | apply pw_below_drewN | apply below_drew1) | exact HB.out)) hb); clear HO_8; clear HO224; clear HO227; clear HO233; clear HO237; clear HO241; clear HB; have HO_8 := n0_; have HO224 := n1_; have HO227 := n2_; have HO233 := n3_; have HO237 := n4_; have HO241 := n5_; have HO245 := n6_; have HB := n7_; clear n0_ n1_ n2_ n3_ n4_ n5_ n6_ n7_; (try clear hb); (try clear hb2); (try clear hk); (try clear hi); (try clear ho0)) | ((with_reducible refine gate_callee (f := 15) rfl ?_); refine goesL_ (some 107) rfl rfl Tryd.func15 (by kernel_rfl) rfl #[.slice (some ad218) t212.length co52, .string ((rd_T31 t212 t217).f0)] rfl (by (try simp only [List.map_toArray, List.map_cons, List.map_nil]); first | done | rfl | (simp only [List.length_drop, List.length_take]; rfl)) ?_; (with_reducible refine (find_Lookup.calls kj15 _ _ t212 ((rd_T31 t212 t217).f0) t246 t247 t248 true _ ?side1 ?side2 A37.out).mono ?_); (case side1 => repeat (first | exact (Kd.R_reads' HO_8.out).2.2 | (with_reducible refine Kd.C_alloc ?_ _) | (with_reducible refine Kd.C_drewN ?_ _) | (with_reducible refine Kd.C_drew ?_))); (case side2 => exact (Kd.R_reads' HO_8.out).2.1); rintro e w63 ⟨rfl, hb⟩; refine ⟨_, rfl, ?_⟩; have n0_ := Aside0.mk (Kd.R_below (by (with_reducible repeat (first | apply Kd.R_alloc | apply Kd.R_drewN | apply Kd.R_drew)); exact HO_8.out) hb); have n1_ := Aside0.mk (Kd.R_below (by (with_reducible repeat (first | apply Kd.R_alloc | apply Kd.R_drewN | apply Kd.R_drew)); exact HO224.out) hb); have n2_ := Aside0.mk (Kd.R_below (by (with_reducible repeat (first | apply Kd.R_alloc | apply Kd.R_drewN | apply Kd.R_drew)); exact HO227.out) hb); have n3_ := Aside0.mk (Kd.R_below (by (with_reducible repeat (first | apply Kd.R_alloc | apply Kd.R_drewN | apply Kd.R_drew)); exact HO233.out) hb); have n4_ := Aside0.mk (Kd.R_below (by (with_reducible repeat (first | apply Kd.R_alloc | apply Kd.R_drewN | apply Kd.R_drew)); exact HO237.out) hb); have n5_ := Aside0.mk (Kd.R_below (by (with_reducible repeat (first | apply Kd.R_alloc | apply Kd.R_drewN | apply Kd.R_drew)); exact HO241.out) hb); have n6_ := Aside0.mk (Kd.R_below (by (with_reducible repeat (first | apply Kd.R_alloc | apply Kd.R_drewN | apply Kd.R_drew)); exact HO245.out) hb); have n7_ := Aside0.mk (below_step (by repeat (first | (with_reducible first | exact HB.out | apply below_alloc | apply pw_below_drewN | apply below_drew1) | exact HB.out)) hb); clear HO_8; clear HO224; clear HO227; clear HO233; clear HO237; clear HO241; clear HO245; clear HB; have HO_8 := n0_; have HO224 := n1_; have HO227 := n2_; have HO233 := n3_; have HO237 := n4_; have HO241 := n5_; have HO245 := n6_; have HB := n7_; clear n0_ n1_ n2_ n3_ n4_ n5_ n6_ n7_; (try clear hb); (try clear hb2); (try clear hk); (try clear hi)) | ((with_reducible refine gate_dst (N := 22) rfl ?_); (try (refine gate_guard (by rfl) ?_; dsimp only)); refine box_event ?hg (N := 22) ?hd (cs := #[.string (⟨#[]⟩ : ByteArray), .int .i64 0, .string (⟨#[]⟩ : ByteArray)]) (t := 31) ?hr ?_; (case hd => rfl); (case hg => rfl); (case hr => first | (go_simp; done) | (go_simp; rfl)); intro gb250 hg w64 hbox hb; have n0_ := Aside0.mk (Kd.R_below (Kd.R_elderB (by (with_reducible repeat (first | apply Kd.R_alloc | apply Kd.R_drewN | apply Kd.R_drew)); exact HO_8.out) gb250 (Nat.le_of_eq hg.symm)) hb); have n1_ := Aside0.mk (Kd.R_below (by (with_reducible repeat (first | apply Kd.R_alloc | apply Kd.R_drewN | apply Kd.R_drew)); exact HO224.out) hb); have n2_ := Aside0.mk (Kd.R_below (by (with_reducible repeat (first | apply Kd.R_alloc | apply Kd.R_drewN | apply Kd.R_drew)); exact HO227.out) hb); have n3_ := Aside0.mk (Kd.R_below (Kd.R_elderB (by (with_reducible repeat (first | apply Kd.R_alloc | apply Kd.R_drewN | apply Kd.R_drew)); exact HO233.out) gb250 (Nat.le_of_eq hg.symm)) hb); have n4_ := Aside0.mk (Kd.R_below (Kd.R_elderB (by (with_reducible repeat (first | apply Kd.R_alloc | apply Kd.R_drewN | apply Kd.R_drew)); exact HO237.out) gb250 (Nat.le_of_eq hg.symm)) hb); have n5_ := Aside0.mk (Kd.R_below (by (with_reducible repeat (first | apply Kd.R_alloc | apply Kd.R_drewN | apply Kd.R_drew)); exact HO241.out) hb); have n6_ := Aside0.mk (Kd.R_below (by (with_reducible repeat (first | apply Kd.R_alloc | apply Kd.R_drewN | apply Kd.R_drew)); exact HO245.out) hb); have n7_ := Aside0.mk (below_step (by repeat (first | (with_reducible first | exact HB.out | apply below_alloc | apply pw_below_drewN | apply below_drew1) | exact HB.out)) hb); have n8_ := Aside0.mk (hbox); have n9_ := Aside0.mk ((by rw [hg]; exact (below_size (by repeat (first | (with_reducible first | exact HB.out | apply below_alloc | apply pw_below_drewN | apply below_drew1) | exact HB.out))) : w.heap.size ≤ gb250)); have n10_ := Aside0.mk ((by rw [hg]; exact (below_size (by repeat (first | (with_reducible first | exact HB.out | apply below_alloc | apply pw_below_drewN | apply below_drew1) | exact HB.out))) : w.heap.size ≤ gb250)); clear HO_8; clear HO224; clear HO227; clear HO233; clear HO237; clear HO241; clear HO245; clear HB; have HO_8 := n0_; have HO224 := n1_; have HO227 := n2_; have HO233 := n3_; have HO237 := n4_; have HO241 := n5_; have HO245 := n6_; have HB := n7_; have BK250 := n8_; have GW250 := n9_; have GE250 := n10_; clear n0_ n1_ n2_ n3_ n4_ n5_ n6_ n7_ n8_ n9_ n10_; clear hb hbox hg; have hcz65_0 : w64.cell? ⟨gb250, 0, none⟩ = some (.string (⟨#[]⟩ : ByteArray)) := (blk_cell BK250.out 0).trans rfl; have hcz65_1 : w64.cell? ⟨gb250, 1, none⟩ = some (.int .i64 0) := (blk_cell BK250.out 1).trans rfl; have hcz65_2 : w64.cell? ⟨gb250, 2, none⟩ = some (.string (⟨#[]⟩ : ByteArray)) := (blk_cell BK250.out 2).trans rfl; have hfz65_0 := blk_frozen BK250.out 0; have hfz65_1 := blk_frozen BK250.out 1; have hfz65_2 := blk_frozen BK250.out 2) | ((with_reducible refine gate_callee (f := 15) rfl ?_); refine goesL_ (some 113) rfl rfl Tryd.func15 (by kernel_rfl) rfl #[.slice (some ad211) l0.length c0, .string t228] rfl (by (try simp only [List.map_toArray, List.map_cons, List.map_nil]); first | done | rfl | (simp only [List.length_drop, List.length_take]; rfl)) ?_; (with_reducible refine (find_Lookup.calls kj15 _ _ l0 t228 t251 t252 t253 true _ ?side1 ?side2 A38.out).mono ?_); (case side1 => exact Kd.C_below HR0.out (by repeat (first | (with_reducible first | exact HB.out | apply below_alloc | apply pw_below_drewN | apply below_drew1 | refine below_set ?_ GE250.out) | exact HB.out))); (case side2 => exact HC0.out); rintro e w66 ⟨rfl, hb⟩; refine ⟨_, rfl, ?_⟩; have n0_ := Aside0.mk (Kd.R_below (by (with_reducible repeat (first | apply Kd.R_alloc | apply Kd.R_drewN | apply Kd.R_drew)); exact (Kd.R_mono (Kd.R_far (p := ⟨gb250, 2, none⟩) (Kd.R_far (p := ⟨gb250, 1, none⟩) (Kd.R_far (p := ⟨gb250, 0, none⟩) (Kd.R_mono HO_8.out (fun k_ hk => (⟨hk, hk.2⟩ : _ ∧ k_ ≠ gb250))) (fun _ hk => hk.2) (.string t246)) (fun _ hk => hk.2) (.int .i64 t247)) (fun _ hk => hk.2) (.string t248)) (fun _ h_ => h_.1))) hb); have n1_ := Aside0.mk (Kd.R_below (by (with_reducible repeat (first | apply Kd.R_alloc | apply Kd.R_drewN | apply Kd.R_drew)); exact (Kd.R_mono (Kd.R_far (p := ⟨gb250, 2, none⟩) (Kd.R_far (p := ⟨gb250, 1, none⟩) (Kd.R_far (p := ⟨gb250, 0, none⟩) (Kd.R_types HO224.out BK250.out (by decide)) (fun _ hk => hk.2) (.string t246)) (fun _ hk => hk.2) (.int .i64 t247)) (fun _ hk => hk.2) (.string t248)) (fun _ h_ => h_.1))) hb); have n2_ := Aside0.mk (Kd.R_below (by (with_reducible repeat (first | apply Kd.R_alloc | apply Kd.R_drewN | apply Kd.R_drew)); exact (Kd.R_mono (Kd.R_far (p := ⟨gb250, 2, none⟩) (Kd.R_far (p := ⟨gb250, 1, none⟩) (Kd.R_far (p := ⟨gb250, 0, none⟩) (Kd.R_types HO227.out BK250.out (by decide)) (fun _ hk => hk.2) (.string t246)) (fun _ hk => hk.2) (.int .i64 t247)) (fun _ hk => hk.2) (.string t248)) (fun _ h_ => h_.1))) hb); have n3_ := Aside0.mk (Kd.R_below (by (with_reducible repeat (first | apply Kd.R_alloc | apply Kd.R_drewN | apply Kd.R_drew)); exact (Kd.R_mono (Kd.R_far (p := ⟨gb250, 2, none⟩) (Kd.R_far (p := ⟨gb250, 1, none⟩) (Kd.R_far (p := ⟨gb250, 0, none⟩) (Kd.R_mono HO233.out (fun k_ hk => (⟨hk, hk.2⟩ : _ ∧ k_ ≠ gb250))) (fun _ hk => hk.2) (.string t246)) (fun _ hk => hk.2) (.int .i64 t247)) (fun _ hk => hk.2) (.string t248)) (fun _ h_ => h_.1))) hb); have n4_ := Aside0.mk (Kd.R_below (by (with_reducible repeat (first | apply Kd.R_alloc | apply Kd.R_drewN | apply Kd.R_drew)); exact (Kd.R_mono (Kd.R_far (p := ⟨gb250, 2, none⟩) (Kd.R_far (p := ⟨gb250, 1, none⟩) (Kd.R_far (p := ⟨gb250, 0, none⟩) (Kd.R_mono HO237.out (fun k_ hk => (⟨hk, hk.2⟩ : _ ∧ k_ ≠ gb250))) (fun _ hk => hk.2) (.string t246)) (fun _ hk => hk.2) (.int .i64 t247)) (fun _ hk => hk.2) (.string t248)) (fun _ h_ => h_.1))) hb); have n5_ := Aside0.mk (Kd.R_below (by (with_reducible repeat (first | apply Kd.R_alloc | apply Kd.R_drewN | apply Kd.R_drew)); exact (Kd.R_mono (Kd.R_far (p := ⟨gb250, 2, none⟩) (Kd.R_far (p := ⟨gb250, 1, none⟩) (Kd.R_far (p := ⟨gb250, 0, none⟩) (Kd.R_types HO241.out BK250.out (by decide)) (fun _ hk => hk.2) (.string t246)) (fun _ hk => hk.2) (.int .i64 t247)) (fun _ hk => hk.2) (.string t248)) (fun _ h_ => h_.1))) hb); have n6_ := Aside0.mk (Kd.R_below (by (with_reducible repeat (first | apply Kd.R_alloc | apply Kd.R_drewN | apply Kd.R_drew)); exact (Kd.R_mono (Kd.R_far (p := ⟨gb250, 2, none⟩) (Kd.R_far (p := ⟨gb250, 1, none⟩) (Kd.R_far (p := ⟨gb250, 0, none⟩) (Kd.R_types HO245.out BK250.out (by decide)) (fun _ hk => hk.2) (.string t246)) (fun _ hk => hk.2) (.int .i64 t247)) (fun _ hk => hk.2) (.string t248)) (fun _ h_ => h_.1))) hb); have n7_ := Aside0.mk (blk_below (g := gb250) (o := .cells #[.string t246, .int .i64 t247, .string t248] 31 (0, 0)) (by (with_reducible repeat (first | refine blk_drewN ?_ _ | refine blk_drew ?_ | refine blk_alloc ?_ _)); refine blk_put (cs := #[.string t246, .int .i64 t247, .string (⟨#[]⟩ : ByteArray)]) ?_ 2 _ rfl; (with_reducible repeat (first | refine blk_drewN ?_ _ | refine blk_drew ?_ | refine blk_alloc ?_ _)); refine blk_put (cs := #[.string t246, .int .i64 0, .string (⟨#[]⟩ : ByteArray)]) ?_ 1 _ rfl; (with_reducible repeat (first | refine blk_drewN ?_ _ | refine blk_drew ?_ | refine blk_alloc ?_ _)); refine blk_put (cs := #[.string (⟨#[]⟩ : ByteArray), .int .i64 0, .string (⟨#[]⟩ : ByteArray)]) ?_ 0 _ rfl; (with_reducible repeat (first | refine blk_drewN ?_ _ | refine blk_drew ?_ | refine blk_alloc ?_ _)); exact BK250.out) hb); have n8_ := Aside0.mk (below_step (by repeat (first | (with_reducible first | exact HB.out | apply below_alloc | apply pw_below_drewN | apply below_drew1 | refine below_set ?_ GE250.out) | exact HB.out)) hb); clear HO_8; clear HO224; clear HO227; clear HO233; clear HO237; clear HO241; clear HO245; clear BK250; clear HB; have HO_8 := n0_; have HO224 := n1_; have HO227 := n2_; have HO233 := n3_; have HO237 := n4_; have HO241 := n5_; have HO245 := n6_; have BK250 := n7_; have HB := n8_; clear n0_ n1_ n2_ n3_ n4_ n5_ n6_ n7_ n8_; (try clear hb); (try clear hb2); (try clear hk); (try clear hi)) | ((with_reducible refine gate_dst (N := 24) rfl ?_); (try (refine gate_guard (by rfl) ?_; dsimp only)); refine box_event ?hg (N := 24) ?hd (cs := #[.string (⟨#[]⟩ : ByteArray), .int .i64 0, .string (⟨#[]⟩ : ByteArray)]) (t := 31) ?hr ?_; (case hd => rfl); (case hg => rfl); (case hr => first | (go_simp; done) | (go_simp; rfl)); intro gb255 hg w67 hbox hb; have n0_ := Aside0.mk (Kd.R_below (Kd.R_elderB (by (with_reducible repeat (first | apply Kd.R_alloc | apply Kd.R_drewN | apply Kd.R_drew)); exact HO_8.out) gb255 (Nat.le_of_eq hg.symm)) hb); have n1_ := Aside0.mk (Kd.R_below (by (with_reducible repeat (first | apply Kd.R_alloc | apply Kd.R_drewN | apply Kd.R_drew)); exact HO224.out) hb); have n2_ := Aside0.mk (Kd.R_below (by (with_reducible repeat (first | apply Kd.R_alloc | apply Kd.R_drewN | apply Kd.R_drew)); exact HO227.out) hb); have n3_ := Aside0.mk (Kd.R_below (Kd.R_elderB (by (with_reducible repeat (first | apply Kd.R_alloc | apply Kd.R_drewN | apply Kd.R_drew)); exact HO233.out) gb255 (Nat.le_of_eq hg.symm)) hb); have n4_ := Aside0.mk (Kd.R_below (Kd.R_elderB (by (with_reducible repeat (first | apply Kd.R_alloc | apply Kd.R_drewN | apply Kd.R_drew)); exact HO237.out) gb255 (Nat.le_of_eq hg.symm)) hb); have n5_ := Aside0.mk (Kd.R_below (by (with_reducible repeat (first | apply Kd.R_alloc | apply Kd.R_drewN | apply Kd.R_drew)); exact HO241.out) hb); have n6_ := Aside0.mk (Kd.R_below (by (with_reducible repeat (first | apply Kd.R_alloc | apply Kd.R_drewN | apply Kd.R_drew)); exact HO245.out) hb); have n7_ := Aside0.mk (blk_below (g := gb250) (o := .cells #[.string t246, .int .i64 t247, .string t248] 31 (0, 0)) (by (with_reducible repeat (first | refine blk_drewN ?_ _ | refine blk_drew ?_ | refine blk_alloc ?_ _)); exact BK250.out) hb); have n8_ := Aside0.mk (below_step (by repeat (first | (with_reducible first | exact HB.out | apply below_alloc | apply pw_below_drewN | apply below_drew1 | refine below_set ?_ GE250.out) | exact HB.out)) hb); have n9_ := Aside0.mk (hbox); have n10_ := Aside0.mk ((by rw [hg]; exact (below_size (by repeat (first | (with_reducible first | exact HB.out | apply below_alloc | apply pw_below_drewN | apply below_drew1 | refine below_set ?_ GE250.out) | exact HB.out))) : w.heap.size ≤ gb255)); have n11_ := Aside0.mk ((by rw [hg]; exact (below_size (by repeat (first | (with_reducible first | exact HB.out | apply below_alloc | apply pw_below_drewN | apply below_drew1 | refine below_set ?_ GE250.out) | exact HB.out))) : w.heap.size ≤ gb255)); have n12_ := Aside0.mk ((by rw [hg]; exact Nat.ne_of_lt (blk_lt (g := gb250) (o := .cells #[.string t246, .int .i64 t247, .string t248] 31 (0, 0)) (by (with_reducible repeat (first | refine blk_drewN ?_ _ | refine blk_drew ?_ | refine blk_alloc ?_ _)); exact BK250.out)) : gb250 ≠ gb255)); have n13_ := Aside0.mk ((by rw [hg]; exact Nat.ne_of_gt (blk_lt (g := gb250) (o := .cells #[.string t246, .int .i64 t247, .string t248] 31 (0, 0)) (by (with_reducible repeat (first | refine blk_drewN ?_ _ | refine blk_drew ?_ | refine blk_alloc ?_ _)); exact BK250.out)) : gb255 ≠ gb250)); clear HO_8; clear HO224; clear HO227; clear HO233; clear HO237; clear HO241; clear HO245; clear BK250; clear HB; have HO_8 := n0_; have HO224 := n1_; have HO227 := n2_; have HO233 := n3_; have HO237 := n4_; have HO241 := n5_; have HO245 := n6_; have BK250 := n7_; have HB := n8_; have BK255 := n9_; have GW255 := n10_; have GE255 := n11_; have NB250_255 := n12_; have NB255_250 := n13_; clear n0_ n1_ n2_ n3_ n4_ n5_ n6_ n7_ n8_ n9_ n10_ n11_ n12_ n13_; clear hb hbox hg; have hnb68 := NB255_250.out; have hnc68 := NB250_255.out; have hcz69_0 : w67.cell? ⟨gb255, 0, none⟩ = some (.string (⟨#[]⟩ : ByteArray)) := (blk_cell BK255.out 0).trans rfl; have hcz69_1 : w67.cell? ⟨gb255, 1, none⟩ = some (.int .i64 0) := (blk_cell BK255.out 1).trans rfl; have hcz69_2 : w67.cell? ⟨gb255, 2, none⟩ = some (.string (⟨#[]⟩ : ByteArray)) := (blk_cell BK255.out 2).trans rfl; have hfz69_0 := blk_frozen BK255.out 0; have hfz69_1 := blk_frozen BK255.out 1; have hfz69_2 := blk_frozen BK255.out 2; obtain ⟨Ao70, co70, eo70⟩ := Kd.R_slice HO233.out; subst eo70; obtain ⟨Ao71, co71, eo71⟩ := Kd.R_slice HO237.out; subst eo71) | (go_at_call 17; (with_reducible refine (hogsheadlaw0_SameNodes.calls kj15 _ _ t230 _ _ t234 true _ ?side1 ?side2 ?side3 ?side4 A41.out).mono ?_); (case side1 => refine (Kd.R_reads' (e := 31) (base := w.heap.size) (ok := fun k_ => ((((True ∧ some k_ ≠ (.slice (some ad218) t212.length co52 : Value).ownBlock) ∧ some k_ ≠ (.slice Ao71 t234.length co71 : Value).ownBlock) ∧ k_ ≠ gb250) ∧ k_ ≠ gb255)) (n := t230.length) (c := co70) ?_).2.2; exact (by (with_reducible repeat (first | apply Kd.R_alloc | apply Kd.R_drewN | apply Kd.R_drew)); exact (Kd.R_mono (Kd.R_far (p := ⟨gb255, 2, none⟩) (Kd.R_far (p := ⟨gb255, 1, none⟩) (Kd.R_far (p := ⟨gb255, 0, none⟩) (Kd.R_mono HO233.out (fun k_ hk => (⟨hk, hk.2⟩ : _ ∧ k_ ≠ gb255))) (fun _ hk => hk.2) (.string t251)) (fun _ hk => hk.2) (.int .i64 t252)) (fun _ hk => hk.2) (.string t253)) (fun _ h_ => h_.1)))); (case side2 => exact (Kd.R_reads' HO233.out).2.1); (case side3 => refine (Kd.R_reads' (e := 31) (base := w.heap.size) (ok := fun k_ => ((((True ∧ some k_ ≠ (.slice (some ad218) t212.length co52 : Value).ownBlock) ∧ some k_ ≠ (.slice Ao70 t230.length co70 : Value).ownBlock) ∧ k_ ≠ gb250) ∧ k_ ≠ gb255)) (n := t234.length) (c := co71) ?_).2.2; exact (by (with_reducible repeat (first | apply Kd.R_alloc | apply Kd.R_drewN | apply Kd.R_drew)); exact (Kd.R_mono (Kd.R_far (p := ⟨gb255, 2, none⟩) (Kd.R_far (p := ⟨gb255, 1, none⟩) (Kd.R_far (p := ⟨gb255, 0, none⟩) (Kd.R_mono HO237.out (fun k_ hk => (⟨hk, hk.2⟩ : _ ∧ k_ ≠ gb255))) (fun _ hk => hk.2) (.string t251)) (fun _ hk => hk.2) (.int .i64 t252)) (fun _ hk => hk.2) (.string t253)) (fun _ h_ => h_.1)))); (case side4 => exact (Kd.R_reads' HO237.out).2.1); rintro e w' ⟨rfl, ⟨nd, rfl⟩⟩; obtain ⟨Ao72, co72, eo72⟩ := Kd.R_slice HO241.out; subst eo72; obtain ⟨Ao73, co73, eo73⟩ := Kd.R_slice HO245.out; subst eo73) | (go_at_call 18; (with_reducible refine (hogsheadlaw0_SameTexts.calls kj15 _ _ t238 _ _ t242 true _ ?side1 ?side2 ?side3 ?side4 A44.out).mono ?_); (case side1 => refine (Kd.R_reads' (e := 9) (base := w.heap.size) (ok := fun k_ => (((True ∧ some k_ ≠ (.slice Ao56 t222.length co56 : Value).ownBlock) ∧ some k_ ≠ (.slice Ao57 y225.length co57 : Value).ownBlock) ∧ some k_ ≠ (.slice Ao73 t242.length co73 : Value).ownBlock)) (n := t238.length) (c := co72) ?_).2.2; exact (by (with_reducible repeat (first | apply Kd.R_alloc | apply Kd.R_drewN | apply Kd.R_drew)); exact (Kd.R_mono (Kd.R_far (p := ⟨gb255, 2, none⟩) (Kd.R_far (p := ⟨gb255, 1, none⟩) (Kd.R_far (p := ⟨gb255, 0, none⟩) (Kd.R_types HO241.out BK255.out (by decide)) (fun _ hk => hk.2) (.string t251)) (fun _ hk => hk.2) (.int .i64 t252)) (fun _ hk => hk.2) (.string t253)) (fun _ h_ => h_.1)))); (case side2 => exact (Kd.R_reads' HO241.out).2.1); (case side3 => refine (Kd.R_reads' (e := 9) (base := w.heap.size) (ok := fun k_ => (((True ∧ some k_ ≠ (.slice Ao56 t222.length co56 : Value).ownBlock) ∧ some k_ ≠ (.slice Ao57 y225.length co57 : Value).ownBlock) ∧ some k_ ≠ (.slice Ao72 t238.length co72 : Value).ownBlock)) (n := t242.length) (c := co73) ?_).2.2; exact (by (with_reducible repeat (first | apply Kd.R_alloc | apply Kd.R_drewN | apply Kd.R_drew)); exact (Kd.R_mono (Kd.R_far (p := ⟨gb255, 2, none⟩) (Kd.R_far (p := ⟨gb255, 1, none⟩) (Kd.R_far (p := ⟨gb255, 0, none⟩) (Kd.R_types HO245.out BK255.out (by decide)) (fun _ hk => hk.2) (.string t251)) (fun _ hk => hk.2) (.int .i64 t252)) (fun _ hk => hk.2) (.string t253)) (fun _ h_ => h_.1)))); (case side4 => exact (Kd.R_reads' HO245.out).2.1); rintro e w' ⟨rfl, ⟨nd, rfl⟩⟩; have hcz74_0 : w67.cell? ⟨gb250, 0, none⟩ = some (.string t246) := (blk_cell BK250.out 0).trans rfl; have hcz74_1 : w67.cell? ⟨gb250, 1, none⟩ = some (.int .i64 t247) := (blk_cell BK250.out 1).trans rfl; have hcz74_2 : w67.cell? ⟨gb250, 2, none⟩ = some (.string t248) := (blk_cell BK250.out 2).trans rfl; have hfz74_0 := blk_frozen BK250.out 0; have hfz74_1 := blk_frozen BK250.out 1; have hfz74_2 := blk_frozen BK250.out 2) | (go_at_call 9; (with_reducible refine (hogsheadlaw3_awake.calls kj15  t258 _ A51.out).mono ?_); rintro e w75 ⟨rfl, hb⟩; have n0_ := Aside0.mk (Kd.R_below (by (with_reducible repeat (first | apply Kd.R_alloc | apply Kd.R_drewN | apply Kd.R_drew)); exact (Kd.R_mono (Kd.R_far (p := ⟨gb255, 2, none⟩) (Kd.R_far (p := ⟨gb255, 1, none⟩) (Kd.R_far (p := ⟨gb255, 0, none⟩) (Kd.R_mono HO_8.out (fun k_ hk => (⟨hk, hk.2⟩ : _ ∧ k_ ≠ gb255))) (fun _ hk => hk.2) (.string t251)) (fun _ hk => hk.2) (.int .i64 t252)) (fun _ hk => hk.2) (.string t253)) (fun _ h_ => h_.1))) hb); have n1_ := Aside0.mk (Kd.R_below (by (with_reducible repeat (first | apply Kd.R_alloc | apply Kd.R_drewN | apply Kd.R_drew)); exact (Kd.R_mono (Kd.R_far (p := ⟨gb255, 2, none⟩) (Kd.R_far (p := ⟨gb255, 1, none⟩) (Kd.R_far (p := ⟨gb255, 0, none⟩) (Kd.R_types HO224.out BK255.out (by decide)) (fun _ hk => hk.2) (.string t251)) (fun _ hk => hk.2) (.int .i64 t252)) (fun _ hk => hk.2) (.string t253)) (fun _ h_ => h_.1))) hb); have n2_ := Aside0.mk (Kd.R_below (by (with_reducible repeat (first | apply Kd.R_alloc | apply Kd.R_drewN | apply Kd.R_drew)); exact (Kd.R_mono (Kd.R_far (p := ⟨gb255, 2, none⟩) (Kd.R_far (p := ⟨gb255, 1, none⟩) (Kd.R_far (p := ⟨gb255, 0, none⟩) (Kd.R_types HO227.out BK255.out (by decide)) (fun _ hk => hk.2) (.string t251)) (fun _ hk => hk.2) (.int .i64 t252)) (fun _ hk => hk.2) (.string t253)) (fun _ h_ => h_.1))) hb); have n3_ := Aside0.mk (Kd.R_below (by (with_reducible repeat (first | apply Kd.R_alloc | apply Kd.R_drewN | apply Kd.R_drew)); exact (Kd.R_mono (Kd.R_far (p := ⟨gb255, 2, none⟩) (Kd.R_far (p := ⟨gb255, 1, none⟩) (Kd.R_far (p := ⟨gb255, 0, none⟩) (Kd.R_mono HO233.out (fun k_ hk => (⟨hk, hk.2⟩ : _ ∧ k_ ≠ gb255))) (fun _ hk => hk.2) (.string t251)) (fun _ hk => hk.2) (.int .i64 t252)) (fun _ hk => hk.2) (.string t253)) (fun _ h_ => h_.1))) hb); have n4_ := Aside0.mk (Kd.R_below (by (with_reducible repeat (first | apply Kd.R_alloc | apply Kd.R_drewN | apply Kd.R_drew)); exact (Kd.R_mono (Kd.R_far (p := ⟨gb255, 2, none⟩) (Kd.R_far (p := ⟨gb255, 1, none⟩) (Kd.R_far (p := ⟨gb255, 0, none⟩) (Kd.R_mono HO237.out (fun k_ hk => (⟨hk, hk.2⟩ : _ ∧ k_ ≠ gb255))) (fun _ hk => hk.2) (.string t251)) (fun _ hk => hk.2) (.int .i64 t252)) (fun _ hk => hk.2) (.string t253)) (fun _ h_ => h_.1))) hb); have n5_ := Aside0.mk (Kd.R_below (by (with_reducible repeat (first | apply Kd.R_alloc | apply Kd.R_drewN | apply Kd.R_drew)); exact (Kd.R_mono (Kd.R_far (p := ⟨gb255, 2, none⟩) (Kd.R_far (p := ⟨gb255, 1, none⟩) (Kd.R_far (p := ⟨gb255, 0, none⟩) (Kd.R_types HO241.out BK255.out (by decide)) (fun _ hk => hk.2) (.string t251)) (fun _ hk => hk.2) (.int .i64 t252)) (fun _ hk => hk.2) (.string t253)) (fun _ h_ => h_.1))) hb); have n6_ := Aside0.mk (Kd.R_below (by (with_reducible repeat (first | apply Kd.R_alloc | apply Kd.R_drewN | apply Kd.R_drew)); exact (Kd.R_mono (Kd.R_far (p := ⟨gb255, 2, none⟩) (Kd.R_far (p := ⟨gb255, 1, none⟩) (Kd.R_far (p := ⟨gb255, 0, none⟩) (Kd.R_types HO245.out BK255.out (by decide)) (fun _ hk => hk.2) (.string t251)) (fun _ hk => hk.2) (.int .i64 t252)) (fun _ hk => hk.2) (.string t253)) (fun _ h_ => h_.1))) hb); have n7_ := Aside0.mk (blk_below (g := gb250) (o := .cells #[.string t246, .int .i64 t247, .string t248] 31 (0, 0)) (by (with_reducible repeat (first | refine blk_drewN ?_ _ | refine blk_drew ?_ | refine blk_alloc ?_ _)); refine blk_far ?_ NB250_255.out _; (with_reducible repeat (first | refine blk_drewN ?_ _ | refine blk_drew ?_ | refine blk_alloc ?_ _)); refine blk_far ?_ NB250_255.out _; (with_reducible repeat (first | refine blk_drewN ?_ _ | refine blk_drew ?_ | refine blk_alloc ?_ _)); refine blk_far ?_ NB250_255.out _; (with_reducible repeat (first | refine blk_drewN ?_ _ | refine blk_drew ?_ | refine blk_alloc ?_ _)); exact BK250.out) hb); have n8_ := Aside0.mk (blk_below (g := gb255) (o := .cells #[.string t251, .int .i64 t252, .string t253] 31 (0, 0)) (by (with_reducible repeat (first | refine blk_drewN ?_ _ | refine blk_drew ?_ | refine blk_alloc ?_ _)); refine blk_put (cs := #[.string t251, .int .i64 t252, .string (⟨#[]⟩ : ByteArray)]) ?_ 2 _ rfl; (with_reducible repeat (first | refine blk_drewN ?_ _ | refine blk_drew ?_ | refine blk_alloc ?_ _)); refine blk_put (cs := #[.string t251, .int .i64 0, .string (⟨#[]⟩ : ByteArray)]) ?_ 1 _ rfl; (with_reducible repeat (first | refine blk_drewN ?_ _ | refine blk_drew ?_ | refine blk_alloc ?_ _)); refine blk_put (cs := #[.string (⟨#[]⟩ : ByteArray), .int .i64 0, .string (⟨#[]⟩ : ByteArray)]) ?_ 0 _ rfl; (with_reducible repeat (first | refine blk_drewN ?_ _ | refine blk_drew ?_ | refine blk_alloc ?_ _)); exact BK255.out) hb); have n9_ := Aside0.mk (below_step (by repeat (first | (with_reducible first | exact HB.out | apply below_alloc | apply pw_below_drewN | apply below_drew1 | refine below_set ?_ GE250.out | refine below_set ?_ GE255.out) | exact HB.out)) hb); clear HO_8; clear HO224; clear HO227; clear HO233; clear HO237; clear HO241; clear HO245; clear BK250; clear BK255; clear HB; have HO_8 := n0_; have HO224 := n1_; have HO227 := n2_; have HO233 := n3_; have HO237 := n4_; have HO241 := n5_; have HO245 := n6_; have BK250 := n7_; have BK255 := n8_; have HB := n9_; clear n0_ n1_ n2_ n3_ n4_ n5_ n6_ n7_ n8_ n9_; (try clear hb); (try clear hb2); (try clear hk); (try clear hi)))
                                              go_ret
                                              exact ⟨by first | rfl | (simp [errW_none, errW_some] <;> rfl) | (simp [*, errW_none, errW_some] <;> rfl), by repeat (first | (with_reducible first | exact HB.out | apply below_alloc | apply pw_below_drewN | apply below_drew1 | refine below_set ?_ GE250.out | refine below_set ?_ GE255.out) | exact HB.out)⟩
                                            · rw [if_neg c50] at H
                                              exact absurd H (by simp)
                                          · rw [if_neg c49] at H
                                            exact absurd H (by simp)
                                        · rw [if_neg c48] at H
                                          exact absurd H (by simp)
                                      · replace c47 := Bool.eq_false_iff.mpr c47
                                        subst c47
                                        have H1 : (some false) = some true := by rw [if_neg (show ¬ (false = true) by decide)] at H; exact H
                                        exact absurd H1 (by simp)
                                    · replace c46 := Bool.eq_false_iff.mpr c46
                                      subst c46
                                      have H1 : (some false) = some true := by rw [if_neg (show ¬ (false = true) by decide)] at H; exact H
                                      exact absurd H1 (by simp)
                                  · replace c45 := Bool.eq_false_iff.mpr c45
                                    subst c45
                                    have H1 : (some false) = some true := by rw [if_neg (show ¬ (false = true) by decide)] at H; exact H
                                    exact absurd H1 (by simp)
                                · rw [if_neg c43] at H
                                  exact absurd H (by simp)
                              · replace c42 := Bool.eq_false_iff.mpr c42
                                subst c42
                                have H1 : (some false) = some true := by rw [if_neg (show ¬ (false = true) by decide)] at H; exact H
                                exact absurd H1 (by simp)
                            · replace c40 := Bool.eq_false_iff.mpr c40
                              subst c40
                              have H1 : (some false) = some true := by rw [if_neg (show ¬ (false = true) by decide)] at H; exact H
                              exact absurd H1 (by simp)
                          · replace c39 := Bool.eq_false_iff.mpr c39
                            subst c39
                            have H1 : (some false) = some true := by rw [if_neg (show ¬ (false = true) by decide)] at H; exact H
                            exact absurd H1 (by simp)
                        · replace c32 := Bool.eq_false_iff.mpr c32
                          subst c32
                          have H1 : (some false) = some true := by rw [if_neg (show ¬ (false = true) by decide)] at H; exact H
                          exact absurd H1 (by simp)
                      · rw [if_neg c30] at H
                        exact absurd H (by simp)
                    · rw [if_neg c27] at H
                      exact absurd H (by simp)
                  · rw [if_neg c26] at H
                    exact absurd H (by simp)
          · rw [if_neg c14] at H
            exact absurd H (by simp)
        · rw [if_neg c13] at H
          exact absurd H (by simp)

/-- The one plain statement of hogsheadlaw3_FindDeep. -/
def hogsheadlaw3_FindDeep.Pure : Prop := ∀ (l0 : List (S31)) (a1 : Int) (a2 : Int), (l0.length ≤ maxLen ∧ ∀ y1 ∈ l0, (y1.f0.size ≤ maxLen) ∧ ((Lit.int .i64 y1.f1).wf = true) ∧ (y1.f2.size ≤ maxLen)) → (Lit.int .i64 a1).wf = true → (Lit.int .i64 a2).wf = true → ∃ k, hogsheadlaw3_FindDeep.f k l0 a1 a2 = some true

end Go.Proofs.YtkloomnkpfaijaaDoor.P
