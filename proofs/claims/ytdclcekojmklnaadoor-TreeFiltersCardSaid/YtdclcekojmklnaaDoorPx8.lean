/- Laid by a program of this session (wip/pr), after the printer of the kit: the functions that a statement reaches as plain Lean functions, and that the calls of the machine come to them. No condition. -/
import Derived.Test.YtdclcekojmklnaaDoorPx0
import Derived.Test.YtdclcekojmklnaaDoorPx2
import Derived.Test.YtdclcekojmklnaaDoorPx3
import Derived.Test.YtdclcekojmklnaaDoorPx6
import Derived.Test.YtdclcekojmklnaaDoorPx7
namespace Go.Proofs.YtdclcekojmklnaaDoor.P
open Go.RowKit Go.Proofs.YtdclcekojmklnaaDoorX Go.Proofs.YtdclcekojmklnaaDoorW.PrintWords Go.Proofs.YtdclcekojmklnaaDoorW.PrintLast Go.Proofs.YtdclcekojmklnaaDoorW.PrintMore
attribute [local go_sem] max2_int min2_int max_two min_two max_three min_three max_four min_four   -- for this text's walks alone
set_option linter.unusedVariables false
set_option linter.unusedSimpArgs false

/-! ### hogsheadlaw2_TreeFilters: function 4 -/
/-- A counter that is made. -/
def main_main.f (k : Int) : Option (Int × Int) := some (k, 0)
theorem main_main.eq {k a c : Int} (h : main_main.f k = some (a, c)) : k = a ∧ 0 = c := by
  unfold main_main.f at h
  simp only [Option.some.injEq, Prod.mk.injEq] at h
  exact h
mutual
def hogsheadlaw2_TreeFilters.l0 : Nat → List (S24) → Int → List (S24) → List (S24) → List (S24) → List (S24) → List (S24) → Int → Int → Int → Option (Bool)
  | 0, _, _, _, _, _, _, _, _, _, _ => none
  | k + 1, x0, x1, x6, x7, x8, x9, x10, x11, x158000, x158001 => if x11 < (x0.length : Int) then (if 0 ≤ x11 then (if ((rd_T24 x0 x11).f1) = x1 then (if x9.length < 3518437208883 then (hogsheadlaw2_TreeFilters.j1 k x0 x1 x6 x7 x8 (x9 ++ [(⟨(rd_T24 x0 x11).f0, (rd_T24 x0 x11).f1, (rd_T24 x0 x11).f2⟩ : S24)]) x10 x11 x158000 x158001) else (none)) else (hogsheadlaw2_TreeFilters.j1 k x0 x1 x6 x7 x8 x9 x10 x11 x158000 x158001)) else (none)) else ((hogsheadlaw0_SameNodes.f k x6 x9).bind fun t179 => (if t179 = true then ((hogsheadlaw0_SameNodes.f k x7 x10).bind fun t180 => (if t180 = true then (if x158001 = (x0.length : Int) then ((hogsheadlaw0_SameNodes.f k x8 x0).bind fun t181 => (hogsheadlaw2_TreeFilters.j2 k x0 x6 x8 x9 t181 x158000 x158001)) else (hogsheadlaw2_TreeFilters.j2 k x0 x6 x8 x9 false x158000 x158001)) else (hogsheadlaw2_TreeFilters.j2 k x0 x6 x8 x9 false x158000 x158001))) else (hogsheadlaw2_TreeFilters.j2 k x0 x6 x8 x9 false x158000 x158001)))
def hogsheadlaw2_TreeFilters.j1 : Nat → List (S24) → Int → List (S24) → List (S24) → List (S24) → List (S24) → List (S24) → Int → Int → Int → Option (Bool)
  | 0, _, _, _, _, _, _, _, _, _, _ => none
  | k + 1, x0, x1, x6, x7, x8, x9, x10, x11, x158000, x158001 => if 0 ≤ x11 then (if x11 < (x0.length : Int) then (if ((rd_T24 x0 x11).f1) = 2 then (if x10.length < 3518437208883 then (hogsheadlaw2_TreeFilters.l0 k x0 x1 x6 x7 x8 x9 (x10 ++ [(⟨(rd_T24 x0 x11).f0, (rd_T24 x0 x11).f1, (rd_T24 x0 x11).f2⟩ : S24)]) (wrap64 (x11 + 1)) x158000 x158001) else (none)) else (hogsheadlaw2_TreeFilters.l0 k x0 x1 x6 x7 x8 x9 x10 (wrap64 (x11 + 1)) x158000 x158001)) else (none)) else (none)
def hogsheadlaw2_TreeFilters.j2 : Nat → List (S24) → List (S24) → List (S24) → List (S24) → Bool → Int → Int → Option (Bool)
  | 0, _, _, _, _, _, _, _ => none
  | k + 1, x0, x6, x8, x9, x12, x158000, x158001 => (hogsheadlaw0_OverNodes.f k x6).bind fun _ => ((hogsheadlaw0_OverNodes.f k x8).bind fun _ => (if x12 = true then ((tree_FilterIs.f k x0 x158000 x158001).bind fun bt182 => ((hogsheadlaw0_SameNodes.f k bt182.1 x9).bind fun t187 => (if t187 = true then ((hogsheadlaw2_awake.f k).bind fun t188 => (some t188)) else (some false)))) else (some false)))
end
def hogsheadlaw2_TreeFilters.f (k : Nat) (l0 : List (S24)) (a1 : Int) : Option (Bool) := (hogsheadlaw0_GreatNodes.f k l0 60).bind fun t152 => (if t152 = true then ((hogsheadlaw2_awake.f k).bind fun t153 => (some t153)) else ((hogsheadlaw0_Low.f a1 4).bind fun t154 => ((main_main.f (wrap64 (1 + t154))).bind fun bt155 => ((tree_FilterIs.f k l0 bt155.1 bt155.2).bind fun bt158 => ((tree_FilterPlain.f k l0).bind fun t163 => ((tree_FilterNil.f k l0).bind fun t166 => (hogsheadlaw2_TreeFilters.l0 k l0 (wrap64 (1 + t154)) bt158.1 t163 t166 ([] : List (S24)) ([] : List (S24)) 0 bt158.2.1 bt158.2.2)))))))
theorem hogsheadlaw2_TreeFilters.mono_l : ∀ k, (∀ y0 y1 y2 y3 y4 y5 y6 y7 y8 y9, LeO (hogsheadlaw2_TreeFilters.l0 k y0 y1 y2 y3 y4 y5 y6 y7 y8 y9) (hogsheadlaw2_TreeFilters.l0 (k + 1) y0 y1 y2 y3 y4 y5 y6 y7 y8 y9)) ∧ (∀ y0 y1 y2 y3 y4 y5 y6 y7 y8 y9, LeO (hogsheadlaw2_TreeFilters.j1 k y0 y1 y2 y3 y4 y5 y6 y7 y8 y9) (hogsheadlaw2_TreeFilters.j1 (k + 1) y0 y1 y2 y3 y4 y5 y6 y7 y8 y9)) ∧ (∀ y0 y1 y2 y3 y4 y5 y6, LeO (hogsheadlaw2_TreeFilters.j2 k y0 y1 y2 y3 y4 y5 y6) (hogsheadlaw2_TreeFilters.j2 (k + 1) y0 y1 y2 y3 y4 y5 y6))
  | 0 => ⟨fun _ _ _ _ _ _ _ _ _ _ r h => by simp [hogsheadlaw2_TreeFilters.l0] at h, fun _ _ _ _ _ _ _ _ _ _ r h => by simp [hogsheadlaw2_TreeFilters.j1] at h, fun _ _ _ _ _ _ _ r h => by simp [hogsheadlaw2_TreeFilters.j2] at h⟩
  | k + 1 => by
    obtain ⟨ih0, ih1, ih2⟩ := hogsheadlaw2_TreeFilters.mono_l k
    refine ⟨?_, ?_, ?_⟩
    · intro y0 y1 y2 y3 y4 y5 y6 y7 y8 y9
      unfold hogsheadlaw2_TreeFilters.l0
      repeat' first
      | (with_reducible exact ih0 _ _ _ _ _ _ _ _ _ _)
      | (with_reducible exact ih1 _ _ _ _ _ _ _ _ _ _)
      | (with_reducible exact ih2 _ _ _ _ _ _ _)
      | (with_reducible exact hogsheadlaw0_GreatNodes.mono _ _ _)
      | (with_reducible exact hogsheadlaw0_OverNodes.mono _ _)
      | (with_reducible exact hogsheadlaw0_SameNodes.mono _ _ _)
      | (with_reducible exact tree_FilterPlain.mono _ _)
      | (with_reducible exact tree_FilterNil.mono _ _)
      | (with_reducible exact tree_FilterIs.mono _ _ _ _)
      | (with_reducible exact hogsheadlaw2_awake.mono _)
      | (with_reducible exact LeO.refl _)
      | (with_reducible exact LeO.none _)
      | (with_reducible refine LeO.ite ?_ ?_)
      | (with_reducible refine LeO.bind ?_ (fun _ => ?_))
      | exact ih0 _ _ _ _ _ _ _ _ _ _
      | exact ih1 _ _ _ _ _ _ _ _ _ _
      | exact ih2 _ _ _ _ _ _ _
      | exact hogsheadlaw0_GreatNodes.mono _ _ _
      | exact hogsheadlaw0_OverNodes.mono _ _
      | exact hogsheadlaw0_SameNodes.mono _ _ _
      | exact tree_FilterPlain.mono _ _
      | exact tree_FilterNil.mono _ _
      | exact tree_FilterIs.mono _ _ _ _
      | exact hogsheadlaw2_awake.mono _
      | exact LeO.none _
      | refine LeO.ite ?_ ?_
      | refine LeO.bind ?_ (fun _ => ?_)
    · intro y0 y1 y2 y3 y4 y5 y6 y7 y8 y9
      unfold hogsheadlaw2_TreeFilters.j1
      repeat' first
      | (with_reducible exact ih0 _ _ _ _ _ _ _ _ _ _)
      | (with_reducible exact ih1 _ _ _ _ _ _ _ _ _ _)
      | (with_reducible exact ih2 _ _ _ _ _ _ _)
      | (with_reducible exact hogsheadlaw0_GreatNodes.mono _ _ _)
      | (with_reducible exact hogsheadlaw0_OverNodes.mono _ _)
      | (with_reducible exact hogsheadlaw0_SameNodes.mono _ _ _)
      | (with_reducible exact tree_FilterPlain.mono _ _)
      | (with_reducible exact tree_FilterNil.mono _ _)
      | (with_reducible exact tree_FilterIs.mono _ _ _ _)
      | (with_reducible exact hogsheadlaw2_awake.mono _)
      | (with_reducible exact LeO.refl _)
      | (with_reducible exact LeO.none _)
      | (with_reducible refine LeO.ite ?_ ?_)
      | (with_reducible refine LeO.bind ?_ (fun _ => ?_))
      | exact ih0 _ _ _ _ _ _ _ _ _ _
      | exact ih1 _ _ _ _ _ _ _ _ _ _
      | exact ih2 _ _ _ _ _ _ _
      | exact hogsheadlaw0_GreatNodes.mono _ _ _
      | exact hogsheadlaw0_OverNodes.mono _ _
      | exact hogsheadlaw0_SameNodes.mono _ _ _
      | exact tree_FilterPlain.mono _ _
      | exact tree_FilterNil.mono _ _
      | exact tree_FilterIs.mono _ _ _ _
      | exact hogsheadlaw2_awake.mono _
      | exact LeO.none _
      | refine LeO.ite ?_ ?_
      | refine LeO.bind ?_ (fun _ => ?_)
    · intro y0 y1 y2 y3 y4 y5 y6
      unfold hogsheadlaw2_TreeFilters.j2
      repeat' first
      | (with_reducible exact ih0 _ _ _ _ _ _ _ _ _ _)
      | (with_reducible exact ih1 _ _ _ _ _ _ _ _ _ _)
      | (with_reducible exact ih2 _ _ _ _ _ _ _)
      | (with_reducible exact hogsheadlaw0_GreatNodes.mono _ _ _)
      | (with_reducible exact hogsheadlaw0_OverNodes.mono _ _)
      | (with_reducible exact hogsheadlaw0_SameNodes.mono _ _ _)
      | (with_reducible exact tree_FilterPlain.mono _ _)
      | (with_reducible exact tree_FilterNil.mono _ _)
      | (with_reducible exact tree_FilterIs.mono _ _ _ _)
      | (with_reducible exact hogsheadlaw2_awake.mono _)
      | (with_reducible exact LeO.refl _)
      | (with_reducible exact LeO.none _)
      | (with_reducible refine LeO.ite ?_ ?_)
      | (with_reducible refine LeO.bind ?_ (fun _ => ?_))
      | exact ih0 _ _ _ _ _ _ _ _ _ _
      | exact ih1 _ _ _ _ _ _ _ _ _ _
      | exact ih2 _ _ _ _ _ _ _
      | exact hogsheadlaw0_GreatNodes.mono _ _ _
      | exact hogsheadlaw0_OverNodes.mono _ _
      | exact hogsheadlaw0_SameNodes.mono _ _ _
      | exact tree_FilterPlain.mono _ _
      | exact tree_FilterNil.mono _ _
      | exact tree_FilterIs.mono _ _ _ _
      | exact hogsheadlaw2_awake.mono _
      | exact LeO.none _
      | refine LeO.ite ?_ ?_
      | refine LeO.bind ?_ (fun _ => ?_)
theorem hogsheadlaw2_TreeFilters.mono : ∀ a0 a1 k, LeO (hogsheadlaw2_TreeFilters.f k a0 a1) (hogsheadlaw2_TreeFilters.f (k + 1) a0 a1) := by
  intro a0 a1 k
  obtain ⟨ih0, ih1, ih2⟩ := hogsheadlaw2_TreeFilters.mono_l k
  unfold hogsheadlaw2_TreeFilters.f
  repeat' first
      | (with_reducible exact ih0 _ _ _ _ _ _ _ _ _ _)
      | (with_reducible exact ih1 _ _ _ _ _ _ _ _ _ _)
      | (with_reducible exact ih2 _ _ _ _ _ _ _)
      | (with_reducible exact hogsheadlaw0_GreatNodes.mono _ _ _)
      | (with_reducible exact hogsheadlaw0_OverNodes.mono _ _)
      | (with_reducible exact hogsheadlaw0_SameNodes.mono _ _ _)
      | (with_reducible exact tree_FilterPlain.mono _ _)
      | (with_reducible exact tree_FilterNil.mono _ _)
      | (with_reducible exact tree_FilterIs.mono _ _ _ _)
      | (with_reducible exact hogsheadlaw2_awake.mono _)
      | (with_reducible exact LeO.refl _)
      | (with_reducible exact LeO.none _)
      | (with_reducible refine LeO.ite ?_ ?_)
      | (with_reducible refine LeO.bind ?_ (fun _ => ?_))
      | exact ih0 _ _ _ _ _ _ _ _ _ _
      | exact ih1 _ _ _ _ _ _ _ _ _ _
      | exact ih2 _ _ _ _ _ _ _
      | exact hogsheadlaw0_GreatNodes.mono _ _ _
      | exact hogsheadlaw0_OverNodes.mono _ _
      | exact hogsheadlaw0_SameNodes.mono _ _ _
      | exact tree_FilterPlain.mono _ _
      | exact tree_FilterNil.mono _ _
      | exact tree_FilterIs.mono _ _ _ _
      | exact hogsheadlaw2_awake.mono _
      | exact LeO.none _
      | refine LeO.ite ?_ ?_
      | refine LeO.bind ?_ (fun _ => ?_)
set_option maxHeartbeats 8000000 in
set_option maxRecDepth 100000 in
theorem hogsheadlaw2_TreeFilters.calls (k : Nat) (A0 : Option Addr) (c0 : Nat) (l0 : List (S24)) (a1 : Int) (r : Bool) (w : World) (hr0 : Kd.C k24 w A0 l0.length l0) (hc0 : l0.length ≤ c0) (h : hogsheadlaw2_TreeFilters.f k l0 a1 = some true) :
    Calls Tryd.prog 4 #[.slice A0 l0.length c0, .int .i64 a1] w fun e w' => e = .returned (.bool true) ∧ Below w.heap.size w w' := by
  have hu24 := Tryd.underlying24
  have HR0 := Aside0.mk hr0
  have HC0 := Aside0.mk hc0
  clear hr0 hc0
  have HB := Aside0.mk (Below.refl w.heap.size w)
  have H : ((hogsheadlaw0_GreatNodes.f k l0 60).bind fun t152 => (if t152 = true then ((hogsheadlaw2_awake.f k).bind fun t153 => (some t153)) else ((hogsheadlaw0_Low.f a1 4).bind fun t154 => ((main_main.f (wrap64 (1 + t154))).bind fun bt155 => ((tree_FilterIs.f k l0 bt155.1 bt155.2).bind fun bt158 => ((tree_FilterPlain.f k l0).bind fun t163 => ((tree_FilterNil.f k l0).bind fun t166 => (hogsheadlaw2_TreeFilters.l0 k l0 (wrap64 (1 + t154)) bt158.1 t163 t166 ([] : List (S24)) ([] : List (S24)) 0 bt158.2.1 bt158.2.2)))))))) = some true := h
  clear h
  replace H := Option.bind_eq_some_iff.mp H
  obtain ⟨t152, A30, H⟩ := H
  replace H : (if t152 = true then ((hogsheadlaw2_awake.f k).bind fun t153 => (some t153)) else ((hogsheadlaw0_Low.f a1 4).bind fun t154 => ((main_main.f (wrap64 (1 + t154))).bind fun bt155 => ((tree_FilterIs.f k l0 bt155.1 bt155.2).bind fun bt158 => ((tree_FilterPlain.f k l0).bind fun t163 => ((tree_FilterNil.f k l0).bind fun t166 => (hogsheadlaw2_TreeFilters.l0 k l0 (wrap64 (1 + t154)) bt158.1 t163 t166 ([] : List (S24)) ([] : List (S24)) 0 bt158.2.1 bt158.2.2))))))) = some true := H
  have A3 := Aside0.mk A30
  clear A30
  by_cases c4 : t152 = true
  · subst c4
    have H1 : ((hogsheadlaw2_awake.f k).bind fun t153 => (some t153)) = some true := by rw [if_pos rfl] at H; exact H
    clear H
    have H := H1
    clear H1
    replace H := Option.bind_eq_some_iff.mp H
    obtain ⟨t153, A50, H⟩ := H
    replace H : (some t153) = some true := H
    have A5 := Aside0.mk A50
    clear A50
    obtain rfl := Option.some.inj H
    go_enter Tryd.func4, Tryd.ntmps4
    go_wp2_with (first | ((with_reducible refine gate_callee (f := 10) rfl ?_); refine goesL_ (some 14) rfl rfl Tryd.func10 (by kernel_rfl) rfl #[.slice A0 l0.length c0, .int .i64 60] rfl (by (try simp only [List.map_toArray, List.map_cons, List.map_nil]); first | done | rfl | (simp only [List.length_drop, List.length_take]; rfl)) ?_; (with_reducible refine (hogsheadlaw0_GreatNodes.calls k _ _ l0 60 true _ ?side1 ?side2 A3.out).mono ?_); (case side1 => repeat (first | exact HR0.out | (with_reducible refine Kd.C_alloc ?_ _) | (with_reducible refine Kd.C_drewN ?_ _) | (with_reducible refine Kd.C_drew ?_))); (case side2 => exact HC0.out); rintro e w' ⟨rfl, ⟨nd, rfl⟩⟩; refine ⟨_, rfl, ?_⟩) | ((with_reducible refine gate_callee (f := 9) rfl ?_); refine goesL_ (some 15) rfl rfl Tryd.func9 (by kernel_rfl) rfl #[] rfl (by (try simp only [List.map_toArray, List.map_cons, List.map_nil]); first | done | rfl | (simp only [List.length_drop, List.length_take]; rfl)) ?_; (with_reducible refine (hogsheadlaw2_awake.calls k  true _ A5.out).mono ?_); rintro e w6 ⟨rfl, hb⟩; refine ⟨_, rfl, ?_⟩; have n0_ := Aside0.mk (below_step (by repeat (first | (with_reducible first | exact HB.out | apply below_alloc | apply pw_below_drewN | apply below_drew1) | exact HB.out)) hb); clear HB; have HB := n0_; clear n0_; (try clear hb); (try clear hb2); (try clear hk); (try clear hi)))
    go_ret
    exact ⟨by first | rfl | (simp [errW_none, errW_some] <;> rfl) | (simp [*, errW_none, errW_some] <;> rfl), by repeat (first | (with_reducible first | exact HB.out | apply below_alloc | apply pw_below_drewN | apply below_drew1) | exact HB.out)⟩
  · replace c4 := Bool.eq_false_iff.mpr c4
    subst c4
    have H1 : ((hogsheadlaw0_Low.f a1 4).bind fun t154 => ((main_main.f (wrap64 (1 + t154))).bind fun bt155 => ((tree_FilterIs.f k l0 bt155.1 bt155.2).bind fun bt158 => ((tree_FilterPlain.f k l0).bind fun t163 => ((tree_FilterNil.f k l0).bind fun t166 => (hogsheadlaw2_TreeFilters.l0 k l0 (wrap64 (1 + t154)) bt158.1 t163 t166 ([] : List (S24)) ([] : List (S24)) 0 bt158.2.1 bt158.2.2)))))) = some true := by rw [if_neg (show ¬ (false = true) by decide)] at H; exact H
    clear H
    have H := H1
    clear H1
    replace H := Option.bind_eq_some_iff.mp H
    obtain ⟨t154, A70, H⟩ := H
    replace H : ((main_main.f (wrap64 (1 + t154))).bind fun bt155 => ((tree_FilterIs.f k l0 bt155.1 bt155.2).bind fun bt158 => ((tree_FilterPlain.f k l0).bind fun t163 => ((tree_FilterNil.f k l0).bind fun t166 => (hogsheadlaw2_TreeFilters.l0 k l0 (wrap64 (1 + t154)) bt158.1 t163 t166 ([] : List (S24)) ([] : List (S24)) 0 bt158.2.1 bt158.2.2))))) = some true := H
    have A7 := Aside0.mk A70
    clear A70
    replace H := Option.bind_eq_some_iff.mp H
    obtain ⟨⟨t155, t156⟩, A80, H⟩ := H
    replace H : ((tree_FilterIs.f k l0 t155 t156).bind fun bt158 => ((tree_FilterPlain.f k l0).bind fun t163 => ((tree_FilterNil.f k l0).bind fun t166 => (hogsheadlaw2_TreeFilters.l0 k l0 (wrap64 (1 + t154)) bt158.1 t163 t166 ([] : List (S24)) ([] : List (S24)) 0 bt158.2.1 bt158.2.2)))) = some true := H
    have A8 := Aside0.mk A80
    clear A80
    replace H := Option.bind_eq_some_iff.mp H
    obtain ⟨⟨t158, t161, t162⟩, A90, H⟩ := H
    replace H : ((tree_FilterPlain.f k l0).bind fun t163 => ((tree_FilterNil.f k l0).bind fun t166 => (hogsheadlaw2_TreeFilters.l0 k l0 (wrap64 (1 + t154)) t158 t163 t166 ([] : List (S24)) ([] : List (S24)) 0 t161 t162))) = some true := H
    have A9 := Aside0.mk A90
    clear A90
    replace H := Option.bind_eq_some_iff.mp H
    obtain ⟨t163, A100, H⟩ := H
    replace H : ((tree_FilterNil.f k l0).bind fun t166 => (hogsheadlaw2_TreeFilters.l0 k l0 (wrap64 (1 + t154)) t158 t163 t166 ([] : List (S24)) ([] : List (S24)) 0 t161 t162)) = some true := H
    have A10 := Aside0.mk A100
    clear A100
    replace H := Option.bind_eq_some_iff.mp H
    obtain ⟨t166, A110, H⟩ := H
    replace H : (hogsheadlaw2_TreeFilters.l0 k l0 (wrap64 (1 + t154)) t158 t163 t166 ([] : List (S24)) ([] : List (S24)) 0 t161 t162) = some true := H
    have A11 := Aside0.mk A110
    clear A110
    have H' := Aside0.mk H
    clear H
    go_enter Tryd.func4, Tryd.ntmps4
    go_wp2_with (first | ((with_reducible refine gate_callee (f := 10) rfl ?_); refine goesL_ (some 14) rfl rfl Tryd.func10 (by kernel_rfl) rfl #[.slice A0 l0.length c0, .int .i64 60] rfl (by (try simp only [List.map_toArray, List.map_cons, List.map_nil]); first | done | rfl | (simp only [List.length_drop, List.length_take]; rfl)) ?_; (with_reducible refine (hogsheadlaw0_GreatNodes.calls k _ _ l0 60 false _ ?side1 ?side2 A3.out).mono ?_); (case side1 => repeat (first | exact HR0.out | (with_reducible refine Kd.C_alloc ?_ _) | (with_reducible refine Kd.C_drewN ?_ _) | (with_reducible refine Kd.C_drew ?_))); (case side2 => exact HC0.out); rintro e w' ⟨rfl, ⟨nd, rfl⟩⟩; refine ⟨_, rfl, ?_⟩) | ((with_reducible refine gate_callee (f := 7) rfl ?_); refine goesL_ (some 17) rfl rfl Tryd.func7 (by kernel_rfl) rfl #[.int .i64 a1, .int .i64 4] rfl (by (try simp only [List.map_toArray, List.map_cons, List.map_nil]); first | done | rfl | (simp only [List.length_drop, List.length_take]; rfl)) ?_; (with_reducible refine (hogsheadlaw0_Low.calls a1 4 t154 _ A7.out).mono ?_); rintro e w' ⟨rfl, ⟨nd, rfl⟩⟩; refine ⟨_, rfl, ?_⟩) | ((with_reducible refine gate_dst (N := 21) rfl ?_); (try (refine gate_guard (by rfl) ?_; dsimp only)); refine box_event ?hg (N := 21) ?hd (cs := #[.int .i64 (wrap64 (1 + t154)), .int .i64 0]) (t := 32) ?hr ?_; (case hd => rfl); (case hg => rfl); (case hr => first | (go_simp; done) | (go_simp; rfl)); intro g157 hg w12 hbox hb; have q_ := main_main.eq A8.out; have n1_ := Aside0.mk (show IsS32 w w12 g157 t155 t156 from by obtain ⟨h1_, h2_⟩ := q_; rw [← h1_, ← h2_]; exact ⟨hbox, (by rw [hg]; exact below_size (by repeat (first | (with_reducible first | exact HB.out | apply below_alloc | apply pw_below_drewN | apply below_drew1) | exact HB.out)))⟩); have n0_ := Aside0.mk (below_step (by repeat (first | (with_reducible first | exact HB.out | apply below_alloc | apply pw_below_drewN | apply below_drew1) | exact HB.out)) hb); clear HB; have HB := n0_; have HI157 := n1_; clear n0_ n1_ q_ hb hbox hg) | ((with_reducible refine gate_callee (f := 11) rfl ?_); refine goesL_ (some 25) rfl rfl Tryd.func11 (by kernel_rfl) rfl #[.slice A0 l0.length c0, .func (.func 12) #[.pointer (some ⟨g157, 0, none⟩)] #[]] rfl (by (try simp only [List.map_toArray, List.map_cons, List.map_nil]); first | done | rfl | (simp only [List.length_drop, List.length_take]; rfl)) ?_; (with_reducible refine (tree_FilterIs.calls k _ _ l0 g157 t155 t156 t158 t161 t162 w _ ?side1 ?side2 ?side3 ?side4 A9.out).mono ?_); (case side1 => repeat (first | (with_reducible first | exact HI157.out | apply IsS32.alloc | apply IsS32.drewN | apply IsS32.drew | apply IsS32.set_0 | apply IsS32.set_1) | exact HI157.out)); (case side2 => repeat (first | (with_reducible first | exact HB.out | apply below_alloc | apply pw_below_drewN | apply below_drew1 | refine below_set ?_ (IsS32.ge HI157.out)) | exact HB.out)); (case side3 => exact Kd.C_foot_came k24_heap HR0.out (by repeat (first | (with_reducible first | exact HB.out | apply below_alloc | apply pw_below_drewN | apply below_drew1 | refine below_set ?_ (IsS32.ge HI157.out)) | exact HB.out)) (IsS32.ge HI157.out)); (case side4 => exact HC0.out); rintro e w13 ⟨v159, rfl, ho0, hi, hb, hk⟩; refine ⟨_, rfl, ?_⟩; have n0_ := Aside0.mk (Kd.R_lower ho0 (below_size (by repeat (first | (with_reducible first | exact HB.out | apply below_alloc | apply pw_below_drewN | apply below_drew1 | refine below_set ?_ (IsS32.ge HI157.out)) | exact HB.out)))); have n1_ := Aside0.mk (hb); have n2_ := Aside0.mk (hi); clear HB; clear HI157; have HO160 := n0_; have HB := n1_; have HI157 := n2_; clear n0_ n1_ n2_; (try clear hb); (try clear hb2); (try clear hk); (try clear hi); (try clear ho0)) | ((with_reducible refine gate_callee (f := 11) rfl ?_); refine goesL_ (some 27) rfl rfl Tryd.func11 (by kernel_rfl) rfl #[.slice A0 l0.length c0, .func (.func 13) #[] #[]] rfl (by (try simp only [List.map_toArray, List.map_cons, List.map_nil]); first | done | rfl | (simp only [List.length_drop, List.length_take]; rfl)) ?_; (with_reducible refine (tree_FilterPlain.calls k _ _ l0 t163 _ ?side1 ?side2 A10.out).mono ?_); (case side1 => repeat (first | exact (Kd.C_below HR0.out HB.out) | (with_reducible refine Kd.C_alloc ?_ _) | (with_reducible refine Kd.C_drewN ?_ _) | (with_reducible refine Kd.C_drew ?_))); (case side2 => exact HC0.out); rintro e w14 ⟨v164, rfl, ho0, hb⟩; refine ⟨_, rfl, ?_⟩; have n0_ := Aside0.mk (Kd.R_elder' (by (with_reducible repeat (first | apply Kd.R_alloc | apply Kd.R_drewN | apply Kd.R_drew)); exact HO160.out) (Kd.R_base ho0) hb); have n1_ := Aside0.mk (Kd.R_lower (Kd.R_new' ho0 (Kd.R_lt (by (with_reducible repeat (first | apply Kd.R_alloc | apply Kd.R_drewN | apply Kd.R_drew)); exact HO160.out))) (below_size (by repeat (first | (with_reducible first | exact HB.out | apply below_alloc | apply pw_below_drewN | apply below_drew1 | refine below_set ?_ (IsS32.ge HI157.out)) | exact HB.out)))); have n2_ := Aside0.mk (IsS32.below (by repeat (first | (with_reducible first | exact HI157.out | apply IsS32.alloc | apply IsS32.drewN | apply IsS32.drew | apply IsS32.set_0 | apply IsS32.set_1) | exact HI157.out)) hb); have n3_ := Aside0.mk (below_step (by repeat (first | (with_reducible first | exact HB.out | apply below_alloc | apply pw_below_drewN | apply below_drew1 | refine below_set ?_ (IsS32.ge HI157.out)) | exact HB.out)) hb); clear HO160; clear HI157; clear HB; have HO160 := n0_; have HO165 := n1_; have HI157 := n2_; have HB := n3_; clear n0_ n1_ n2_ n3_; (try clear hb); (try clear hb2); (try clear hk); (try clear hi); (try clear ho0)) | ((with_reducible refine gate_callee (f := 11) rfl ?_); refine goesL_ (some 29) rfl rfl Tryd.func11 (by kernel_rfl) rfl #[.slice A0 l0.length c0, .nilFunc] rfl (by (try simp only [List.map_toArray, List.map_cons, List.map_nil]); first | done | rfl | (simp only [List.length_drop, List.length_take]; rfl)) ?_; (with_reducible refine (tree_FilterNil.calls k _ _ l0 t166 _ ?side1 ?side2 A11.out).mono ?_); (case side1 => repeat (first | exact (Kd.C_below HR0.out HB.out) | (with_reducible refine Kd.C_alloc ?_ _) | (with_reducible refine Kd.C_drewN ?_ _) | (with_reducible refine Kd.C_drew ?_))); (case side2 => exact HC0.out); rintro e w15 ⟨v167, rfl, ho0, hb⟩; refine ⟨_, rfl, ?_⟩; have n0_ := Aside0.mk (Kd.R_elder' (by (with_reducible repeat (first | apply Kd.R_alloc | apply Kd.R_drewN | apply Kd.R_drew)); exact HO160.out) (Kd.R_base ho0) hb); have n1_ := Aside0.mk (Kd.R_elder' (by (with_reducible repeat (first | apply Kd.R_alloc | apply Kd.R_drewN | apply Kd.R_drew)); exact HO165.out) (Kd.R_base ho0) hb); have n2_ := Aside0.mk (Kd.R_lower (Kd.R_new' (Kd.R_new' ho0 (Kd.R_lt (by (with_reducible repeat (first | apply Kd.R_alloc | apply Kd.R_drewN | apply Kd.R_drew)); exact HO160.out))) (Kd.R_lt (by (with_reducible repeat (first | apply Kd.R_alloc | apply Kd.R_drewN | apply Kd.R_drew)); exact HO165.out))) (below_size (by repeat (first | (with_reducible first | exact HB.out | apply below_alloc | apply pw_below_drewN | apply below_drew1 | refine below_set ?_ (IsS32.ge HI157.out)) | exact HB.out)))); have n3_ := Aside0.mk (IsS32.below (by repeat (first | (with_reducible first | exact HI157.out | apply IsS32.alloc | apply IsS32.drewN | apply IsS32.drew | apply IsS32.set_0 | apply IsS32.set_1) | exact HI157.out)) hb); have n4_ := Aside0.mk (below_step (by repeat (first | (with_reducible first | exact HB.out | apply below_alloc | apply pw_below_drewN | apply below_drew1 | refine below_set ?_ (IsS32.ge HI157.out)) | exact HB.out)) hb); clear HO160; clear HO165; clear HI157; clear HB; have HO160 := n0_; have HO165 := n1_; have HO168 := n2_; have HI157 := n3_; have HB := n4_; clear n0_ n1_ n2_ n3_ n4_; (try clear hb); (try clear hb2); (try clear hk); (try clear hi); (try clear ho0)))
    go_loopg [9, 10, 11] k (fun kq v9 v10 v11 w' => ∃ (x9_1 : List (S24)) (x10_1 : List (S24)) (x11_1 : Int), v11 = .int .i64 x11_1 ∧ Aside0 (hogsheadlaw2_TreeFilters.l0 kq l0 (wrap64 (1 + t154)) t158 t163 t166 x9_1 x10_1 x11_1 t161 t162 = some true) ∧ Aside0 (kq ≤ k) ∧ Aside0 (Kd.R k24 24 w' w.heap.size (fun k_ => some k_ ≠ (v164 : Value).ownBlock ∧ some k_ ≠ (v167 : Value).ownBlock ∧ some k_ ≠ (v9 : Value).ownBlock ∧ some k_ ≠ (v10 : Value).ownBlock) v159 t158) ∧ Aside0 (Kd.R k24 24 w' w.heap.size (fun k_ => some k_ ≠ (v159 : Value).ownBlock ∧ some k_ ≠ (v167 : Value).ownBlock ∧ some k_ ≠ (v9 : Value).ownBlock ∧ some k_ ≠ (v10 : Value).ownBlock) v164 t163) ∧ Aside0 (Kd.R k24 24 w' w.heap.size (fun k_ => some k_ ≠ (v159 : Value).ownBlock ∧ some k_ ≠ (v164 : Value).ownBlock ∧ some k_ ≠ (v9 : Value).ownBlock ∧ some k_ ≠ (v10 : Value).ownBlock) v167 t166) ∧ Aside0 (Kd.R k24 24 w' w.heap.size (fun k_ => some k_ ≠ (v159 : Value).ownBlock ∧ some k_ ≠ (v164 : Value).ownBlock ∧ some k_ ≠ (v167 : Value).ownBlock ∧ some k_ ≠ (v10 : Value).ownBlock) v9 x9_1) ∧ Aside0 (Kd.R k24 24 w' w.heap.size (fun k_ => some k_ ≠ (v159 : Value).ownBlock ∧ some k_ ≠ (v164 : Value).ownBlock ∧ some k_ ≠ (v167 : Value).ownBlock ∧ some k_ ≠ (v9 : Value).ownBlock) v10 x10_1) ∧ Aside0 (IsS32 w w' g157 t161 t162) ∧ Aside0 (Below w.heap.size w w'))
    case atStart => exact ⟨(([] : List (S24))), (([] : List (S24))), (0), (by first | rfl | (simp; done) | (simp [*]; done)), H', ⟨Nat.le_refl _⟩, ⟨by (with_reducible repeat (first | apply Kd.R_alloc | apply Kd.R_drewN | apply Kd.R_drew)); exact Kd.R_mono HO160.out (fun _ hk => ⟨hk.1.2, ⟨hk.2, ⟨(by simp [Value.ownBlock]), (by simp [Value.ownBlock])⟩⟩⟩)⟩, ⟨by (with_reducible repeat (first | apply Kd.R_alloc | apply Kd.R_drewN | apply Kd.R_drew)); exact Kd.R_mono HO165.out (fun _ hk => ⟨hk.1.2, ⟨hk.2, ⟨(by simp [Value.ownBlock]), (by simp [Value.ownBlock])⟩⟩⟩)⟩, ⟨by (with_reducible repeat (first | apply Kd.R_alloc | apply Kd.R_drewN | apply Kd.R_drew)); exact Kd.R_mono HO168.out (fun _ hk => ⟨hk.1.2, ⟨hk.2, ⟨(by simp [Value.ownBlock]), (by simp [Value.ownBlock])⟩⟩⟩)⟩, ⟨by first | exact Kd.R_nil _ _ _ _ _ | exact Kd.N_nil _ _ _ _ _ | exact Kd.V_nil _ _ _ _ _ | exact Kd.Q_nil _ _ _ _ _ | exact Kd.S_nil _ _ _ _ _⟩, ⟨by first | exact Kd.R_nil _ _ _ _ _ | exact Kd.N_nil _ _ _ _ _ | exact Kd.V_nil _ _ _ _ _ | exact Kd.Q_nil _ _ _ _ _ | exact Kd.S_nil _ _ _ _ _⟩, ⟨by repeat (first | (with_reducible first | exact HI157.out | apply IsS32.alloc | apply IsS32.drewN | apply IsS32.drew | apply IsS32.set_0 | apply IsS32.set_1) | exact HI157.out)⟩, ⟨by repeat (first | (with_reducible first | exact HB.out | apply below_alloc | apply pw_below_drewN | apply below_drew1 | refine below_set ?_ (IsS32.ge HI157.out)) | exact HB.out)⟩⟩
    case round =>
      clear H'
      try clear c1
      try clear p2
      try clear c3
      try clear c4
      try clear c5
      try clear c6
      try clear p6
      try clear c7
      try clear c9
      try clear c10
      obtain ⟨x9_1, x10_1, x11_1, rfl, HA, HK1, HO_6, HO_7, HO_8, HO_9, HO_10, HI157, HB⟩ := hrel
      cases gk with
      | zero => exact absurd HA.out (by simp [hogsheadlaw2_TreeFilters.l0])
      | succ k1 =>
        have H := HA.out
        clear HA
        simp only [hogsheadlaw2_TreeFilters.l0] at H
        by_cases c16 : x11_1 < (l0.length : Int)
        · rw [if_pos c16] at H
          have c16b0 : decide (x11_1 < (l0.length : Int)) = true := decide_eq_true c16
          clear c16
          by_cases c17 : 0 ≤ x11_1
          · rw [if_pos c17] at H
            have c17b0 : decide (0 ≤ x11_1) = true := decide_eq_true c17
            clear c17
            have HC18 := Aside0.mk H
            clear H
            have p169 : 0 ≤ (x11_1 : Int) := of_decide_eq_true (by first | (with_reducible assumption) | assumption)
            have q169 : x11_1 < (l0.length : Int) := of_decide_eq_true (by first | (with_reducible assumption) | assumption)
            obtain ⟨ad169, e169, hx169_0, hx169_1, hx169_2⟩ := at_T24 HR0.out x11_1 p169 q169
            cases e169
            replace hx169_0 := (HB.out.cell (World.block_lt_of_cell? w _ hx169_0)).trans hx169_0
            replace hx169_1 := (HB.out.cell (World.block_lt_of_cell? w _ hx169_1)).trans hx169_1
            replace hx169_2 := (HB.out.cell (World.block_lt_of_cell? w _ hx169_2)).trans hx169_2
            replace p169 := eq_true p169
            replace q169 := eq_true q169
            go_upto_if 42 with (fail)
            go_cut [9] (fun v9 wc => ∃ (kq : Nat) (x9_17 : List (S24)), Aside0 (hogsheadlaw2_TreeFilters.j1 kq l0 (wrap64 (1 + t154)) t158 t163 t166 x9_17 x10_1 x11_1 t161 t162 = some true) ∧ Aside0 (kq ≤ k1) ∧ Aside0 (Kd.R k24 24 wc w.heap.size (fun k_ => some k_ ≠ (v164 : Value).ownBlock ∧ some k_ ≠ (v167 : Value).ownBlock ∧ some k_ ≠ (v9 : Value).ownBlock ∧ some k_ ≠ (u10 : Value).ownBlock) v159 t158) ∧ Aside0 (Kd.R k24 24 wc w.heap.size (fun k_ => some k_ ≠ (v159 : Value).ownBlock ∧ some k_ ≠ (v167 : Value).ownBlock ∧ some k_ ≠ (v9 : Value).ownBlock ∧ some k_ ≠ (u10 : Value).ownBlock) v164 t163) ∧ Aside0 (Kd.R k24 24 wc w.heap.size (fun k_ => some k_ ≠ (v159 : Value).ownBlock ∧ some k_ ≠ (v164 : Value).ownBlock ∧ some k_ ≠ (v9 : Value).ownBlock ∧ some k_ ≠ (u10 : Value).ownBlock) v167 t166) ∧ Aside0 (Kd.R k24 24 wc w.heap.size (fun k_ => some k_ ≠ (v159 : Value).ownBlock ∧ some k_ ≠ (v164 : Value).ownBlock ∧ some k_ ≠ (v167 : Value).ownBlock ∧ some k_ ≠ (u10 : Value).ownBlock) v9 x9_17) ∧ Aside0 (Kd.R k24 24 wc w.heap.size (fun k_ => some k_ ≠ (v159 : Value).ownBlock ∧ some k_ ≠ (v164 : Value).ownBlock ∧ some k_ ≠ (v167 : Value).ownBlock ∧ some k_ ≠ (v9 : Value).ownBlock) u10 x10_1) ∧ Aside0 (IsS32 w wc g157 t161 t162) ∧ Aside0 (Below w.heap.size w wc))
            case first =>
              have H := HC18.out
              clear HC18
              by_cases c19 : ((rd_T24 l0 x11_1).f1) = (wrap64 (1 + t154))
              · rw [if_pos c19] at H
                have c19b0 : (((rd_T24 l0 x11_1).f1) == (wrap64 (1 + t154))) = true := beq_iff_eq.mpr c19
                have c19b1 : (((rd_T24 l0 x11_1).f1) != (wrap64 (1 + t154))) = false := bne_eq_false_iff_eq.mpr c19
                clear c19
                (first | rw [c19b0] | (simp only [i64_w, i32_w]; rw [c19b0]) | skip)
                by_cases c20 : x9_1.length < 3518437208883
                · rw [if_pos c20] at H
                  have LMc20 := Aside0.mk c20
                  clear c20
                  obtain ⟨y171, hy171⟩ : ∃ y_ : List (S24), y_ = (x9_1 ++ [(⟨(rd_T24 l0 x11_1).f0, (rd_T24 l0 x11_1).f1, (rd_T24 l0 x11_1).f2⟩ : S24)]) := ⟨_, rfl⟩
                  replace H : (hogsheadlaw2_TreeFilters.j1 k1 l0 (wrap64 (1 + t154)) t158 t163 t166 y171 x10_1 x11_1 t161 t162) = some true := by first | (rw [hy171]; with_reducible exact H) | (have H2_ := (Option.bind_some _ _).symm.trans H; rw [hy171]; with_reducible exact H2_) | (have H2_ := (Option.bind_some _ _).symm.trans H; with_reducible exact H2_) | with_reducible exact H | (rw [hy171]; exact H) | exact H
                  have Ny171 := Aside0.mk hy171
                  clear hy171
                  have H' := Aside0.mk H
                  clear H
                  have p170 : 0 ≤ (x11_1 : Int) := of_decide_eq_true (by first | (with_reducible assumption) | assumption)
                  have q170 : x11_1 < (l0.length : Int) := of_decide_eq_true (by first | (with_reducible assumption) | assumption)
                  obtain ⟨ad170, e170, hx170_0, hx170_1, hx170_2⟩ := at_T24 HR0.out x11_1 p170 q170
                  obtain rfl : ad169 = ad170 := (by injection e170)
                  replace hx170_0 := (HB.out.cell (World.block_lt_of_cell? w _ hx170_0)).trans hx170_0
                  replace hx170_1 := (HB.out.cell (World.block_lt_of_cell? w _ hx170_1)).trans hx170_1
                  replace hx170_2 := (HB.out.cell (World.block_lt_of_cell? w _ hx170_2)).trans hx170_2
                  replace p170 := eq_true p170
                  replace q170 := eq_true q170
                  go_wp2_with (first | ((with_reducible refine gate_builtin (b := .append) (xs := #[.tmp 43, .tmp 48]) rfl ?_); (try (refine gate_guard (by rfl) ?_; dsimp only)); at_builtin; refine Kd.R_append k24 (w0 := w) w.heap.size rfl (.tmp 43) (.tmp 48) 25 24 (.agg #[(.string ⟨#[]⟩), (.int .i64 0), (.string ⟨#[]⟩)]) 40 rfl Tryd.underlying25 info24 rfl (by decide) (by omega) u9 x9_1 (⟨(rd_T24 l0 x11_1).f0, (rd_T24 l0 x11_1).f1, (rd_T24 l0 x11_1).f2⟩ : S24) [.string ((rd_T24 l0 x11_1).f0), .int .i64 ((rd_T24 l0 x11_1).f1), .string ((rd_T24 l0 x11_1).f2)] (fun k_ => some k_ ≠ (v159 : Value).ownBlock ∧ some k_ ≠ (v164 : Value).ownBlock ∧ some k_ ≠ (v167 : Value).ownBlock ∧ some k_ ≠ (u10 : Value).ownBlock) (fun _ => False) rfl rfl ?aP (fun _ hk => hk.elim) ?aF ?aO ?aB ?aS ?aL ?_; (case aP => exact k24_mkM _ _ _ (⟨(rd_T24 l0 x11_1).f0, (rd_T24 l0 x11_1).f1, (rd_T24 l0 x11_1).f2⟩ : S24)); (case aB => exact (by repeat (first | (with_reducible first | exact HB.out | apply below_alloc | apply pw_below_drewN | apply below_drew1 | refine below_set ?_ (IsS32.ge HI157.out)) | exact HB.out))); (case aF => exact (fun k_ hk => ⟨Kd.fresh' (Kd.R_lt (by (with_reducible repeat (first | apply Kd.R_alloc | apply Kd.R_drewN | apply Kd.R_drew)); exact HO_6.out)) k_ hk, Kd.fresh' (Kd.R_lt (by (with_reducible repeat (first | apply Kd.R_alloc | apply Kd.R_drewN | apply Kd.R_drew)); exact HO_7.out)) k_ hk, Kd.fresh' (Kd.R_lt (by (with_reducible repeat (first | apply Kd.R_alloc | apply Kd.R_drewN | apply Kd.R_drew)); exact HO_8.out)) k_ hk, Kd.fresh' (Kd.R_lt (by (with_reducible repeat (first | apply Kd.R_alloc | apply Kd.R_drewN | apply Kd.R_drew)); exact HO_10.out)) k_ hk⟩)); (case aO => exact (by (with_reducible repeat (first | apply Kd.R_alloc | apply Kd.R_drewN | apply Kd.R_drew)); exact HO_9.out)); (case aS => exact (below_size (by repeat (first | (with_reducible first | exact HB.out | apply below_alloc | apply pw_below_drewN | apply below_drew1 | refine below_set ?_ (IsS32.ge HI157.out)) | exact HB.out)))); (case aL => have := LMc20.out; omega); intro v172 w21 ho hb hg hat; rw [← Ny171.out] at ho; have n0_ := Aside0.mk (Kd.R_after (ok := (fun k_ => some k_ ≠ (v164 : Value).ownBlock ∧ some k_ ≠ (v167 : Value).ownBlock ∧ some k_ ≠ (u10 : Value).ownBlock)) (by (with_reducible repeat (first | apply Kd.R_alloc | apply Kd.R_drewN | apply Kd.R_drew)); exact Kd.R_mono HO_6.out (fun _ hk => ⟨⟨hk.1, ⟨hk.2.1, hk.2.2.2⟩⟩, hk.2.2.1⟩)) hg hat); have n1_ := Aside0.mk (Kd.R_after (ok := (fun k_ => some k_ ≠ (v159 : Value).ownBlock ∧ some k_ ≠ (v167 : Value).ownBlock ∧ some k_ ≠ (u10 : Value).ownBlock)) (by (with_reducible repeat (first | apply Kd.R_alloc | apply Kd.R_drewN | apply Kd.R_drew)); exact Kd.R_mono HO_7.out (fun _ hk => ⟨⟨hk.1, ⟨hk.2.1, hk.2.2.2⟩⟩, hk.2.2.1⟩)) hg hat); have n2_ := Aside0.mk (Kd.R_after (ok := (fun k_ => some k_ ≠ (v159 : Value).ownBlock ∧ some k_ ≠ (v164 : Value).ownBlock ∧ some k_ ≠ (u10 : Value).ownBlock)) (by (with_reducible repeat (first | apply Kd.R_alloc | apply Kd.R_drewN | apply Kd.R_drew)); exact Kd.R_mono HO_8.out (fun _ hk => ⟨⟨hk.1, ⟨hk.2.1, hk.2.2.2⟩⟩, hk.2.2.1⟩)) hg hat); have n3_ := Aside0.mk (Kd.R_after (ok := (fun k_ => some k_ ≠ (v159 : Value).ownBlock ∧ some k_ ≠ (v164 : Value).ownBlock ∧ some k_ ≠ (v167 : Value).ownBlock)) (by (with_reducible repeat (first | apply Kd.R_alloc | apply Kd.R_drewN | apply Kd.R_drew)); exact Kd.R_mono HO_10.out (fun _ hk => ⟨⟨hk.1, ⟨hk.2.1, hk.2.2.1⟩⟩, hk.2.2.2⟩)) hg hat); have n4_ := Aside0.mk (IsS32.grown (by repeat (first | (with_reducible first | exact HI157.out | apply IsS32.alloc | apply IsS32.drewN | apply IsS32.drew | apply IsS32.set_0 | apply IsS32.set_1) | exact HI157.out)) hg (IsS32.own_ne HI157.out HO_9.out (by decide))); have n5_ := Aside0.mk (hb); have n6_ := Aside0.mk (ho); clear HO_6; clear HO_7; clear HO_8; clear HO_10; clear HI157; clear HB; clear HO_9; have HO_6 := n0_; have HO_7 := n1_; have HO_8 := n2_; have HO_10 := n3_; have HI157 := n4_; have HB := n5_; have HO173 := n6_; clear n0_ n1_ n2_ n3_ n4_ n5_ n6_; clear ho hb hg hat))
                  go_meet
                  case rel => exact ⟨_, (y171), H', ⟨by have := HK1.out; first | omega | exact Nat.le_refl _⟩, ⟨by (with_reducible repeat (first | apply Kd.R_alloc | apply Kd.R_drewN | apply Kd.R_drew)); exact Kd.R_mono HO_6.out (fun _ hk => ⟨hk.1.1, ⟨hk.1.2.1, ⟨hk.2, hk.1.2.2⟩⟩⟩)⟩, ⟨by (with_reducible repeat (first | apply Kd.R_alloc | apply Kd.R_drewN | apply Kd.R_drew)); exact Kd.R_mono HO_7.out (fun _ hk => ⟨hk.1.1, ⟨hk.1.2.1, ⟨hk.2, hk.1.2.2⟩⟩⟩)⟩, ⟨by (with_reducible repeat (first | apply Kd.R_alloc | apply Kd.R_drewN | apply Kd.R_drew)); exact Kd.R_mono HO_8.out (fun _ hk => ⟨hk.1.1, ⟨hk.1.2.1, ⟨hk.2, hk.1.2.2⟩⟩⟩)⟩, ⟨by (with_reducible repeat (first | apply Kd.R_alloc | apply Kd.R_drewN | apply Kd.R_drew)); exact HO173.out⟩, ⟨by (with_reducible repeat (first | apply Kd.R_alloc | apply Kd.R_drewN | apply Kd.R_drew)); exact Kd.R_mono HO_10.out (fun _ hk => ⟨hk.1.1, ⟨hk.1.2.1, ⟨hk.1.2.2, hk.2⟩⟩⟩)⟩, ⟨by repeat (first | (with_reducible first | exact HI157.out | apply IsS32.alloc | apply IsS32.drewN | apply IsS32.drew | apply IsS32.set_0 | apply IsS32.set_1) | exact HI157.out)⟩, ⟨by repeat (first | (with_reducible first | exact HB.out | apply below_alloc | apply pw_below_drewN | apply below_drew1 | refine below_set ?_ (IsS32.ge HI157.out)) | exact HB.out)⟩⟩
                · rw [if_neg c20] at H
                  exact absurd H (by simp)
              · rw [if_neg c19] at H
                have c19b0 : (((rd_T24 l0 x11_1).f1) == (wrap64 (1 + t154))) = false := beq_eq_false_iff_ne.mpr c19
                have c19b1 : (((rd_T24 l0 x11_1).f1) != (wrap64 (1 + t154))) = true := bne_iff_ne.mpr c19
                (first | rw [c19b0] | (simp only [i64_w, i32_w]; rw [c19b0]) | skip)
                have H' := Aside0.mk H
                clear H
                go_wp2
                go_meet
                case rel => exact ⟨_, (x9_1), H', ⟨by have := HK1.out; first | omega | exact Nat.le_refl _⟩, ⟨by (with_reducible repeat (first | apply Kd.R_alloc | apply Kd.R_drewN | apply Kd.R_drew)); exact HO_6.out⟩, ⟨by (with_reducible repeat (first | apply Kd.R_alloc | apply Kd.R_drewN | apply Kd.R_drew)); exact HO_7.out⟩, ⟨by (with_reducible repeat (first | apply Kd.R_alloc | apply Kd.R_drewN | apply Kd.R_drew)); exact HO_8.out⟩, ⟨by (with_reducible repeat (first | apply Kd.R_alloc | apply Kd.R_drewN | apply Kd.R_drew)); exact HO_9.out⟩, ⟨by (with_reducible repeat (first | apply Kd.R_alloc | apply Kd.R_drewN | apply Kd.R_drew)); exact HO_10.out⟩, ⟨by repeat (first | (with_reducible first | exact HI157.out | apply IsS32.alloc | apply IsS32.drewN | apply IsS32.drew | apply IsS32.set_0 | apply IsS32.set_1) | exact HI157.out)⟩, ⟨by repeat (first | (with_reducible first | exact HB.out | apply below_alloc | apply pw_below_drewN | apply below_drew1 | refine below_set ?_ (IsS32.ge HI157.out)) | exact HB.out)⟩⟩
            case rest =>
              clear HC18
              try clear c1
              try clear p1
              try clear q1
              try clear hx1
              try clear c2
              try clear p2
              try clear c3
              try clear c4
              try clear c5
              try clear c6
              try clear p6
              try clear c7
              try clear c9
              try clear c10
              try clear c16
              try clear c16b0
              try clear p16
              try clear q16
              try clear hx16
              try clear c17
              try clear c17b0
              try clear p17
              try clear q17
              try clear hx17
              try clear c19
              try clear c19b0
              try clear c19b1
              try clear c20
              try clear hx169_0
              try clear hx169_1
              try clear hx169_2
              try clear hx170_0
              try clear hx170_1
              try clear hx170_2
              try clear p169
              try clear p170
              try clear p2
              try clear p6
              try clear q169
              try clear q170
              obtain ⟨kq, x9_17, HA, HJ17, HO_6, HO_7, HO_8, HO_9, HO_10, HI157, HB⟩ := hcut
              cases kq with
              | zero => exact absurd HA.out (by simp [hogsheadlaw2_TreeFilters.j1])
              | succ kj17 =>
                have H := HA.out
                clear HA
                simp only [hogsheadlaw2_TreeFilters.j1] at H
                by_cases c22 : 0 ≤ x11_1
                · rw [if_pos c22] at H
                  have c22b0 : decide (0 ≤ x11_1) = true := decide_eq_true c22
                  clear c22
                  by_cases c23 : x11_1 < (l0.length : Int)
                  · rw [if_pos c23] at H
                    have c23b0 : decide (x11_1 < (l0.length : Int)) = true := decide_eq_true c23
                    clear c23
                    by_cases c24 : ((rd_T24 l0 x11_1).f1) = 2
                    · rw [if_pos c24] at H
                      have c24b0 : (((rd_T24 l0 x11_1).f1) == 2) = true := beq_iff_eq.mpr c24
                      have c24b1 : (((rd_T24 l0 x11_1).f1) != 2) = false := bne_eq_false_iff_eq.mpr c24
                      clear c24
                      by_cases c25 : x10_1.length < 3518437208883
                      · rw [if_pos c25] at H
                        have LMc25 := Aside0.mk c25
                        clear c25
                        obtain ⟨y176, hy176⟩ : ∃ y_ : List (S24), y_ = (x10_1 ++ [(⟨(rd_T24 l0 x11_1).f0, (rd_T24 l0 x11_1).f1, (rd_T24 l0 x11_1).f2⟩ : S24)]) := ⟨_, rfl⟩
                        replace H : (hogsheadlaw2_TreeFilters.l0 kj17 l0 (wrap64 (1 + t154)) t158 t163 t166 x9_17 y176 (wrap64 (x11_1 + 1)) t161 t162) = some true := by first | (rw [hy176]; with_reducible exact H) | (have H2_ := (Option.bind_some _ _).symm.trans H; rw [hy176]; with_reducible exact H2_) | (have H2_ := (Option.bind_some _ _).symm.trans H; with_reducible exact H2_) | with_reducible exact H | (rw [hy176]; exact H) | exact H
                        have Ny176 := Aside0.mk hy176
                        clear hy176
                        have H' := Aside0.mk H
                        clear H
                        have p174 : 0 ≤ (x11_1 : Int) := of_decide_eq_true (by first | (with_reducible assumption) | assumption)
                        have q174 : x11_1 < (l0.length : Int) := of_decide_eq_true (by first | (with_reducible assumption) | assumption)
                        obtain ⟨ad174, e174, hx174_0, hx174_1, hx174_2⟩ := at_T24 HR0.out x11_1 p174 q174
                        obtain rfl : ad169 = ad174 := (by injection e174)
                        replace hx174_0 := (HB.out.cell (World.block_lt_of_cell? w _ hx174_0)).trans hx174_0
                        replace hx174_1 := (HB.out.cell (World.block_lt_of_cell? w _ hx174_1)).trans hx174_1
                        replace hx174_2 := (HB.out.cell (World.block_lt_of_cell? w _ hx174_2)).trans hx174_2
                        replace p174 := eq_true p174
                        replace q174 := eq_true q174
                        have p175 : 0 ≤ (x11_1 : Int) := of_decide_eq_true (by first | (with_reducible assumption) | assumption)
                        have q175 : x11_1 < (l0.length : Int) := of_decide_eq_true (by first | (with_reducible assumption) | assumption)
                        obtain ⟨ad175, e175, hx175_0, hx175_1, hx175_2⟩ := at_T24 HR0.out x11_1 p175 q175
                        obtain rfl : ad169 = ad175 := (by injection e175)
                        replace hx175_0 := (HB.out.cell (World.block_lt_of_cell? w _ hx175_0)).trans hx175_0
                        replace hx175_1 := (HB.out.cell (World.block_lt_of_cell? w _ hx175_1)).trans hx175_1
                        replace hx175_2 := (HB.out.cell (World.block_lt_of_cell? w _ hx175_2)).trans hx175_2
                        replace p175 := eq_true p175
                        replace q175 := eq_true q175
                        go_wp2_with (first | ((with_reducible refine gate_builtin (b := .append) (xs := #[.tmp 56, .tmp 61]) rfl ?_); (try (refine gate_guard (by rfl) ?_; dsimp only)); at_builtin; refine Kd.R_append k24 (w0 := w) w.heap.size rfl (.tmp 56) (.tmp 61) 25 24 (.agg #[(.string ⟨#[]⟩), (.int .i64 0), (.string ⟨#[]⟩)]) 40 rfl Tryd.underlying25 info24 rfl (by decide) (by omega) u10 x10_1 (⟨(rd_T24 l0 x11_1).f0, (rd_T24 l0 x11_1).f1, (rd_T24 l0 x11_1).f2⟩ : S24) [.string ((rd_T24 l0 x11_1).f0), .int .i64 ((rd_T24 l0 x11_1).f1), .string ((rd_T24 l0 x11_1).f2)] (fun k_ => some k_ ≠ (v159 : Value).ownBlock ∧ some k_ ≠ (v164 : Value).ownBlock ∧ some k_ ≠ (v167 : Value).ownBlock ∧ some k_ ≠ (u9 : Value).ownBlock) (fun _ => False) rfl rfl ?aP (fun _ hk => hk.elim) ?aF ?aO ?aB ?aS ?aL ?_; (case aP => exact k24_mkM _ _ _ (⟨(rd_T24 l0 x11_1).f0, (rd_T24 l0 x11_1).f1, (rd_T24 l0 x11_1).f2⟩ : S24)); (case aB => exact (by repeat (first | (with_reducible first | exact HB.out | apply below_alloc | apply pw_below_drewN | apply below_drew1 | refine below_set ?_ (IsS32.ge HI157.out)) | exact HB.out))); (case aF => exact (fun k_ hk => ⟨Kd.fresh' (Kd.R_lt (by (with_reducible repeat (first | apply Kd.R_alloc | apply Kd.R_drewN | apply Kd.R_drew)); exact HO_6.out)) k_ hk, Kd.fresh' (Kd.R_lt (by (with_reducible repeat (first | apply Kd.R_alloc | apply Kd.R_drewN | apply Kd.R_drew)); exact HO_7.out)) k_ hk, Kd.fresh' (Kd.R_lt (by (with_reducible repeat (first | apply Kd.R_alloc | apply Kd.R_drewN | apply Kd.R_drew)); exact HO_8.out)) k_ hk, Kd.fresh' (Kd.R_lt (by (with_reducible repeat (first | apply Kd.R_alloc | apply Kd.R_drewN | apply Kd.R_drew)); exact HO_9.out)) k_ hk⟩)); (case aO => exact (by (with_reducible repeat (first | apply Kd.R_alloc | apply Kd.R_drewN | apply Kd.R_drew)); exact HO_10.out)); (case aS => exact (below_size (by repeat (first | (with_reducible first | exact HB.out | apply below_alloc | apply pw_below_drewN | apply below_drew1 | refine below_set ?_ (IsS32.ge HI157.out)) | exact HB.out)))); (case aL => have := LMc25.out; omega); intro v177 w26 ho hb hg hat; rw [← Ny176.out] at ho; have n0_ := Aside0.mk (Kd.R_after (ok := (fun k_ => some k_ ≠ (v164 : Value).ownBlock ∧ some k_ ≠ (v167 : Value).ownBlock ∧ some k_ ≠ (u9 : Value).ownBlock)) (by (with_reducible repeat (first | apply Kd.R_alloc | apply Kd.R_drewN | apply Kd.R_drew)); exact Kd.R_mono HO_6.out (fun _ hk => ⟨⟨hk.1, ⟨hk.2.1, hk.2.2.1⟩⟩, hk.2.2.2⟩)) hg hat); have n1_ := Aside0.mk (Kd.R_after (ok := (fun k_ => some k_ ≠ (v159 : Value).ownBlock ∧ some k_ ≠ (v167 : Value).ownBlock ∧ some k_ ≠ (u9 : Value).ownBlock)) (by (with_reducible repeat (first | apply Kd.R_alloc | apply Kd.R_drewN | apply Kd.R_drew)); exact Kd.R_mono HO_7.out (fun _ hk => ⟨⟨hk.1, ⟨hk.2.1, hk.2.2.1⟩⟩, hk.2.2.2⟩)) hg hat); have n2_ := Aside0.mk (Kd.R_after (ok := (fun k_ => some k_ ≠ (v159 : Value).ownBlock ∧ some k_ ≠ (v164 : Value).ownBlock ∧ some k_ ≠ (u9 : Value).ownBlock)) (by (with_reducible repeat (first | apply Kd.R_alloc | apply Kd.R_drewN | apply Kd.R_drew)); exact Kd.R_mono HO_8.out (fun _ hk => ⟨⟨hk.1, ⟨hk.2.1, hk.2.2.1⟩⟩, hk.2.2.2⟩)) hg hat); have n3_ := Aside0.mk (Kd.R_after (ok := (fun k_ => some k_ ≠ (v159 : Value).ownBlock ∧ some k_ ≠ (v164 : Value).ownBlock ∧ some k_ ≠ (v167 : Value).ownBlock)) (by (with_reducible repeat (first | apply Kd.R_alloc | apply Kd.R_drewN | apply Kd.R_drew)); exact Kd.R_mono HO_9.out (fun _ hk => ⟨⟨hk.1, ⟨hk.2.1, hk.2.2.1⟩⟩, hk.2.2.2⟩)) hg hat); have n4_ := Aside0.mk (IsS32.grown (by repeat (first | (with_reducible first | exact HI157.out | apply IsS32.alloc | apply IsS32.drewN | apply IsS32.drew | apply IsS32.set_0 | apply IsS32.set_1) | exact HI157.out)) hg (IsS32.own_ne HI157.out HO_10.out (by decide))); have n5_ := Aside0.mk (hb); have n6_ := Aside0.mk (ho); clear HO_6; clear HO_7; clear HO_8; clear HO_9; clear HI157; clear HB; clear HO_10; have HO_6 := n0_; have HO_7 := n1_; have HO_8 := n2_; have HO_9 := n3_; have HI157 := n4_; have HB := n5_; have HO178 := n6_; clear n0_ n1_ n2_ n3_ n4_ n5_ n6_; clear ho hb hg hat))
                        go_roundg kj17
                        case measure => have := HK1.out; have := HJ17.out; omega
                        case rel => exact ⟨(x9_17), (y176), (wrap64 (x11_1 + 1)), (by first | rfl | (simp; done) | (simp [*]; done)), H', ⟨by have := HK1.out; have := HJ17.out; omega⟩, ⟨by (with_reducible repeat (first | apply Kd.R_alloc | apply Kd.R_drewN | apply Kd.R_drew)); exact Kd.R_mono HO_6.out (fun _ hk => ⟨hk.1.1, ⟨hk.1.2.1, ⟨hk.1.2.2, hk.2⟩⟩⟩)⟩, ⟨by (with_reducible repeat (first | apply Kd.R_alloc | apply Kd.R_drewN | apply Kd.R_drew)); exact Kd.R_mono HO_7.out (fun _ hk => ⟨hk.1.1, ⟨hk.1.2.1, ⟨hk.1.2.2, hk.2⟩⟩⟩)⟩, ⟨by (with_reducible repeat (first | apply Kd.R_alloc | apply Kd.R_drewN | apply Kd.R_drew)); exact Kd.R_mono HO_8.out (fun _ hk => ⟨hk.1.1, ⟨hk.1.2.1, ⟨hk.1.2.2, hk.2⟩⟩⟩)⟩, ⟨by (with_reducible repeat (first | apply Kd.R_alloc | apply Kd.R_drewN | apply Kd.R_drew)); exact Kd.R_mono HO_9.out (fun _ hk => ⟨hk.1.1, ⟨hk.1.2.1, ⟨hk.1.2.2, hk.2⟩⟩⟩)⟩, ⟨by (with_reducible repeat (first | apply Kd.R_alloc | apply Kd.R_drewN | apply Kd.R_drew)); exact HO178.out⟩, ⟨by repeat (first | (with_reducible first | exact HI157.out | apply IsS32.alloc | apply IsS32.drewN | apply IsS32.drew | apply IsS32.set_0 | apply IsS32.set_1) | exact HI157.out)⟩, ⟨by repeat (first | (with_reducible first | exact HB.out | apply below_alloc | apply pw_below_drewN | apply below_drew1 | refine below_set ?_ (IsS32.ge HI157.out)) | exact HB.out)⟩⟩
                      · rw [if_neg c25] at H
                        exact absurd H (by simp)
                    · rw [if_neg c24] at H
                      have c24b0 : (((rd_T24 l0 x11_1).f1) == 2) = false := beq_eq_false_iff_ne.mpr c24
                      have c24b1 : (((rd_T24 l0 x11_1).f1) != 2) = true := bne_iff_ne.mpr c24
                      have H' := Aside0.mk H
                      clear H
                      have p174 : 0 ≤ (x11_1 : Int) := of_decide_eq_true (by first | (with_reducible assumption) | assumption)
                      have q174 : x11_1 < (l0.length : Int) := of_decide_eq_true (by first | (with_reducible assumption) | assumption)
                      obtain ⟨ad174, e174, hx174_0, hx174_1, hx174_2⟩ := at_T24 HR0.out x11_1 p174 q174
                      obtain rfl : ad169 = ad174 := (by injection e174)
                      replace hx174_0 := (HB.out.cell (World.block_lt_of_cell? w _ hx174_0)).trans hx174_0
                      replace hx174_1 := (HB.out.cell (World.block_lt_of_cell? w _ hx174_1)).trans hx174_1
                      replace hx174_2 := (HB.out.cell (World.block_lt_of_cell? w _ hx174_2)).trans hx174_2
                      replace p174 := eq_true p174
                      replace q174 := eq_true q174
                      go_wp2
                      go_roundg kj17
                      case measure => have := HK1.out; have := HJ17.out; omega
                      case rel => exact ⟨(x9_17), (x10_1), (wrap64 (x11_1 + 1)), (by first | rfl | (simp; done) | (simp [*]; done)), H', ⟨by have := HK1.out; have := HJ17.out; omega⟩, ⟨by (with_reducible repeat (first | apply Kd.R_alloc | apply Kd.R_drewN | apply Kd.R_drew)); exact HO_6.out⟩, ⟨by (with_reducible repeat (first | apply Kd.R_alloc | apply Kd.R_drewN | apply Kd.R_drew)); exact HO_7.out⟩, ⟨by (with_reducible repeat (first | apply Kd.R_alloc | apply Kd.R_drewN | apply Kd.R_drew)); exact HO_8.out⟩, ⟨by (with_reducible repeat (first | apply Kd.R_alloc | apply Kd.R_drewN | apply Kd.R_drew)); exact HO_9.out⟩, ⟨by (with_reducible repeat (first | apply Kd.R_alloc | apply Kd.R_drewN | apply Kd.R_drew)); exact HO_10.out⟩, ⟨by repeat (first | (with_reducible first | exact HI157.out | apply IsS32.alloc | apply IsS32.drewN | apply IsS32.drew | apply IsS32.set_0 | apply IsS32.set_1) | exact HI157.out)⟩, ⟨by repeat (first | (with_reducible first | exact HB.out | apply below_alloc | apply pw_below_drewN | apply below_drew1 | refine below_set ?_ (IsS32.ge HI157.out)) | exact HB.out)⟩⟩
                  · rw [if_neg c23] at H
                    exact absurd H (by simp)
                · rw [if_neg c22] at H
                  exact absurd H (by simp)
          · rw [if_neg c17] at H
            exact absurd H (by simp)
        · rw [if_neg c16] at H
          have c16b0 : decide (x11_1 < (l0.length : Int)) = false := decide_eq_false c16
          clear c16
          have HC27 := Aside0.mk H
          clear H
          go_upto_region 16 with (fail)
          go_cut [12] (fun v12 wc => ∃ (kq : Nat) (x12_26 : Bool), v12 = .bool x12_26 ∧ Aside0 (hogsheadlaw2_TreeFilters.j2 kq l0 t158 t166 x9_1 x12_26 t161 t162 = some true) ∧ Aside0 (kq ≤ k1) ∧ Aside0 (Kd.R k24 24 wc w.heap.size (fun k_ => some k_ ≠ (v167 : Value).ownBlock ∧ some k_ ≠ (u9 : Value).ownBlock) v159 t158) ∧ Aside0 (Kd.R k24 24 wc w.heap.size (fun k_ => some k_ ≠ (v159 : Value).ownBlock ∧ some k_ ≠ (u9 : Value).ownBlock) v167 t166) ∧ Aside0 (Kd.R k24 24 wc w.heap.size (fun k_ => some k_ ≠ (v159 : Value).ownBlock ∧ some k_ ≠ (v167 : Value).ownBlock) u9 x9_1) ∧ Aside0 (IsS32 w wc g157 t161 t162) ∧ Aside0 (Below w.heap.size w wc))
          case first =>
            have H := HC27.out
            clear HC27
            replace H := Option.bind_eq_some_iff.mp H
            obtain ⟨t179, A280, H⟩ := H
            replace H : (if t179 = true then ((hogsheadlaw0_SameNodes.f k1 t163 x10_1).bind fun t180 => (if t180 = true then (if t162 = (l0.length : Int) then ((hogsheadlaw0_SameNodes.f k1 t166 l0).bind fun t181 => (hogsheadlaw2_TreeFilters.j2 k1 l0 t158 t166 x9_1 t181 t161 t162)) else (hogsheadlaw2_TreeFilters.j2 k1 l0 t158 t166 x9_1 false t161 t162)) else (hogsheadlaw2_TreeFilters.j2 k1 l0 t158 t166 x9_1 false t161 t162))) else (hogsheadlaw2_TreeFilters.j2 k1 l0 t158 t166 x9_1 false t161 t162)) = some true := H
            have A28 := Aside0.mk A280
            clear A280
            by_cases c29 : t179 = true
            · subst c29
              have H1 : ((hogsheadlaw0_SameNodes.f k1 t163 x10_1).bind fun t180 => (if t180 = true then (if t162 = (l0.length : Int) then ((hogsheadlaw0_SameNodes.f k1 t166 l0).bind fun t181 => (hogsheadlaw2_TreeFilters.j2 k1 l0 t158 t166 x9_1 t181 t161 t162)) else (hogsheadlaw2_TreeFilters.j2 k1 l0 t158 t166 x9_1 false t161 t162)) else (hogsheadlaw2_TreeFilters.j2 k1 l0 t158 t166 x9_1 false t161 t162))) = some true := by rw [if_pos rfl] at H; exact H
              clear H
              have H := H1
              clear H1
              replace H := Option.bind_eq_some_iff.mp H
              obtain ⟨t180, A300, H⟩ := H
              replace H : (if t180 = true then (if t162 = (l0.length : Int) then ((hogsheadlaw0_SameNodes.f k1 t166 l0).bind fun t181 => (hogsheadlaw2_TreeFilters.j2 k1 l0 t158 t166 x9_1 t181 t161 t162)) else (hogsheadlaw2_TreeFilters.j2 k1 l0 t158 t166 x9_1 false t161 t162)) else (hogsheadlaw2_TreeFilters.j2 k1 l0 t158 t166 x9_1 false t161 t162)) = some true := H
              have A30 := Aside0.mk A300
              clear A300
              by_cases c31 : t180 = true
              · subst c31
                have H1 : (if t162 = (l0.length : Int) then ((hogsheadlaw0_SameNodes.f k1 t166 l0).bind fun t181 => (hogsheadlaw2_TreeFilters.j2 k1 l0 t158 t166 x9_1 t181 t161 t162)) else (hogsheadlaw2_TreeFilters.j2 k1 l0 t158 t166 x9_1 false t161 t162)) = some true := by rw [if_pos rfl] at H; exact H
                clear H
                have H := H1
                clear H1
                by_cases c32 : t162 = (l0.length : Int)
                · rw [if_pos c32] at H
                  have c32b0 : (t162 == (l0.length : Int)) = true := beq_iff_eq.mpr c32
                  have c32b1 : (t162 != (l0.length : Int)) = false := bne_eq_false_iff_eq.mpr c32
                  clear c32
                  (first | rw [c32b0] | (simp only [i64_w, i32_w]; rw [c32b0]) | skip)
                  replace H := Option.bind_eq_some_iff.mp H
                  obtain ⟨t181, A330, H⟩ := H
                  replace H : (hogsheadlaw2_TreeFilters.j2 k1 l0 t158 t166 x9_1 t181 t161 t162) = some true := H
                  have A33 := Aside0.mk A330
                  clear A330
                  have H' := Aside0.mk H
                  clear H
                  obtain ⟨Ao34, co34, eo34⟩ := Kd.R_slice HO_6.out
                  subst eo34
                  obtain ⟨Ao35, co35, eo35⟩ := Kd.R_slice HO_9.out
                  subst eo35
                  go_wp2_with (first | ((with_reducible refine gate_callee (f := 14) rfl ?_); refine goesL_ (some 65) rfl rfl Tryd.func14 (by kernel_rfl) rfl #[.slice Ao34 t158.length co34, .slice Ao35 x9_1.length co35] rfl (by (try simp only [List.map_toArray, List.map_cons, List.map_nil]); first | done | rfl | (simp only [List.length_drop, List.length_take]; rfl)) ?_; (with_reducible refine (hogsheadlaw0_SameNodes.calls k1 _ _ t158 _ _ x9_1 true _ ?side1 ?side2 ?side3 ?side4 A28.out).mono ?_); (case side1 => repeat (first | exact (Kd.R_reads' HO_6.out).2.2 | (with_reducible refine Kd.C_alloc ?_ _) | (with_reducible refine Kd.C_drewN ?_ _) | (with_reducible refine Kd.C_drew ?_))); (case side2 => exact (Kd.R_reads' HO_6.out).2.1); (case side3 => repeat (first | exact (Kd.R_reads' HO_9.out).2.2 | (with_reducible refine Kd.C_alloc ?_ _) | (with_reducible refine Kd.C_drewN ?_ _) | (with_reducible refine Kd.C_drew ?_))); (case side4 => exact (Kd.R_reads' HO_9.out).2.1); rintro e w' ⟨rfl, ⟨nd, rfl⟩⟩; refine ⟨_, rfl, ?_⟩; obtain ⟨Ao36, co36, eo36⟩ := Kd.R_slice HO_7.out; subst eo36; obtain ⟨Ao37, co37, eo37⟩ := Kd.R_slice HO_10.out; subst eo37) | (go_at_call 14; (with_reducible refine (hogsheadlaw0_SameNodes.calls k1 _ _ t163 _ _ x10_1 true _ ?side1 ?side2 ?side3 ?side4 A30.out).mono ?_); (case side1 => repeat (first | exact (Kd.R_reads' HO_7.out).2.2 | (with_reducible refine Kd.C_alloc ?_ _) | (with_reducible refine Kd.C_drewN ?_ _) | (with_reducible refine Kd.C_drew ?_))); (case side2 => exact (Kd.R_reads' HO_7.out).2.1); (case side3 => repeat (first | exact (Kd.R_reads' HO_10.out).2.2 | (with_reducible refine Kd.C_alloc ?_ _) | (with_reducible refine Kd.C_drewN ?_ _) | (with_reducible refine Kd.C_drew ?_))); (case side4 => exact (Kd.R_reads' HO_10.out).2.1); rintro e w' ⟨rfl, ⟨nd, rfl⟩⟩; obtain ⟨HGz38, hgz38⟩ := HI157.out; have hcz38_0 := cellS32_0 HGz38; have hcz38_1 := cellS32_1 HGz38; have hfz38_0 := blk_frozen HGz38 0; have hfz38_1 := blk_frozen HGz38 1; clear HGz38 hgz38; obtain ⟨Ao39, co39, eo39⟩ := Kd.R_slice HO_8.out; subst eo39) | (go_at_call 14; (with_reducible refine (hogsheadlaw0_SameNodes.calls k1 _ _ t166 _ _ l0 t181 _ ?side1 ?side2 ?side3 ?side4 A33.out).mono ?_); (case side1 => repeat (first | exact (Kd.R_reads' HO_8.out).2.2 | (with_reducible refine Kd.C_alloc ?_ _) | (with_reducible refine Kd.C_drewN ?_ _) | (with_reducible refine Kd.C_drew ?_))); (case side2 => exact (Kd.R_reads' HO_8.out).2.1); (case side3 => repeat (first | exact (Kd.C_below HR0.out (by repeat (first | (with_reducible first | exact HB.out | apply below_alloc | apply pw_below_drewN | apply below_drew1 | refine below_set ?_ (IsS32.ge HI157.out)) | exact HB.out))) | (with_reducible refine Kd.C_alloc ?_ _) | (with_reducible refine Kd.C_drewN ?_ _) | (with_reducible refine Kd.C_drew ?_))); (case side4 => exact HC0.out); rintro e w' ⟨rfl, ⟨nd, rfl⟩⟩))
                  go_meet
                  case rel => exact ⟨_, (t181), (by first | rfl | (simp; done) | (simp [*]; done)), H', ⟨by have := HK1.out; first | omega | exact Nat.le_refl _⟩, ⟨by (with_reducible repeat (first | apply Kd.R_alloc | apply Kd.R_drewN | apply Kd.R_drew)); exact Kd.R_mono HO_6.out (fun _ hk => ⟨hk.2.1, hk.2.2.1⟩)⟩, ⟨by (with_reducible repeat (first | apply Kd.R_alloc | apply Kd.R_drewN | apply Kd.R_drew)); exact Kd.R_mono HO_8.out (fun _ hk => ⟨hk.1, hk.2.2.1⟩)⟩, ⟨by (with_reducible repeat (first | apply Kd.R_alloc | apply Kd.R_drewN | apply Kd.R_drew)); exact Kd.R_mono HO_9.out (fun _ hk => ⟨hk.1, hk.2.2.1⟩)⟩, ⟨by repeat (first | (with_reducible first | exact HI157.out | apply IsS32.alloc | apply IsS32.drewN | apply IsS32.drew | apply IsS32.set_0 | apply IsS32.set_1) | exact HI157.out)⟩, ⟨by repeat (first | (with_reducible first | exact HB.out | apply below_alloc | apply pw_below_drewN | apply below_drew1 | refine below_set ?_ (IsS32.ge HI157.out)) | exact HB.out)⟩⟩
                · rw [if_neg c32] at H
                  have c32b0 : (t162 == (l0.length : Int)) = false := beq_eq_false_iff_ne.mpr c32
                  have c32b1 : (t162 != (l0.length : Int)) = true := bne_iff_ne.mpr c32
                  (first | rw [c32b0] | (simp only [i64_w, i32_w]; rw [c32b0]) | skip)
                  have H' := Aside0.mk H
                  clear H
                  obtain ⟨Ao40, co40, eo40⟩ := Kd.R_slice HO_6.out
                  subst eo40
                  obtain ⟨Ao41, co41, eo41⟩ := Kd.R_slice HO_9.out
                  subst eo41
                  go_wp2_with (first | ((with_reducible refine gate_callee (f := 14) rfl ?_); refine goesL_ (some 65) rfl rfl Tryd.func14 (by kernel_rfl) rfl #[.slice Ao40 t158.length co40, .slice Ao41 x9_1.length co41] rfl (by (try simp only [List.map_toArray, List.map_cons, List.map_nil]); first | done | rfl | (simp only [List.length_drop, List.length_take]; rfl)) ?_; (with_reducible refine (hogsheadlaw0_SameNodes.calls k1 _ _ t158 _ _ x9_1 true _ ?side1 ?side2 ?side3 ?side4 A28.out).mono ?_); (case side1 => repeat (first | exact (Kd.R_reads' HO_6.out).2.2 | (with_reducible refine Kd.C_alloc ?_ _) | (with_reducible refine Kd.C_drewN ?_ _) | (with_reducible refine Kd.C_drew ?_))); (case side2 => exact (Kd.R_reads' HO_6.out).2.1); (case side3 => repeat (first | exact (Kd.R_reads' HO_9.out).2.2 | (with_reducible refine Kd.C_alloc ?_ _) | (with_reducible refine Kd.C_drewN ?_ _) | (with_reducible refine Kd.C_drew ?_))); (case side4 => exact (Kd.R_reads' HO_9.out).2.1); rintro e w' ⟨rfl, ⟨nd, rfl⟩⟩; refine ⟨_, rfl, ?_⟩; obtain ⟨Ao42, co42, eo42⟩ := Kd.R_slice HO_7.out; subst eo42; obtain ⟨Ao43, co43, eo43⟩ := Kd.R_slice HO_10.out; subst eo43) | (go_at_call 14; (with_reducible refine (hogsheadlaw0_SameNodes.calls k1 _ _ t163 _ _ x10_1 true _ ?side1 ?side2 ?side3 ?side4 A30.out).mono ?_); (case side1 => repeat (first | exact (Kd.R_reads' HO_7.out).2.2 | (with_reducible refine Kd.C_alloc ?_ _) | (with_reducible refine Kd.C_drewN ?_ _) | (with_reducible refine Kd.C_drew ?_))); (case side2 => exact (Kd.R_reads' HO_7.out).2.1); (case side3 => repeat (first | exact (Kd.R_reads' HO_10.out).2.2 | (with_reducible refine Kd.C_alloc ?_ _) | (with_reducible refine Kd.C_drewN ?_ _) | (with_reducible refine Kd.C_drew ?_))); (case side4 => exact (Kd.R_reads' HO_10.out).2.1); rintro e w' ⟨rfl, ⟨nd, rfl⟩⟩; obtain ⟨HGz44, hgz44⟩ := HI157.out; have hcz44_0 := cellS32_0 HGz44; have hcz44_1 := cellS32_1 HGz44; have hfz44_0 := blk_frozen HGz44 0; have hfz44_1 := blk_frozen HGz44 1; clear HGz44 hgz44))
                  go_meet
                  case rel => exact ⟨_, (false), (by first | rfl | (simp; done) | (simp [*]; done)), H', ⟨by have := HK1.out; first | omega | exact Nat.le_refl _⟩, ⟨by (with_reducible repeat (first | apply Kd.R_alloc | apply Kd.R_drewN | apply Kd.R_drew)); exact Kd.R_mono HO_6.out (fun _ hk => ⟨hk.2.1, hk.2.2.1⟩)⟩, ⟨by (with_reducible repeat (first | apply Kd.R_alloc | apply Kd.R_drewN | apply Kd.R_drew)); exact Kd.R_mono HO_8.out (fun _ hk => ⟨hk.1, hk.2.2.1⟩)⟩, ⟨by (with_reducible repeat (first | apply Kd.R_alloc | apply Kd.R_drewN | apply Kd.R_drew)); exact Kd.R_mono HO_9.out (fun _ hk => ⟨hk.1, hk.2.2.1⟩)⟩, ⟨by repeat (first | (with_reducible first | exact HI157.out | apply IsS32.alloc | apply IsS32.drewN | apply IsS32.drew | apply IsS32.set_0 | apply IsS32.set_1) | exact HI157.out)⟩, ⟨by repeat (first | (with_reducible first | exact HB.out | apply below_alloc | apply pw_below_drewN | apply below_drew1 | refine below_set ?_ (IsS32.ge HI157.out)) | exact HB.out)⟩⟩
              · replace c31 := Bool.eq_false_iff.mpr c31
                subst c31
                have H1 : (hogsheadlaw2_TreeFilters.j2 k1 l0 t158 t166 x9_1 false t161 t162) = some true := by rw [if_neg (show ¬ (false = true) by decide)] at H; exact H
                clear H
                have H := H1
                clear H1
                have H' := Aside0.mk H
                clear H
                obtain ⟨Ao45, co45, eo45⟩ := Kd.R_slice HO_6.out
                subst eo45
                obtain ⟨Ao46, co46, eo46⟩ := Kd.R_slice HO_9.out
                subst eo46
                go_wp2_with (first | ((with_reducible refine gate_callee (f := 14) rfl ?_); refine goesL_ (some 65) rfl rfl Tryd.func14 (by kernel_rfl) rfl #[.slice Ao45 t158.length co45, .slice Ao46 x9_1.length co46] rfl (by (try simp only [List.map_toArray, List.map_cons, List.map_nil]); first | done | rfl | (simp only [List.length_drop, List.length_take]; rfl)) ?_; (with_reducible refine (hogsheadlaw0_SameNodes.calls k1 _ _ t158 _ _ x9_1 true _ ?side1 ?side2 ?side3 ?side4 A28.out).mono ?_); (case side1 => repeat (first | exact (Kd.R_reads' HO_6.out).2.2 | (with_reducible refine Kd.C_alloc ?_ _) | (with_reducible refine Kd.C_drewN ?_ _) | (with_reducible refine Kd.C_drew ?_))); (case side2 => exact (Kd.R_reads' HO_6.out).2.1); (case side3 => repeat (first | exact (Kd.R_reads' HO_9.out).2.2 | (with_reducible refine Kd.C_alloc ?_ _) | (with_reducible refine Kd.C_drewN ?_ _) | (with_reducible refine Kd.C_drew ?_))); (case side4 => exact (Kd.R_reads' HO_9.out).2.1); rintro e w' ⟨rfl, ⟨nd, rfl⟩⟩; refine ⟨_, rfl, ?_⟩; obtain ⟨Ao47, co47, eo47⟩ := Kd.R_slice HO_7.out; subst eo47; obtain ⟨Ao48, co48, eo48⟩ := Kd.R_slice HO_10.out; subst eo48) | (go_at_call 14; (with_reducible refine (hogsheadlaw0_SameNodes.calls k1 _ _ t163 _ _ x10_1 false _ ?side1 ?side2 ?side3 ?side4 A30.out).mono ?_); (case side1 => repeat (first | exact (Kd.R_reads' HO_7.out).2.2 | (with_reducible refine Kd.C_alloc ?_ _) | (with_reducible refine Kd.C_drewN ?_ _) | (with_reducible refine Kd.C_drew ?_))); (case side2 => exact (Kd.R_reads' HO_7.out).2.1); (case side3 => repeat (first | exact (Kd.R_reads' HO_10.out).2.2 | (with_reducible refine Kd.C_alloc ?_ _) | (with_reducible refine Kd.C_drewN ?_ _) | (with_reducible refine Kd.C_drew ?_))); (case side4 => exact (Kd.R_reads' HO_10.out).2.1); rintro e w' ⟨rfl, ⟨nd, rfl⟩⟩))
                go_meet
                case rel => exact ⟨_, (false), (by first | rfl | (simp; done) | (simp [*]; done)), H', ⟨by have := HK1.out; first | omega | exact Nat.le_refl _⟩, ⟨by (with_reducible repeat (first | apply Kd.R_alloc | apply Kd.R_drewN | apply Kd.R_drew)); exact Kd.R_mono HO_6.out (fun _ hk => ⟨hk.2.1, hk.2.2.1⟩)⟩, ⟨by (with_reducible repeat (first | apply Kd.R_alloc | apply Kd.R_drewN | apply Kd.R_drew)); exact Kd.R_mono HO_8.out (fun _ hk => ⟨hk.1, hk.2.2.1⟩)⟩, ⟨by (with_reducible repeat (first | apply Kd.R_alloc | apply Kd.R_drewN | apply Kd.R_drew)); exact Kd.R_mono HO_9.out (fun _ hk => ⟨hk.1, hk.2.2.1⟩)⟩, ⟨by repeat (first | (with_reducible first | exact HI157.out | apply IsS32.alloc | apply IsS32.drewN | apply IsS32.drew | apply IsS32.set_0 | apply IsS32.set_1) | exact HI157.out)⟩, ⟨by repeat (first | (with_reducible first | exact HB.out | apply below_alloc | apply pw_below_drewN | apply below_drew1 | refine below_set ?_ (IsS32.ge HI157.out)) | exact HB.out)⟩⟩
            · replace c29 := Bool.eq_false_iff.mpr c29
              subst c29
              have H1 : (hogsheadlaw2_TreeFilters.j2 k1 l0 t158 t166 x9_1 false t161 t162) = some true := by rw [if_neg (show ¬ (false = true) by decide)] at H; exact H
              clear H
              have H := H1
              clear H1
              have H' := Aside0.mk H
              clear H
              obtain ⟨Ao49, co49, eo49⟩ := Kd.R_slice HO_6.out
              subst eo49
              obtain ⟨Ao50, co50, eo50⟩ := Kd.R_slice HO_9.out
              subst eo50
              go_wp2_with (first | ((with_reducible refine gate_callee (f := 14) rfl ?_); refine goesL_ (some 65) rfl rfl Tryd.func14 (by kernel_rfl) rfl #[.slice Ao49 t158.length co49, .slice Ao50 x9_1.length co50] rfl (by (try simp only [List.map_toArray, List.map_cons, List.map_nil]); first | done | rfl | (simp only [List.length_drop, List.length_take]; rfl)) ?_; (with_reducible refine (hogsheadlaw0_SameNodes.calls k1 _ _ t158 _ _ x9_1 false _ ?side1 ?side2 ?side3 ?side4 A28.out).mono ?_); (case side1 => repeat (first | exact (Kd.R_reads' HO_6.out).2.2 | (with_reducible refine Kd.C_alloc ?_ _) | (with_reducible refine Kd.C_drewN ?_ _) | (with_reducible refine Kd.C_drew ?_))); (case side2 => exact (Kd.R_reads' HO_6.out).2.1); (case side3 => repeat (first | exact (Kd.R_reads' HO_9.out).2.2 | (with_reducible refine Kd.C_alloc ?_ _) | (with_reducible refine Kd.C_drewN ?_ _) | (with_reducible refine Kd.C_drew ?_))); (case side4 => exact (Kd.R_reads' HO_9.out).2.1); rintro e w' ⟨rfl, ⟨nd, rfl⟩⟩; refine ⟨_, rfl, ?_⟩))
              go_meet
              case rel => exact ⟨_, (false), (by first | rfl | (simp; done) | (simp [*]; done)), H', ⟨by have := HK1.out; first | omega | exact Nat.le_refl _⟩, ⟨by (with_reducible repeat (first | apply Kd.R_alloc | apply Kd.R_drewN | apply Kd.R_drew)); exact Kd.R_mono HO_6.out (fun _ hk => ⟨hk.2.1, hk.2.2.1⟩)⟩, ⟨by (with_reducible repeat (first | apply Kd.R_alloc | apply Kd.R_drewN | apply Kd.R_drew)); exact Kd.R_mono HO_8.out (fun _ hk => ⟨hk.1, hk.2.2.1⟩)⟩, ⟨by (with_reducible repeat (first | apply Kd.R_alloc | apply Kd.R_drewN | apply Kd.R_drew)); exact Kd.R_mono HO_9.out (fun _ hk => ⟨hk.1, hk.2.2.1⟩)⟩, ⟨by repeat (first | (with_reducible first | exact HI157.out | apply IsS32.alloc | apply IsS32.drewN | apply IsS32.drew | apply IsS32.set_0 | apply IsS32.set_1) | exact HI157.out)⟩, ⟨by repeat (first | (with_reducible first | exact HB.out | apply below_alloc | apply pw_below_drewN | apply below_drew1 | refine below_set ?_ (IsS32.ge HI157.out)) | exact HB.out)⟩⟩
          case rest =>
            clear HC27
            try clear c1
            try clear p1
            try clear q1
            try clear hx1
            try clear c2
            try clear p2
            try clear c3
            try clear c4
            try clear c5
            try clear c6
            try clear p6
            try clear c7
            try clear c9
            try clear c10
            try clear c14
            try clear c16
            try clear c16b0
            try clear p16
            try clear q16
            try clear hx16
            try clear c17
            try clear c17b0
            try clear p17
            try clear q17
            try clear hx17
            try clear c19
            try clear c19b0
            try clear c19b1
            try clear c20
            try clear c22
            try clear c22b0
            try clear c23
            try clear c23b0
            try clear c24
            try clear c24b0
            try clear c24b1
            try clear c25
            try clear c29
            try clear c31
            try clear c32
            try clear c32b0
            try clear c32b1
            try clear hcz38_0
            try clear hcz38_1
            try clear hcz44_0
            try clear hcz44_1
            try clear hfz38_0
            try clear hfz38_1
            try clear hfz44_0
            try clear hfz44_1
            try clear hx169_0
            try clear hx169_1
            try clear hx169_2
            try clear hx170_0
            try clear hx170_1
            try clear hx170_2
            try clear hx174_0
            try clear hx174_1
            try clear hx174_2
            try clear hx175_0
            try clear hx175_1
            try clear hx175_2
            try clear p1
            try clear p16
            try clear p169
            try clear p17
            try clear p170
            try clear p174
            try clear p175
            try clear p2
            try clear p6
            try clear q1
            try clear q16
            try clear q169
            try clear q17
            try clear q170
            try clear q174
            try clear q175
            obtain ⟨kq, x12_26, rfl, HA, HJ26, HO_6, HO_8, HO_9, HI157, HB⟩ := hcut
            cases kq with
            | zero => exact absurd HA.out (by simp [hogsheadlaw2_TreeFilters.j2])
            | succ kj26 =>
              have H := HA.out
              clear HA
              simp only [hogsheadlaw2_TreeFilters.j2] at H
              replace H := Option.bind_eq_some_iff.mp H
              obtain ⟨_, A510, H⟩ := H
              replace H : ((hogsheadlaw0_OverNodes.f kj26 t166).bind fun _ => (if x12_26 = true then ((tree_FilterIs.f kj26 l0 t161 t162).bind fun bt182 => ((hogsheadlaw0_SameNodes.f kj26 bt182.1 x9_1).bind fun t187 => (if t187 = true then ((hogsheadlaw2_awake.f kj26).bind fun t188 => (some t188)) else (some false)))) else (some false))) = some true := H
              have A51 := Aside0.mk A510
              clear A510
              replace H := Option.bind_eq_some_iff.mp H
              obtain ⟨_, A520, H⟩ := H
              replace H : (if x12_26 = true then ((tree_FilterIs.f kj26 l0 t161 t162).bind fun bt182 => ((hogsheadlaw0_SameNodes.f kj26 bt182.1 x9_1).bind fun t187 => (if t187 = true then ((hogsheadlaw2_awake.f kj26).bind fun t188 => (some t188)) else (some false)))) else (some false)) = some true := H
              have A52 := Aside0.mk A520
              clear A520
              by_cases c53 : x12_26 = true
              · subst c53
                have H1 : ((tree_FilterIs.f kj26 l0 t161 t162).bind fun bt182 => ((hogsheadlaw0_SameNodes.f kj26 bt182.1 x9_1).bind fun t187 => (if t187 = true then ((hogsheadlaw2_awake.f kj26).bind fun t188 => (some t188)) else (some false)))) = some true := by rw [if_pos rfl] at H; exact H
                clear H
                have H := H1
                clear H1
                replace H := Option.bind_eq_some_iff.mp H
                obtain ⟨⟨t182, t185, t186⟩, A540, H⟩ := H
                replace H : ((hogsheadlaw0_SameNodes.f kj26 t182 x9_1).bind fun t187 => (if t187 = true then ((hogsheadlaw2_awake.f kj26).bind fun t188 => (some t188)) else (some false))) = some true := H
                have A54 := Aside0.mk A540
                clear A540
                replace H := Option.bind_eq_some_iff.mp H
                obtain ⟨t187, A550, H⟩ := H
                replace H : (if t187 = true then ((hogsheadlaw2_awake.f kj26).bind fun t188 => (some t188)) else (some false)) = some true := H
                have A55 := Aside0.mk A550
                clear A550
                by_cases c56 : t187 = true
                · subst c56
                  have H1 : ((hogsheadlaw2_awake.f kj26).bind fun t188 => (some t188)) = some true := by rw [if_pos rfl] at H; exact H
                  clear H
                  have H := H1
                  clear H1
                  replace H := Option.bind_eq_some_iff.mp H
                  obtain ⟨t188, A570, H⟩ := H
                  replace H : (some t188) = some true := H
                  have A57 := Aside0.mk A570
                  clear A570
                  obtain rfl := Option.some.inj H
                  obtain ⟨Ao58, co58, eo58⟩ := Kd.R_slice HO_6.out
                  subst eo58
                  go_wp2_with (first | ((with_reducible refine gate_callee (f := 15) rfl ?_); refine goesL_ (some 86) rfl rfl Tryd.func15 (by kernel_rfl) rfl #[.slice Ao58 t158.length co58] rfl (by (try simp only [List.map_toArray, List.map_cons, List.map_nil]); first | done | rfl | (simp only [List.length_drop, List.length_take]; rfl)) ?_; (with_reducible refine (hogsheadlaw0_OverNodes.calls kj26 (fun k_ => some k_ = (.slice Ao58 t158.length co58 : Value).ownBlock) (.slice Ao58 t158.length co58) t158  w _ ?side1 ?side2 A51.out).mono ?_); (case side1 => repeat (first | (with_reducible first | exact HB.out | apply below_alloc | apply pw_below_drewN | apply below_drew1 | refine below_set ?_ (IsS32.ge HI157.out)) | exact HB.out)); (case side2 => exact Kd.R_tight rfl HO_6.out); rintro e w59 ⟨rfl, hb, hkp⟩; refine ⟨_, rfl, ?_⟩; have n0_ := Aside0.mk (Kd.R_mono (ok' := fun k_ => some k_ ≠ (u9 : Value).ownBlock) (Kd.R_keptB (HO_8.out) hkp (fun k_ hk_ hs_ => (hk_.1) hs_)) (fun k_ hk_ => hk_.1.2)); have n1_ := Aside0.mk (Kd.R_mono (ok' := fun k_ => some k_ ≠ (v167 : Value).ownBlock) (Kd.R_keptB (HO_9.out) hkp (fun k_ hk_ hs_ => (hk_.1) hs_)) (fun k_ hk_ => hk_.1.2)); have n2_ := Aside0.mk (IsS32.kept (by repeat (first | (with_reducible first | exact HI157.out | apply IsS32.alloc | apply IsS32.drewN | apply IsS32.drew | apply IsS32.set_0 | apply IsS32.set_1) | exact HI157.out)) hkp (fun hs_ => (fun e_ => (IsS32.own_ne HI157.out HO_6.out (by decide)) e_) hs_)); have n3_ := Aside0.mk (hb); clear HO_8; clear HO_9; clear HI157; clear HB; clear HO_6; have HO_8 := n0_; have HO_9 := n1_; have HI157 := n2_; have HB := n3_; clear n0_ n1_ n2_ n3_; (try clear hb); (try clear hkp); obtain ⟨Ao60, co60, eo60⟩ := Kd.R_slice HO_8.out; subst eo60) | ((with_reducible refine gate_callee (f := 15) rfl ?_); refine goesL_ (some 88) rfl rfl Tryd.func15 (by kernel_rfl) rfl #[.slice Ao60 t166.length co60] rfl (by (try simp only [List.map_toArray, List.map_cons, List.map_nil]); first | done | rfl | (simp only [List.length_drop, List.length_take]; rfl)) ?_; (with_reducible refine (hogsheadlaw0_OverNodes.calls kj26 (fun k_ => some k_ = (.slice Ao60 t166.length co60 : Value).ownBlock) (.slice Ao60 t166.length co60) t166  w _ ?side1 ?side2 A52.out).mono ?_); (case side1 => repeat (first | (with_reducible first | exact HB.out | apply below_alloc | apply pw_below_drewN | apply below_drew1 | refine below_set ?_ (IsS32.ge HI157.out)) | exact HB.out)); (case side2 => exact Kd.R_tight rfl HO_8.out); rintro e w61 ⟨rfl, hb, hkp⟩; refine ⟨_, rfl, ?_⟩; have n0_ := Aside0.mk (Kd.R_mono (ok' := fun k_ => True) (Kd.R_keptB (HO_9.out) hkp (fun k_ hk_ hs_ => (hk_) hs_)) (fun k_ hk_ => trivial)); have n1_ := Aside0.mk (IsS32.kept (by repeat (first | (with_reducible first | exact HI157.out | apply IsS32.alloc | apply IsS32.drewN | apply IsS32.drew | apply IsS32.set_0 | apply IsS32.set_1) | exact HI157.out)) hkp (fun hs_ => (fun e_ => (IsS32.own_ne HI157.out HO_8.out (by decide)) e_) hs_)); have n2_ := Aside0.mk (hb); clear HO_9; clear HI157; clear HB; clear HO_8; have HO_9 := n0_; have HI157 := n1_; have HB := n2_; clear n0_ n1_ n2_; (try clear hb); (try clear hkp)) | (go_at_call 11; (with_reducible refine (tree_FilterIs.calls kj26 _ _ l0 g157 t161 t162 t182 t185 t186 w _ ?side1 ?side2 ?side3 ?side4 A54.out).mono ?_); (case side1 => repeat (first | (with_reducible first | exact HI157.out | apply IsS32.alloc | apply IsS32.drewN | apply IsS32.drew | apply IsS32.set_0 | apply IsS32.set_1) | exact HI157.out)); (case side2 => repeat (first | (with_reducible first | exact HB.out | apply below_alloc | apply pw_below_drewN | apply below_drew1 | refine below_set ?_ (IsS32.ge HI157.out)) | exact HB.out)); (case side3 => exact Kd.C_foot_came k24_heap HR0.out (by repeat (first | (with_reducible first | exact HB.out | apply below_alloc | apply pw_below_drewN | apply below_drew1 | refine below_set ?_ (IsS32.ge HI157.out)) | exact HB.out)) (IsS32.ge HI157.out)); (case side4 => exact HC0.out); rintro e w62 ⟨v183, rfl, ho0, hi, hb, hk⟩; have n0_ := Aside0.mk (Kd.R_mono (Kd.R_told (Kd.R_oldK (IsS32.apart (show IsS32 w _ g157 t161 t162 from by repeat (first | (with_reducible first | exact HI157.out | apply IsS32.alloc | apply IsS32.drewN | apply IsS32.drew | apply IsS32.set_0 | apply IsS32.set_1) | exact HI157.out)) (by (with_reducible repeat (first | apply Kd.R_alloc | apply Kd.R_drewN | apply Kd.R_drew)); exact HO_9.out) (by decide)) hk) (Kd.R_base ho0)) (fun _ h_ => h_.1)); have n1_ := Aside0.mk (Kd.R_lower (Kd.R_new' ho0 (Kd.R_lt (by (with_reducible repeat (first | apply Kd.R_alloc | apply Kd.R_drewN | apply Kd.R_drew)); exact HO_9.out))) (below_size (by repeat (first | (with_reducible first | exact HB.out | apply below_alloc | apply pw_below_drewN | apply below_drew1 | refine below_set ?_ (IsS32.ge HI157.out)) | exact HB.out)))); have n2_ := Aside0.mk (hb); have n3_ := Aside0.mk (hi); clear HO_9; clear HB; clear HI157; have HO_9 := n0_; have HO184 := n1_; have HB := n2_; have HI157 := n3_; clear n0_ n1_ n2_ n3_; (try clear hb); (try clear hb2); (try clear hk); (try clear hi); (try clear ho0); obtain ⟨Ao63, co63, eo63⟩ := Kd.R_slice HO184.out; subst eo63; obtain ⟨Ao64, co64, eo64⟩ := Kd.R_slice HO_9.out; subst eo64) | (go_at_call 14; (with_reducible refine (hogsheadlaw0_SameNodes.calls kj26 _ _ t182 _ _ x9_1 true _ ?side1 ?side2 ?side3 ?side4 A55.out).mono ?_); (case side1 => repeat (first | exact (Kd.R_reads' HO184.out).2.2 | (with_reducible refine Kd.C_alloc ?_ _) | (with_reducible refine Kd.C_drewN ?_ _) | (with_reducible refine Kd.C_drew ?_))); (case side2 => exact (Kd.R_reads' HO184.out).2.1); (case side3 => repeat (first | exact (Kd.R_reads' HO_9.out).2.2 | (with_reducible refine Kd.C_alloc ?_ _) | (with_reducible refine Kd.C_drewN ?_ _) | (with_reducible refine Kd.C_drew ?_))); (case side4 => exact (Kd.R_reads' HO_9.out).2.1); rintro e w' ⟨rfl, ⟨nd, rfl⟩⟩) | (go_at_call 9; (with_reducible refine (hogsheadlaw2_awake.calls kj26  true _ A57.out).mono ?_); rintro e w65 ⟨rfl, hb⟩; have n0_ := Aside0.mk (Kd.R_below (by (with_reducible repeat (first | apply Kd.R_alloc | apply Kd.R_drewN | apply Kd.R_drew)); exact HO_9.out) hb); have n1_ := Aside0.mk (Kd.R_below (by (with_reducible repeat (first | apply Kd.R_alloc | apply Kd.R_drewN | apply Kd.R_drew)); exact HO184.out) hb); have n2_ := Aside0.mk (IsS32.below (by repeat (first | (with_reducible first | exact HI157.out | apply IsS32.alloc | apply IsS32.drewN | apply IsS32.drew | apply IsS32.set_0 | apply IsS32.set_1) | exact HI157.out)) hb); have n3_ := Aside0.mk (below_step (by repeat (first | (with_reducible first | exact HB.out | apply below_alloc | apply pw_below_drewN | apply below_drew1 | refine below_set ?_ (IsS32.ge HI157.out)) | exact HB.out)) hb); clear HO_9; clear HO184; clear HI157; clear HB; have HO_9 := n0_; have HO184 := n1_; have HI157 := n2_; have HB := n3_; clear n0_ n1_ n2_ n3_; (try clear hb); (try clear hb2); (try clear hk); (try clear hi)))
                  go_ret
                  exact ⟨by first | rfl | (simp [errW_none, errW_some] <;> rfl) | (simp [*, errW_none, errW_some] <;> rfl), by repeat (first | (with_reducible first | exact HB.out | apply below_alloc | apply pw_below_drewN | apply below_drew1 | refine below_set ?_ (IsS32.ge HI157.out)) | exact HB.out)⟩
                · replace c56 := Bool.eq_false_iff.mpr c56
                  subst c56
                  have H1 : (some false) = some true := by rw [if_neg (show ¬ (false = true) by decide)] at H; exact H
                  exact absurd H1 (by simp)
              · replace c53 := Bool.eq_false_iff.mpr c53
                subst c53
                have H1 : (some false) = some true := by rw [if_neg (show ¬ (false = true) by decide)] at H; exact H
                exact absurd H1 (by simp)
/-- The one plain statement of hogsheadlaw2_TreeFilters. -/
def hogsheadlaw2_TreeFilters.Pure : Prop := ∀ (l0 : List (S24)) (a1 : Int), (l0.length ≤ maxLen ∧ ∀ y1 ∈ l0, (y1.f0.size ≤ maxLen) ∧ ((Lit.int .i64 y1.f1).wf = true) ∧ (y1.f2.size ≤ maxLen)) → (Lit.int .i64 a1).wf = true → ∃ k, hogsheadlaw2_TreeFilters.f k l0 a1 = some true

end Go.Proofs.YtdclcekojmklnaaDoor.P
