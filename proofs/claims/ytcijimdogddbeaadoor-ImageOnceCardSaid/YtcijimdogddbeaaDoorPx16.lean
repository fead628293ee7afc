/- Laid by a program of this session (wip/pr), after the printer of the kit: the functions that a statement reaches as plain Lean functions, and that the calls of the machine come to them. No condition. -/
import Derived.Test.YtcijimdogddbeaaDoorPx0
import Derived.Test.YtcijimdogddbeaaDoorPx12
import Derived.Test.YtcijimdogddbeaaDoorPx15
namespace Go.Proofs.YtcijimdogddbeaaDoor.P
open Go.RowKit Go.Proofs.YtcijimdogddbeaaDoorX Go.Proofs.YtcijimdogddbeaaDoorW.PrintWords Go.Proofs.YtcijimdogddbeaaDoorW.PrintLast Go.Proofs.YtcijimdogddbeaaDoorW.PrintMore
attribute [local go_sem] max2_int min2_int max_two min_two
set_option linter.unusedVariables false
set_option linter.unusedSimpArgs false

/-! ### api_Node_71: function 71 -/
mutual
def api_Node_71.l0 : Nat → List (S46) → Int → Int → Int → Option ((List (S46)))
 | 0, _, _, _, _ => none
 | k + 1, x0, x1, x10, x11 => if x10 < x11 then (if 0 ≤ (wrap64 ((IntKind.u64.wrap (wrap64 (x10 + x11))) / 2)) then (if (wrap64 ((IntKind.u64.wrap (wrap64 (x10 + x11))) / 2)) < (x0.length : Int) then (if 0 ≤ x1 then (if x1 < (x0.length : Int) then ((tree_order.f ((rd_T46 x0 (wrap64 ((IntKind.u64.wrap (wrap64 (x10 + x11))) / 2))).f0) ((rd_T46 x0 (wrap64 ((IntKind.u64.wrap (wrap64 (x10 + x11))) / 2))).f1) ((rd_T46 x0 (wrap64 ((IntKind.u64.wrap (wrap64 (x10 + x11))) / 2))).f2) ((rd_T46 x0 x1).f0) ((rd_T46 x0 x1).f1) ((rd_T46 x0 x1).f2)).bind fun t308 => (if t308 < 0 then (api_Node_71.l0 k x0 x1 (wrap64 ((wrap64 ((IntKind.u64.wrap (wrap64 (x10 + x11))) / 2)) + 1)) x11) else (api_Node_71.l0 k x0 x1 x10 (wrap64 ((IntKind.u64.wrap (wrap64 (x10 + x11))) / 2))))) else (none)) else (none)) else (none)) else (none)) else (api_Node_71.l1 k x0 x10 x1)
def api_Node_71.l1 : Nat → List (S46) → Int → Int → Option ((List (S46)))
 | 0, _, _, _ => none
 | k + 1, x0, x10, x13 => if x13 < (wrap64 (x10 - 1)) then (if 0 ≤ (wrap64 (x13 + 1)) then (if (wrap64 (x13 + 1)) < (x0.length : Int) then (if 0 ≤ x13 then (if x13 < (x0.length : Int) then (api_Node_71.l1 k ((x0.set (x13 : Int).toNat (⟨(rd_T46 x0 (wrap64 (x13 + 1))).f0, (rd_T46 x0 (wrap64 (x13 + 1))).f1, (rd_T46 x0 (wrap64 (x13 + 1))).f2⟩ : S46)).set ((wrap64 (x13 + 1)) : Int).toNat (⟨(rd_T46 x0 x13).f0, (rd_T46 x0 x13).f1, (rd_T46 x0 x13).f2⟩ : S46)) x10 (wrap64 (x13 + 1))) else (none)) else (none)) else (none)) else (none)) else (some x0)
def api_Node_71.l2 : Nat → List (S46) → Int → Int → Int → Option ((List (S46)))
 | 0, _, _, _, _ => none
 | k + 1, x0, x2, x14, x15 => if x14 < x15 then (if 0 ≤ x2 then (if x2 < (x0.length : Int) then (if 0 ≤ (wrap64 ((IntKind.u64.wrap (wrap64 (x14 + x15))) / 2)) then (if (wrap64 ((IntKind.u64.wrap (wrap64 (x14 + x15))) / 2)) < (x0.length : Int) then ((tree_order.f ((rd_T46 x0 x2).f0) ((rd_T46 x0 x2).f1) ((rd_T46 x0 x2).f2) ((rd_T46 x0 (wrap64 ((IntKind.u64.wrap (wrap64 (x14 + x15))) / 2))).f0) ((rd_T46 x0 (wrap64 ((IntKind.u64.wrap (wrap64 (x14 + x15))) / 2))).f1) ((rd_T46 x0 (wrap64 ((IntKind.u64.wrap (wrap64 (x14 + x15))) / 2))).f2)).bind fun t315 => (if t315 < 0 then (api_Node_71.l2 k x0 x2 x14 (wrap64 ((IntKind.u64.wrap (wrap64 (x14 + x15))) / 2))) else (api_Node_71.l2 k x0 x2 (wrap64 ((wrap64 ((IntKind.u64.wrap (wrap64 (x14 + x15))) / 2)) + 1)) x15))) else (none)) else (none)) else (none)) else (none)) else (api_Node_71.l3 k x0 x14 x2)
def api_Node_71.l3 : Nat → List (S46) → Int → Int → Option ((List (S46)))
 | 0, _, _, _ => none
 | k + 1, x0, x14, x17 => if x17 > x14 then (if 0 ≤ (wrap64 (x17 - 1)) then (if (wrap64 (x17 - 1)) < (x0.length : Int) then (if 0 ≤ x17 then (if x17 < (x0.length : Int) then (api_Node_71.l3 k ((x0.set (x17 : Int).toNat (⟨(rd_T46 x0 (wrap64 (x17 - 1))).f0, (rd_T46 x0 (wrap64 (x17 - 1))).f1, (rd_T46 x0 (wrap64 (x17 - 1))).f2⟩ : S46)).set ((wrap64 (x17 - 1)) : Int).toNat (⟨(rd_T46 x0 x17).f0, (rd_T46 x0 x17).f1, (rd_T46 x0 x17).f2⟩ : S46)) x14 (wrap64 (x17 - 1))) else (none)) else (none)) else (none)) else (none)) else (some x0)
def api_Node_71.j4 : Nat → List (S46) → Int → Int → Int → Bool → Int → Int → Int → Int → Option ((List (S46)))
 | 0, _, _, _, _, _, _, _, _, _ => none
 | k + 1, x0, x1, x2, x3, x4, x18, x19, x20, x21 => api_Node_71.l4 k x0 x1 x2 x3 x4 x18 x19 x20 x21 (wrap64 (x19 - 1))
def api_Node_71.l4 : Nat → List (S46) → Int → Int → Int → Bool → Int → Int → Int → Int → Int → Option ((List (S46)))
 | 0, _, _, _, _, _, _, _, _, _, _ => none
 | k + 1, x0, x1, x2, x3, x4, x18, x19, x20, x21, x22 => if x20 < x21 then (if 0 ≤ (wrap64 (x22 - (wrap64 ((IntKind.u64.wrap (wrap64 (x20 + x21))) / 2)))) then (if (wrap64 (x22 - (wrap64 ((IntKind.u64.wrap (wrap64 (x20 + x21))) / 2)))) < (x0.length : Int) then (if 0 ≤ (wrap64 ((IntKind.u64.wrap (wrap64 (x20 + x21))) / 2)) then (if (wrap64 ((IntKind.u64.wrap (wrap64 (x20 + x21))) / 2)) < (x0.length : Int) then ((tree_order.f ((rd_T46 x0 (wrap64 (x22 - (wrap64 ((IntKind.u64.wrap (wrap64 (x20 + x21))) / 2))))).f0) ((rd_T46 x0 (wrap64 (x22 - (wrap64 ((IntKind.u64.wrap (wrap64 (x20 + x21))) / 2))))).f1) ((rd_T46 x0 (wrap64 (x22 - (wrap64 ((IntKind.u64.wrap (wrap64 (x20 + x21))) / 2))))).f2) ((rd_T46 x0 (wrap64 ((IntKind.u64.wrap (wrap64 (x20 + x21))) / 2))).f0) ((rd_T46 x0 (wrap64 ((IntKind.u64.wrap (wrap64 (x20 + x21))) / 2))).f1) ((rd_T46 x0 (wrap64 ((IntKind.u64.wrap (wrap64 (x20 + x21))) / 2))).f2)).bind fun t322 => (if t322 < 0 then (api_Node_71.l4 k x0 x1 x2 x3 x4 x18 x19 x20 (wrap64 ((IntKind.u64.wrap (wrap64 (x20 + x21))) / 2)) x22) else (api_Node_71.l4 k x0 x1 x2 x3 x4 x18 x19 (wrap64 ((wrap64 ((IntKind.u64.wrap (wrap64 (x20 + x21))) / 2)) + 1)) x21 x22))) else (none)) else (none)) else (none)) else (none)) else (if x20 < x2 then (api_Node_71.j6 k x0 x1 x2 x3 x4 x18 x20 (wrap64 (x19 - x20)) (decide (x2 < (wrap64 (x19 - x20))))) else (api_Node_71.j6 k x0 x1 x2 x3 x4 x18 x20 (wrap64 (x19 - x20)) false))
def api_Node_71.j6 : Nat → List (S46) → Int → Int → Int → Bool → Int → Int → Int → Bool → Option ((List (S46)))
 | 0, _, _, _, _, _, _, _, _, _ => none
 | k + 1, x0, x1, x2, x3, x4, x18, x20, x24, x185 => if x185 = true then ((api_Node_79.f k x0 x20 x2 x24 x4).bind fun t323 => (api_Node_71.j7 k t323 x1 x3 x4 x18 x20 x24)) else (api_Node_71.j7 k x0 x1 x3 x4 x18 x20 x24)
def api_Node_71.j7 : Nat → List (S46) → Int → Int → Bool → Int → Int → Int → Option ((List (S46)))
 | 0, _, _, _, _, _, _, _ => none
 | k + 1, x0, x1, x3, x4, x18, x20, x24 => if x1 < x20 then (api_Node_71.j8 k x0 x1 x3 x4 x18 x20 x24 (decide (x20 < x18))) else (api_Node_71.j8 k x0 x1 x3 x4 x18 x20 x24 false)
def api_Node_71.j8 : Nat → List (S46) → Int → Int → Bool → Int → Int → Int → Bool → Option ((List (S46)))
 | 0, _, _, _, _, _, _, _, _ => none
 | k + 1, x0, x1, x3, x4, x18, x20, x24, x199 => if x199 = true then ((api_Node_71.f k x0 x1 x20 x18 x4).bind fun t324 => (if x18 < x24 then (if x24 < x3 then ((api_Node_71.f k t324 x18 x24 x3 x4).bind fun t325 => (some t325)) else (some t324)) else (some t324))) else (if x18 < x24 then (if x24 < x3 then ((api_Node_71.f k x0 x18 x24 x3 x4).bind fun t326 => (some t326)) else (some x0)) else (some x0))
def api_Node_71.f : Nat → List (S46) → Int → Int → Int → Bool → Option ((List (S46)))
 | 0, _, _, _, _, _ => none
 | k + 1, l0, a1, a2, a3, a4 => if (wrap64 (a2 - a1)) = 1 then (api_Node_71.l0 k l0 a1 a2 a3) else (if (wrap64 (a3 - a2)) = 1 then (api_Node_71.l2 k l0 a2 a1 a2) else (if a2 > (wrap64 ((IntKind.u64.wrap (wrap64 (a1 + a3))) / 2)) then (api_Node_71.j4 k l0 a1 a2 a3 a4 (wrap64 ((IntKind.u64.wrap (wrap64 (a1 + a3))) / 2)) (wrap64 ((wrap64 ((IntKind.u64.wrap (wrap64 (a1 + a3))) / 2)) + a2)) (wrap64 ((wrap64 ((wrap64 ((IntKind.u64.wrap (wrap64 (a1 + a3))) / 2)) + a2)) - a3)) (wrap64 ((IntKind.u64.wrap (wrap64 (a1 + a3))) / 2))) else (api_Node_71.j4 k l0 a1 a2 a3 a4 (wrap64 ((IntKind.u64.wrap (wrap64 (a1 + a3))) / 2)) (wrap64 ((wrap64 ((IntKind.u64.wrap (wrap64 (a1 + a3))) / 2)) + a2)) a1 a2)))
end
theorem api_Node_71.mono_l : ∀ k, (∀ y0 y1 y2 y3 y4, LeO (api_Node_71.f k y0 y1 y2 y3 y4) (api_Node_71.f (k + 1) y0 y1 y2 y3 y4)) ∧ (∀ y0 y1 y2 y3, LeO (api_Node_71.l0 k y0 y1 y2 y3) (api_Node_71.l0 (k + 1) y0 y1 y2 y3)) ∧ (∀ y0 y1 y2, LeO (api_Node_71.l1 k y0 y1 y2) (api_Node_71.l1 (k + 1) y0 y1 y2)) ∧ (∀ y0 y1 y2 y3, LeO (api_Node_71.l2 k y0 y1 y2 y3) (api_Node_71.l2 (k + 1) y0 y1 y2 y3)) ∧ (∀ y0 y1 y2, LeO (api_Node_71.l3 k y0 y1 y2) (api_Node_71.l3 (k + 1) y0 y1 y2)) ∧ (∀ y0 y1 y2 y3 y4 y5 y6 y7 y8, LeO (api_Node_71.j4 k y0 y1 y2 y3 y4 y5 y6 y7 y8) (api_Node_71.j4 (k + 1) y0 y1 y2 y3 y4 y5 y6 y7 y8)) ∧ (∀ y0 y1 y2 y3 y4 y5 y6 y7 y8 y9, LeO (api_Node_71.l4 k y0 y1 y2 y3 y4 y5 y6 y7 y8 y9) (api_Node_71.l4 (k + 1) y0 y1 y2 y3 y4 y5 y6 y7 y8 y9)) ∧ (∀ y0 y1 y2 y3 y4 y5 y6 y7 y8, LeO (api_Node_71.j6 k y0 y1 y2 y3 y4 y5 y6 y7 y8) (api_Node_71.j6 (k + 1) y0 y1 y2 y3 y4 y5 y6 y7 y8)) ∧ (∀ y0 y1 y2 y3 y4 y5 y6, LeO (api_Node_71.j7 k y0 y1 y2 y3 y4 y5 y6) (api_Node_71.j7 (k + 1) y0 y1 y2 y3 y4 y5 y6)) ∧ (∀ y0 y1 y2 y3 y4 y5 y6 y7, LeO (api_Node_71.j8 k y0 y1 y2 y3 y4 y5 y6 y7) (api_Node_71.j8 (k + 1) y0 y1 y2 y3 y4 y5 y6 y7))
 | 0 => ⟨fun _ _ _ _ _ r h => by simp [api_Node_71.f] at h, fun _ _ _ _ r h => by simp [api_Node_71.l0] at h, fun _ _ _ r h => by simp [api_Node_71.l1] at h, fun _ _ _ _ r h => by simp [api_Node_71.l2] at h, fun _ _ _ r h => by simp [api_Node_71.l3] at h, fun _ _ _ _ _ _ _ _ _ r h => by simp [api_Node_71.j4] at h, fun _ _ _ _ _ _ _ _ _ _ r h => by simp [api_Node_71.l4] at h, fun _ _ _ _ _ _ _ _ _ r h => by simp [api_Node_71.j6] at h, fun _ _ _ _ _ _ _ r h => by simp [api_Node_71.j7] at h, fun _ _ _ _ _ _ _ _ r h => by simp [api_Node_71.j8] at h⟩
 | k + 1 => by
  obtain ⟨ih0, ih1, ih2, ih3, ih4, ih5, ih6, ih7, ih8, ih9⟩ := api_Node_71.mono_l k; refine ⟨?_, ?_, ?_, ?_, ?_, ?_, ?_, ?_, ?_, ?_⟩
  ·intro y0 y1 y2 y3 y4
   unfold api_Node_71.f
   repeat' with_reducible first | exact ih0 _ _ _ _ _ | exact ih1 _ _ _ _ | exact ih2 _ _ _ | exact ih3 _ _ _ _ | exact ih4 _ _ _ | exact ih5 _ _ _ _ _ _ _ _ _ | exact ih6 _ _ _ _ _ _ _ _ _ _ | exact ih7 _ _ _ _ _ _ _ _ _ | exact ih8 _ _ _ _ _ _ _ | exact ih9 _ _ _ _ _ _ _ _ | exact api_Node_79.mono _ _ _ _ _ _ | exact LeO.refl _ | exact LeO.none _ | refine LeO.ite ?_ ?_ | refine LeO.bind ?_ (fun _ => ?_)
  ·intro y0 y1 y2 y3
   unfold api_Node_71.l0
   repeat' with_reducible first | exact ih0 _ _ _ _ _ | exact ih1 _ _ _ _ | exact ih2 _ _ _ | exact ih3 _ _ _ _ | exact ih4 _ _ _ | exact ih5 _ _ _ _ _ _ _ _ _ | exact ih6 _ _ _ _ _ _ _ _ _ _ | exact ih7 _ _ _ _ _ _ _ _ _ | exact ih8 _ _ _ _ _ _ _ | exact ih9 _ _ _ _ _ _ _ _ | exact api_Node_79.mono _ _ _ _ _ _ | exact LeO.refl _ | exact LeO.none _ | refine LeO.ite ?_ ?_ | refine LeO.bind ?_ (fun _ => ?_)
  ·intro y0 y1 y2
   unfold api_Node_71.l1
   repeat' with_reducible first | exact ih0 _ _ _ _ _ | exact ih1 _ _ _ _ | exact ih2 _ _ _ | exact ih3 _ _ _ _ | exact ih4 _ _ _ | exact ih5 _ _ _ _ _ _ _ _ _ | exact ih6 _ _ _ _ _ _ _ _ _ _ | exact ih7 _ _ _ _ _ _ _ _ _ | exact ih8 _ _ _ _ _ _ _ | exact ih9 _ _ _ _ _ _ _ _ | exact api_Node_79.mono _ _ _ _ _ _ | exact LeO.refl _ | exact LeO.none _ | refine LeO.ite ?_ ?_ | refine LeO.bind ?_ (fun _ => ?_)
  ·intro y0 y1 y2 y3
   unfold api_Node_71.l2
   repeat' with_reducible first | exact ih0 _ _ _ _ _ | exact ih1 _ _ _ _ | exact ih2 _ _ _ | exact ih3 _ _ _ _ | exact ih4 _ _ _ | exact ih5 _ _ _ _ _ _ _ _ _ | exact ih6 _ _ _ _ _ _ _ _ _ _ | exact ih7 _ _ _ _ _ _ _ _ _ | exact ih8 _ _ _ _ _ _ _ | exact ih9 _ _ _ _ _ _ _ _ | exact api_Node_79.mono _ _ _ _ _ _ | exact LeO.refl _ | exact LeO.none _ | refine LeO.ite ?_ ?_ | refine LeO.bind ?_ (fun _ => ?_)
  ·intro y0 y1 y2
   unfold api_Node_71.l3
   repeat' with_reducible first | exact ih0 _ _ _ _ _ | exact ih1 _ _ _ _ | exact ih2 _ _ _ | exact ih3 _ _ _ _ | exact ih4 _ _ _ | exact ih5 _ _ _ _ _ _ _ _ _ | exact ih6 _ _ _ _ _ _ _ _ _ _ | exact ih7 _ _ _ _ _ _ _ _ _ | exact ih8 _ _ _ _ _ _ _ | exact ih9 _ _ _ _ _ _ _ _ | exact api_Node_79.mono _ _ _ _ _ _ | exact LeO.refl _ | exact LeO.none _ | refine LeO.ite ?_ ?_ | refine LeO.bind ?_ (fun _ => ?_)
  ·intro y0 y1 y2 y3 y4 y5 y6 y7 y8
   unfold api_Node_71.j4
   repeat' with_reducible first | exact ih0 _ _ _ _ _ | exact ih1 _ _ _ _ | exact ih2 _ _ _ | exact ih3 _ _ _ _ | exact ih4 _ _ _ | exact ih5 _ _ _ _ _ _ _ _ _ | exact ih6 _ _ _ _ _ _ _ _ _ _ | exact ih7 _ _ _ _ _ _ _ _ _ | exact ih8 _ _ _ _ _ _ _ | exact ih9 _ _ _ _ _ _ _ _ | exact api_Node_79.mono _ _ _ _ _ _ | exact LeO.refl _ | exact LeO.none _ | refine LeO.ite ?_ ?_ | refine LeO.bind ?_ (fun _ => ?_)
  ·intro y0 y1 y2 y3 y4 y5 y6 y7 y8 y9
   unfold api_Node_71.l4
   repeat' with_reducible first | exact ih0 _ _ _ _ _ | exact ih1 _ _ _ _ | exact ih2 _ _ _ | exact ih3 _ _ _ _ | exact ih4 _ _ _ | exact ih5 _ _ _ _ _ _ _ _ _ | exact ih6 _ _ _ _ _ _ _ _ _ _ | exact ih7 _ _ _ _ _ _ _ _ _ | exact ih8 _ _ _ _ _ _ _ | exact ih9 _ _ _ _ _ _ _ _ | exact api_Node_79.mono _ _ _ _ _ _ | exact LeO.refl _ | exact LeO.none _ | refine LeO.ite ?_ ?_ | refine LeO.bind ?_ (fun _ => ?_)
  ·intro y0 y1 y2 y3 y4 y5 y6 y7 y8
   unfold api_Node_71.j6
   repeat' with_reducible first | exact ih0 _ _ _ _ _ | exact ih1 _ _ _ _ | exact ih2 _ _ _ | exact ih3 _ _ _ _ | exact ih4 _ _ _ | exact ih5 _ _ _ _ _ _ _ _ _ | exact ih6 _ _ _ _ _ _ _ _ _ _ | exact ih7 _ _ _ _ _ _ _ _ _ | exact ih8 _ _ _ _ _ _ _ | exact ih9 _ _ _ _ _ _ _ _ | exact api_Node_79.mono _ _ _ _ _ _ | exact LeO.refl _ | exact LeO.none _ | refine LeO.ite ?_ ?_ | refine LeO.bind ?_ (fun _ => ?_)
  ·intro y0 y1 y2 y3 y4 y5 y6
   unfold api_Node_71.j7
   repeat' with_reducible first | exact ih0 _ _ _ _ _ | exact ih1 _ _ _ _ | exact ih2 _ _ _ | exact ih3 _ _ _ _ | exact ih4 _ _ _ | exact ih5 _ _ _ _ _ _ _ _ _ | exact ih6 _ _ _ _ _ _ _ _ _ _ | exact ih7 _ _ _ _ _ _ _ _ _ | exact ih8 _ _ _ _ _ _ _ | exact ih9 _ _ _ _ _ _ _ _ | exact api_Node_79.mono _ _ _ _ _ _ | exact LeO.refl _ | exact LeO.none _ | refine LeO.ite ?_ ?_ | refine LeO.bind ?_ (fun _ => ?_)
  ·intro y0 y1 y2 y3 y4 y5 y6 y7
   unfold api_Node_71.j8
   repeat' with_reducible first | exact ih0 _ _ _ _ _ | exact ih1 _ _ _ _ | exact ih2 _ _ _ | exact ih3 _ _ _ _ | exact ih4 _ _ _ | exact ih5 _ _ _ _ _ _ _ _ _ | exact ih6 _ _ _ _ _ _ _ _ _ _ | exact ih7 _ _ _ _ _ _ _ _ _ | exact ih8 _ _ _ _ _ _ _ | exact ih9 _ _ _ _ _ _ _ _ | exact api_Node_79.mono _ _ _ _ _ _ | exact LeO.refl _ | exact LeO.none _ | refine LeO.ite ?_ ?_ | refine LeO.bind ?_ (fun _ => ?_)
theorem api_Node_71.mono : ∀ a0 a1 a2 a3 a4 k, LeO (api_Node_71.f k a0 a1 a2 a3 a4) (api_Node_71.f (k + 1) a0 a1 a2 a3 a4) := by
 intro a0 a1 a2 a3 a4 k; obtain ⟨ih0, ih1, ih2, ih3, ih4, ih5, ih6, ih7, ih8, ih9⟩ := api_Node_71.mono_l k; exact ih0 a0 a1 a2 a3 a4
def api_Node_71.T5 : Bool × List (List Nat × List Nat) := (true, [([], []), ([], []), ([], []), ([1, 2], [1, 2]), ([3], [3]), ([], []), ([], []), ([5, 6], [5, 6]), ([7], [7]), ([0, 4, 8], [0, 4, 8]), ([9], [9])])
def api_Node_71.B5 : List Nat := [0, 0, 0, 6, 14, 0, 0, 96, 224, 511, 1023]
theorem api_Node_71.tab5 : rtab .any (opsOf Tryd.f71 5) = api_Node_71.T5 := by kernel_rfl
theorem api_Node_71.bits5 : waitsOk api_Node_71.T5.2 api_Node_71.B5 = true := by kernel_rfl
def api_Node_71.T11 : Bool × List (List Nat × List Nat) := (true, [([], []), ([], []), ([], []), ([], []), ([3], [3]), ([], []), ([], []), ([6], [6]), ([5, 7], [5, 7]), ([8], [8]), ([], []), ([], []), ([10, 11], [10, 11]), ([12], [12]), ([0, 1, 0, 1, 5, 6, 7, 8, 9, 13], [0, 1]), ([14, 9, 0, 1, 5, 6, 7, 8, 9, 13], [9, 14]), ([2, 4, 0, 1, 2, 3, 4, 5, 6, 7, 8, 9, 10, 11, 12, 13, 14, 15], [2, 4]), ([16, 13, 15, 0, 1, 2, 3, 4, 5, 6, 7, 8, 9, 10, 11, 12, 13, 14, 15], [13, 16])])
def api_Node_71.B11 : List Nat := [0, 0, 0, 0, 8, 0, 0, 64, 224, 480, 0, 0, 3072, 7168, 16355, 32739, 65535, 131071]
theorem api_Node_71.tab11 : rtab .any (opsOf Tryd.f71 11) = api_Node_71.T11 := by kernel_rfl
theorem api_Node_71.bits11 : waitsOk api_Node_71.T11.2 api_Node_71.B11 = true := by kernel_rfl
def api_Node_71.T17 : Bool × List (List Nat × List Nat) := (true, [([], []), ([], []), ([], []), ([1, 2], [1, 2]), ([3], [3]), ([], []), ([], []), ([5, 6], [5, 6]), ([7], [7]), ([0, 4, 8], [0, 4, 8]), ([9], [9]), ([10], [10])])
def api_Node_71.B17 : List Nat := [0, 0, 0, 6, 14, 0, 0, 96, 224, 511, 1023, 2047]
theorem api_Node_71.tab17 : rtab .any (opsOf Tryd.f71 17) = api_Node_71.T17 := by kernel_rfl
theorem api_Node_71.bits17 : waitsOk api_Node_71.T17.2 api_Node_71.B17 = true := by kernel_rfl
def api_Node_71.T23 : Bool × List (List Nat × List Nat) := (true, [([], []), ([], []), ([], []), ([], []), ([3], [3]), ([], []), ([], []), ([6], [6]), ([5, 7], [5, 7]), ([8], [8]), ([], []), ([], []), ([10, 11], [10, 11]), ([12], [12]), ([0, 1, 0, 1, 5, 6, 7, 8, 9, 13], [0, 1]), ([14, 9, 0, 1, 5, 6, 7, 8, 9, 13], [9, 14]), ([2, 4, 0, 1, 2, 3, 4, 5, 6, 7, 8, 9, 10, 11, 12, 13, 14, 15], [2, 4]), ([16, 13, 15, 0, 1, 2, 3, 4, 5, 6, 7, 8, 9, 10, 11, 12, 13, 14, 15], [13, 16])])
def api_Node_71.B23 : List Nat := [0, 0, 0, 0, 8, 0, 0, 64, 224, 480, 0, 0, 3072, 7168, 16355, 32739, 65535, 131071]
theorem api_Node_71.tab23 : rtab .any (opsOf Tryd.f71 23) = api_Node_71.T23 := by kernel_rfl
theorem api_Node_71.bits23 : waitsOk api_Node_71.T23.2 api_Node_71.B23 = true := by kernel_rfl
def api_Node_71.T35 : Bool × List (List Nat × List Nat) := (true, [([], []), ([], []), ([], []), ([], []), ([2, 3], [2, 3]), ([1, 4], [1, 4]), ([5], [5]), ([], []), ([], []), ([7, 8], [7, 8]), ([9], [9]), ([0, 6, 10], [0, 6, 10]), ([11], [11]), ([12], [12])])
def api_Node_71.B35 : List Nat := [0, 0, 0, 0, 12, 30, 62, 0, 0, 384, 896, 2047, 4095, 8191]
theorem api_Node_71.tab35 : rtab .any (opsOf Tryd.f71 35) = api_Node_71.T35 := by kernel_rfl
theorem api_Node_71.bits35 : waitsOk api_Node_71.T35.2 api_Node_71.B35 = true := by kernel_rfl
set_option maxHeartbeats 8000000 in
set_option maxRecDepth 100000 in
theorem api_Node_71.calls_A (k : Nat) (ih : ∀ m, m < k + 1 → ∀ (P0_ : Nat → Prop) (u9000_ : Value) (l0 : List (S46)) (a1 : Int) (a2 : Int) (a3 : Int) (a4 : Bool) (r : List (S46)) (w0 w : World) (hB : Below w0.heap.size w0 w) (ho0 : Kd.R k46 46 w w0.heap.size P0_ u9000_ l0) (h : api_Node_71.f m l0 a1 a2 a3 a4 = some r),
  Calls Tryd.prog 71 #[u9000_, .int .i64 a1, .int .i64 a2, .int .i64 a3, .func (.func 41) #[] #[]] w fun e w' => e = .returned (.tuple #[]) ∧ Kd.R k46 46 w' w0.heap.size (fun k_ => (P0_ k_ ∨ w.heap.size ≤ k_)) u9000_ r ∧ Below w0.heap.size w0 w' ∧ Kept w w' (fun k_ => P0_ k_)) (P0_ : Nat → Prop) (u9000_ : Value) (l0 : List (S46)) (a1 : Int) (a2 : Int) (a3 : Int) (a4 : Bool) (r : List (S46)) (w0 w : World) (hB : Below w0.heap.size w0 w) (ho0 : Kd.R k46 46 w w0.heap.size P0_ u9000_ l0) (h : api_Node_71.f (k + 1) l0 a1 a2 a3 a4 = some r) (hc : (wrap64 (a2 - a1)) = 1) :
  Calls Tryd.prog 71 #[u9000_, .int .i64 a1, .int .i64 a2, .int .i64 a3, .func (.func 41) #[] #[]] w fun e w' => e = .returned (.tuple #[]) ∧ Kd.R k46 46 w' w0.heap.size (fun k_ => (P0_ k_ ∨ w.heap.size ≤ k_)) u9000_ r ∧ Below w0.heap.size w0 w' ∧ Kept w w' (fun k_ => P0_ k_) := by
 simp only [api_Node_71.f] at h
 have hu46 := Tryd.underlying46; have HO0 := am (show Kd.R k46 46 w w0.heap.size (fun k_ => (P0_ k_ ∨ w.heap.size ≤ k_)) u9000_ l0 from Kd.R_mono ho0 (fun k_ hk => (.inl hk))); have HK := am (Kept.refl w (fun k_ => P0_ k_)); have HW0 := am hB.size; have HB := am hB; clear hB; have H : (if (wrap64 (a2 - a1)) = 1 then (api_Node_71.l0 k l0 a1 a2 a3) else (if (wrap64 (a3 - a2)) = 1 then (api_Node_71.l2 k l0 a2 a1 a2) else (if a2 > (wrap64 ((IntKind.u64.wrap (wrap64 (a1 + a3))) / 2)) then (api_Node_71.j4 k l0 a1 a2 a3 a4 (wrap64 ((IntKind.u64.wrap (wrap64 (a1 + a3))) / 2)) (wrap64 ((wrap64 ((IntKind.u64.wrap (wrap64 (a1 + a3))) / 2)) + a2)) (wrap64 ((wrap64 ((wrap64 ((IntKind.u64.wrap (wrap64 (a1 + a3))) / 2)) + a2)) - a3)) (wrap64 ((IntKind.u64.wrap (wrap64 (a1 + a3))) / 2))) else (api_Node_71.j4 k l0 a1 a2 a3 a4 (wrap64 ((IntKind.u64.wrap (wrap64 (a1 + a3))) / 2)) (wrap64 ((wrap64 ((IntKind.u64.wrap (wrap64 (a1 + a3))) / 2)) + a2)) a1 a2)))) = some r := h; clear h; by_cases c6 : (wrap64 (a2 - a1)) = 1
 ·rw [if_pos c6] at H
  clear hc; have c6b0 : ((wrap64 (a2 - a1)) == 1) = true := beq_iff_eq.mpr c6; have c6b1 : ((wrap64 (a2 - a1)) != 1) = false := bne_eq_false_iff_eq.mpr c6; clear c6; have H' := am H; clear H; go_enter Tryd.func71, Tryd.ntmps71; go_wp2
  go_loopg [10, 11] k (fun kq v10 v11 w' => ∃ (x10_1 : Int) (x11_1 : Int), v10 = .int .i64 x10_1 ∧ v11 = .int .i64 x11_1 ∧ Aside0 (api_Node_71.l0 kq l0 a1 x10_1 x11_1 = some r) ∧ Aside0 (kq ≤ k) ∧ Aside0 (Kd.R k46 46 w' w0.heap.size (fun k_ => (P0_ k_ ∨ w.heap.size ≤ k_)) u9000_ l0) ∧ Aside0 (Kept w w' (fun k_ => P0_ k_)) ∧ Aside0 (Below w0.heap.size w0 w'))
  case atStart => exact ⟨(a2), (a3), (by first | rfl | (simp; done) | (simp [*]; done)), (by first | rfl | (simp; done) | (simp [*]; done)), H', ⟨Nat.le_refl _⟩, ⟨rz HO0.out⟩, ⟨kz⟩, ⟨bz⟩⟩
  case round =>
   clear H'; (try clear p2); (try clear c6); (try clear c6b0); (try clear c6b1); (try clear p6); obtain ⟨x10_1, x11_1, rfl, rfl, HA, HK1, HO_0, HK, HB⟩ := hrel; cases gk with
   | zero => exact absurd HA.out (by simp [api_Node_71.l0])
   | succ k1 =>
    have H := HA.out; clear HA; simp only [api_Node_71.l0] at H
    by_cases c7 : x10_1 < x11_1
    ·rw [if_pos c7] at H
     have c7b0 : decide (x10_1 < x11_1) = true := decide_eq_true c7; clear c7; obtain ⟨ji8, hji8⟩ : ∃ j_ : Int, (wrap64 ((IntKind.u64.wrap (wrap64 (x10_1 + x11_1))) / 2)) = j_ := ⟨_, rfl⟩; replace H : (if 0 ≤ (ji8) then (if (ji8) < (l0.length : Int) then (if 0 ≤ a1 then (if a1 < (l0.length : Int) then ((tree_order.f ((rd_T46 l0 (ji8)).f0) ((rd_T46 l0 (ji8)).f1) ((rd_T46 l0 (ji8)).f2) ((rd_T46 l0 a1).f0) ((rd_T46 l0 a1).f1) ((rd_T46 l0 a1).f2)).bind fun t308 => (if t308 < 0 then (api_Node_71.l0 k1 l0 a1 (wrap64 ((ji8) + 1)) x11_1) else (api_Node_71.l0 k1 l0 a1 x10_1 ji8))) else (none)) else (none)) else (none)) else (none)) = some r := by first | (rw [hji8] at H; exact H) | (simp only [hji8] at H ⊢; exact H)
     have hji8w : (IntKind.i64.wrap ((IntKind.u64.wrap (wrap64 (x10_1 + x11_1))) / 2)) = ji8 := (i64_w _).trans hji8; by_cases c9 : 0 ≤ (ji8)
     ·rw [if_pos c9] at H
      have c9b0 : decide (0 ≤ (ji8)) = true := decide_eq_true c9; clear c9; by_cases c10 : (ji8) < (l0.length : Int)
      ·rw [if_pos c10] at H
       have c10b0 : decide ((ji8) < (l0.length : Int)) = true := decide_eq_true c10; clear c10; by_cases c11 : 0 ≤ a1
       ·rw [if_pos c11] at H
        have c11b0 : decide (0 ≤ a1) = true := decide_eq_true c11; clear c11; by_cases c12 : a1 < (l0.length : Int)
        ·rw [if_pos c12] at H
         have c12b0 : decide (a1 < (l0.length : Int)) = true := decide_eq_true c12; clear c12; refine oR H ?_; clear H; intro t308 A13 H; by_cases c14 : t308 < 0
         ·rw [if_pos c14] at H
          have c14b0 : decide (t308 < 0) = true := decide_eq_true c14; clear c14; have H' := am H; clear H; try go_wp2
          replace HO_0 := am (rD HO_0.out); replace HK := am (Kept.drew HK.out); replace HB := am (bO HB.out); obtain ⟨Ao16, co16, eo16⟩ := Kd.R_slice HO_0.out; (first | subst eo16 | (injection eo16 with f1_ f2_ f3_; have f4_ := f1_.symm; have f5_ := f3_.symm; clear f1_ f2_ f3_; subst f4_; subst f5_))
          have p306 : 0 ≤ ((ji8) : Int) := of_decide_eq_true (by assumption); have q306 : (ji8) < (l0.length : Int) := of_decide_eq_true (by assumption); obtain ⟨ad306, e306, hx306_0, hx306_1, hx306_2⟩ := at_T46 (Kd.R_reads' HO_0.out).2.2 (ji8) p306 q306; cases e306; replace p306 := eq_true p306; replace q306 := eq_true q306; have p307 : 0 ≤ (a1 : Int) := of_decide_eq_true (by assumption); have q307 : a1 < (l0.length : Int) := of_decide_eq_true (by assumption); obtain ⟨ad307, e307, hx307_0, hx307_1, hx307_2⟩ := at_T46 (Kd.R_reads' HO_0.out).2.2 a1 p307 q307; obtain rfl : ad306 = ad307 := (by injection e307); replace p307 := eq_true p307; replace q307 := eq_true q307; refine start_ (n := 11) (S := fun w' => w'.cell? (ad306.add (((ji8)).toNat * 3)) = some (.string ((rd_T46 l0 (ji8)).f0)) ∧ w'.cell? ⟨(ad306.add (((ji8)).toNat * 3)).block, (ad306.add (((ji8)).toNat * 3)).off + 1, none⟩ = some (.int .i64 ((rd_T46 l0 (ji8)).f1)) ∧ w'.cell? ⟨(ad306.add (((ji8)).toNat * 3)).block, (ad306.add (((ji8)).toNat * 3)).off + 2, none⟩ = some (.string ((rd_T46 l0 (ji8)).f2)) ∧ w'.cell? (ad306.add ((a1).toNat * 3)) = some (.string ((rd_T46 l0 a1).f0)) ∧ w'.cell? ⟨(ad306.add ((a1).toNat * 3)).block, (ad306.add ((a1).toNat * 3)).off + 1, none⟩ = some (.int .i64 ((rd_T46 l0 a1).f1)) ∧ w'.cell? ⟨(ad306.add ((a1).toNat * 3)).block, (ad306.add ((a1).toNat * 3)).off + 2, none⟩ = some (.string ((rd_T46 l0 a1).f2))) (ds := []) #[fF,fF,fF,fF,fF,fF,fF,fF,fF,fF,fF] (by kernel_rfl) rfl rfl ⟨hx306_0, hx306_1, hx306_2, hx307_0, hx307_1, hx307_2⟩ (fun hHeld => ?_); refine with_tabW api_Node_71.tab5 api_Node_71.bits5 (fun HT_ HW_ => ?_)
          generalize wr.drew = w15 at HO_0 HK HB hx306_0 hx306_1 hx306_2 hx307_0 hx307_1 hx307_2 hHeld ⊢
          refine pu 0 (some 40) ?_
          refine pu 1 (some 41) ?_
          refine pu 2 (some 42) ?_
          refine pu 3 (some 43) ?_
          refine pu 5 (some 45) ?_
          refine pu 6 (some 46) ?_
          refine pu 7 (some 47) ?_
          refine take_ (i := 4) (N := some 44) (v := ?_) (a' := ?_) #[tT,tT,tT,tT,tT,tT,tT,tT,fF,fF,fF] rfl rfl (take_ofW HT_.out HW_.out (by kernel_rfl)) (fun _ _ _ h => h) (Or.inl ⟨by rfl, ?_⟩) hHeld ?_ ?_
          rotate_left
          ·rintro w' ⟨s0, s1, s2, s3, s4, s5⟩
           go_simp
           with_reducible rfl
          rotate_left
          ·simp only [Act.put, sA, sB, sC, i64_w, i32_w]
           rfl
          refine take_ (i := 8) (N := some 48) (v := ?_) (a' := ?_) #[tT,tT,tT,tT,tT,tT,tT,tT,tT,fF,fF] rfl rfl (take_ofW HT_.out HW_.out (by kernel_rfl)) (fun _ _ _ h => h) (Or.inl ⟨by rfl, ?_⟩) hHeld ?_ ?_
          rotate_left
          ·rintro w' ⟨s0, s1, s2, s3, s4, s5⟩
           go_simp
           with_reducible rfl
          rotate_left
          ·simp only [Act.put, sA, sB, sC, i64_w, i32_w]
           rfl
          refine one_ (i := 9) (N := some 49) #[tT,tT,tT,tT,tT,tT,tT,tT,tT,tT,fF] rfl rfl (one_of HT_.out (by kernel_rfl)) (by decide) (fun K hK => ?_)
          refine goesF_ Tryd.func41 (by kernel_rfl) rfl #[.agg #[.string ((rd_T46 l0 (ji8)).f0), .int .i64 ((rd_T46 l0 (ji8)).f1), .string ((rd_T46 l0 (ji8)).f2)], .agg #[.string ((rd_T46 l0 a1).f0), .int .i64 ((rd_T46 l0 a1).f1), .string ((rd_T46 l0 a1).f2)]] (by rfl) rfl rfl (by rfl) (by (try simp only [mT, mC, mN]); first | done | (simp only [hji8]; rfl) | rfl | (simp only [lD, lT]; rfl)) ?_
          with_reducible refine (tree_order.calls ((rd_T46 l0 (ji8)).f0) ((rd_T46 l0 (ji8)).f1) ((rd_T46 l0 (ji8)).f2) ((rd_T46 l0 a1).f0) ((rd_T46 l0 a1).f1) ((rd_T46 l0 a1).f2) t308 _ A13.out).mono ?_
          rintro e w17 ⟨rfl, hb⟩; have HS0_ := (hb.cell (wB _ _ (hHeld.1))).trans (hHeld.1); have HS1_ := (hb.cell (wB _ _ (hHeld.2.1))).trans (hHeld.2.1); have HS2_ := (hb.cell (wB _ _ (hHeld.2.2.1))).trans (hHeld.2.2.1); have HS3_ := (hb.cell (wB _ _ (hHeld.2.2.2.1))).trans (hHeld.2.2.2.1); have HS4_ := (hb.cell (wB _ _ (hHeld.2.2.2.2.1))).trans (hHeld.2.2.2.2.1); have HS5_ := (hb.cell (wB _ _ (hHeld.2.2.2.2.2))).trans (hHeld.2.2.2.2.2); refine ⟨_, rfl, ?_⟩
          replace HO_0 := am (Kd.R_below (rz HO_0.out) hb); replace HK := am (Kept.below (S := (fun k_ => P0_ k_)) kz hb); replace HB := bs hb; refine hK.out _ _ ⟨HS0_, HS1_, HS2_, HS3_, HS4_, HS5_⟩ (fun hHeld => ?_)
          clear hK K; refine norm_ (a' := ?_) ?_ ?_
          rotate_left
          ·show Act.put _ (some 49) _ = _
           simp only [Act.put, sA, sB, sC, i64_w, i32_w]
           rfl
          refine pu 10 (some 50) ?_
          refine done_ (done_of HT_.out (by kernel_rfl)) ?_
          try go_wp2
          go_roundg k1
          case measure => have := HK1.out; omega
          case rel => exact ⟨(wrap64 ((ji8) + 1)), (x11_1), (by first | rfl | (simp; done) | (simp only [← hji8] <;> (first | rfl | simp)) | (simp [*]; done)), (by first | rfl | (simp; done) | (simp [*]; done)), H', ⟨by have := HK1.out; omega⟩, ⟨rz HO_0.out⟩, ⟨kz⟩, ⟨bz⟩⟩
         ·rw [if_neg c14] at H
          have c14b0 : decide (t308 < 0) = false := decide_eq_false c14; clear c14; have H' := am H; clear H; try go_wp2
          replace HO_0 := am (rD HO_0.out); replace HK := am (Kept.drew HK.out); replace HB := am (bO HB.out); obtain ⟨Ao19, co19, eo19⟩ := Kd.R_slice HO_0.out; (first | subst eo19 | (injection eo19 with f1_ f2_ f3_; have f4_ := f1_.symm; have f5_ := f3_.symm; clear f1_ f2_ f3_; subst f4_; subst f5_))
          have p306 : 0 ≤ ((ji8) : Int) := of_decide_eq_true (by assumption); have q306 : (ji8) < (l0.length : Int) := of_decide_eq_true (by assumption); obtain ⟨ad306, e306, hx306_0, hx306_1, hx306_2⟩ := at_T46 (Kd.R_reads' HO_0.out).2.2 (ji8) p306 q306; cases e306; replace p306 := eq_true p306; replace q306 := eq_true q306; have p307 : 0 ≤ (a1 : Int) := of_decide_eq_true (by assumption); have q307 : a1 < (l0.length : Int) := of_decide_eq_true (by assumption); obtain ⟨ad307, e307, hx307_0, hx307_1, hx307_2⟩ := at_T46 (Kd.R_reads' HO_0.out).2.2 a1 p307 q307; obtain rfl : ad306 = ad307 := (by injection e307); replace p307 := eq_true p307; replace q307 := eq_true q307; refine start_ (n := 11) (S := fun w' => w'.cell? (ad306.add (((ji8)).toNat * 3)) = some (.string ((rd_T46 l0 (ji8)).f0)) ∧ w'.cell? ⟨(ad306.add (((ji8)).toNat * 3)).block, (ad306.add (((ji8)).toNat * 3)).off + 1, none⟩ = some (.int .i64 ((rd_T46 l0 (ji8)).f1)) ∧ w'.cell? ⟨(ad306.add (((ji8)).toNat * 3)).block, (ad306.add (((ji8)).toNat * 3)).off + 2, none⟩ = some (.string ((rd_T46 l0 (ji8)).f2)) ∧ w'.cell? (ad306.add ((a1).toNat * 3)) = some (.string ((rd_T46 l0 a1).f0)) ∧ w'.cell? ⟨(ad306.add ((a1).toNat * 3)).block, (ad306.add ((a1).toNat * 3)).off + 1, none⟩ = some (.int .i64 ((rd_T46 l0 a1).f1)) ∧ w'.cell? ⟨(ad306.add ((a1).toNat * 3)).block, (ad306.add ((a1).toNat * 3)).off + 2, none⟩ = some (.string ((rd_T46 l0 a1).f2))) (ds := []) #[fF,fF,fF,fF,fF,fF,fF,fF,fF,fF,fF] (by kernel_rfl) rfl rfl ⟨hx306_0, hx306_1, hx306_2, hx307_0, hx307_1, hx307_2⟩ (fun hHeld => ?_); refine with_tabW api_Node_71.tab5 api_Node_71.bits5 (fun HT_ HW_ => ?_)
          generalize wr.drew = w18 at HO_0 HK HB hx306_0 hx306_1 hx306_2 hx307_0 hx307_1 hx307_2 hHeld ⊢
          refine pu 0 (some 40) ?_
          refine pu 1 (some 41) ?_
          refine pu 2 (some 42) ?_
          refine pu 3 (some 43) ?_
          refine pu 5 (some 45) ?_
          refine pu 6 (some 46) ?_
          refine pu 7 (some 47) ?_
          refine take_ (i := 4) (N := some 44) (v := ?_) (a' := ?_) #[tT,tT,tT,tT,tT,tT,tT,tT,fF,fF,fF] rfl rfl (take_ofW HT_.out HW_.out (by kernel_rfl)) (fun _ _ _ h => h) (Or.inl ⟨by rfl, ?_⟩) hHeld ?_ ?_
          rotate_left
          ·rintro w' ⟨s0, s1, s2, s3, s4, s5⟩
           go_simp
           with_reducible rfl
          rotate_left
          ·simp only [Act.put, sA, sB, sC, i64_w, i32_w]
           rfl
          refine take_ (i := 8) (N := some 48) (v := ?_) (a' := ?_) #[tT,tT,tT,tT,tT,tT,tT,tT,tT,fF,fF] rfl rfl (take_ofW HT_.out HW_.out (by kernel_rfl)) (fun _ _ _ h => h) (Or.inl ⟨by rfl, ?_⟩) hHeld ?_ ?_
          rotate_left
          ·rintro w' ⟨s0, s1, s2, s3, s4, s5⟩
           go_simp
           with_reducible rfl
          rotate_left
          ·simp only [Act.put, sA, sB, sC, i64_w, i32_w]
           rfl
          refine one_ (i := 9) (N := some 49) #[tT,tT,tT,tT,tT,tT,tT,tT,tT,tT,fF] rfl rfl (one_of HT_.out (by kernel_rfl)) (by decide) (fun K hK => ?_)
          refine goesF_ Tryd.func41 (by kernel_rfl) rfl #[.agg #[.string ((rd_T46 l0 (ji8)).f0), .int .i64 ((rd_T46 l0 (ji8)).f1), .string ((rd_T46 l0 (ji8)).f2)], .agg #[.string ((rd_T46 l0 a1).f0), .int .i64 ((rd_T46 l0 a1).f1), .string ((rd_T46 l0 a1).f2)]] (by rfl) rfl rfl (by rfl) (by (try simp only [mT, mC, mN]); first | done | (simp only [hji8]; rfl) | rfl | (simp only [lD, lT]; rfl)) ?_
          with_reducible refine (tree_order.calls ((rd_T46 l0 (ji8)).f0) ((rd_T46 l0 (ji8)).f1) ((rd_T46 l0 (ji8)).f2) ((rd_T46 l0 a1).f0) ((rd_T46 l0 a1).f1) ((rd_T46 l0 a1).f2) t308 _ A13.out).mono ?_
          rintro e w20 ⟨rfl, hb⟩; have HS0_ := (hb.cell (wB _ _ (hHeld.1))).trans (hHeld.1); have HS1_ := (hb.cell (wB _ _ (hHeld.2.1))).trans (hHeld.2.1); have HS2_ := (hb.cell (wB _ _ (hHeld.2.2.1))).trans (hHeld.2.2.1); have HS3_ := (hb.cell (wB _ _ (hHeld.2.2.2.1))).trans (hHeld.2.2.2.1); have HS4_ := (hb.cell (wB _ _ (hHeld.2.2.2.2.1))).trans (hHeld.2.2.2.2.1); have HS5_ := (hb.cell (wB _ _ (hHeld.2.2.2.2.2))).trans (hHeld.2.2.2.2.2); refine ⟨_, rfl, ?_⟩
          replace HO_0 := am (Kd.R_below (rz HO_0.out) hb); replace HK := am (Kept.below (S := (fun k_ => P0_ k_)) kz hb); replace HB := bs hb; refine hK.out _ _ ⟨HS0_, HS1_, HS2_, HS3_, HS4_, HS5_⟩ (fun hHeld => ?_)
          clear hK K; refine norm_ (a' := ?_) ?_ ?_
          rotate_left
          ·show Act.put _ (some 49) _ = _
           simp only [Act.put, sA, sB, sC, i64_w, i32_w]
           rfl
          refine pu 10 (some 50) ?_
          refine done_ (done_of HT_.out (by kernel_rfl)) ?_
          try go_wp2
          go_roundg k1
          case measure => have := HK1.out; omega
          case rel => exact ⟨(x10_1), (ji8), (by first | rfl | (simp; done) | (simp [*]; done)), (by first | rfl | (simp; done) | (simp only [← hji8] <;> (first | rfl | simp)) | (simp [*]; done)), H', ⟨by have := HK1.out; omega⟩, ⟨rz HO_0.out⟩, ⟨kz⟩, ⟨bz⟩⟩
        ·rw [if_neg c12] at H
         exact absurd H (by simp)
       ·rw [if_neg c11] at H
        exact absurd H (by simp)
      ·rw [if_neg c10] at H
       exact absurd H (by simp)
     ·rw [if_neg c9] at H
      exact absurd H (by simp)
    ·rw [if_neg c7] at H
     have c7b0 : decide (x10_1 < x11_1) = false := decide_eq_false c7; clear c7; have H' := am H; clear H; go_wp2
     go_loopg [13] k1 (fun kq v13 w' => ∃ (x0_2 : List (S46)) (x13_2 : Int), v13 = .int .i64 x13_2 ∧ Aside0 (api_Node_71.l1 kq x0_2 x10_1 x13_2 = some r) ∧ Aside0 (kq ≤ k1) ∧ Aside0 (Kd.R k46 46 w' w0.heap.size (fun k_ => (P0_ k_ ∨ w.heap.size ≤ k_)) u9000_ x0_2) ∧ Aside0 (Kept w w' (fun k_ => P0_ k_)) ∧ Aside0 (Below w0.heap.size w0 w'))
     case atStart => exact ⟨(l0), (a1), (by first | rfl | (simp; done) | (simp [*]; done)), H', ⟨Nat.le_refl _⟩, ⟨rz HO_0.out⟩, ⟨kz⟩, ⟨bz⟩⟩
     case round =>
      clear H'; (try clear c1); (try clear p2); (try clear p3); (try clear q3); (try clear hx3); (try clear c4); (try clear c6); (try clear c6b0); (try clear c6b1); (try clear p6); (try clear c7); (try clear c7b0); (try clear c9); (try clear c9b0); (try clear c10); (try clear c10b0); (try clear c11); (try clear c11b0); (try clear c12); (try clear c12b0); (try clear c14); (try clear c14b0); (try clear hx306_0); (try clear hx306_1); (try clear hx306_2); (try clear hx307_0); (try clear hx307_1); (try clear hx307_2); (try clear p2); (try clear p306); (try clear p307); (try clear p6); (try clear q306); (try clear q307); obtain ⟨x0_2, x13_2, rfl, HA, HK2, HO_0, HK, HB⟩ := hrel; cases gk with
      | zero => exact absurd HA.out (by simp [api_Node_71.l1])
      | succ k2 =>
       have H := HA.out; clear HA; simp only [api_Node_71.l1] at H
       by_cases c21 : x13_2 < (wrap64 (x10_1 - 1))
       ·rw [if_pos c21] at H
        have c21b0 : decide (x13_2 < (wrap64 (x10_1 - 1))) = true := decide_eq_true c21; clear c21; obtain ⟨ji22, hji22⟩ : ∃ j_ : Int, (wrap64 (x13_2 + 1)) = j_ := ⟨_, rfl⟩; replace H : (if 0 ≤ (ji22) then (if (ji22) < (x0_2.length : Int) then (if 0 ≤ x13_2 then (if x13_2 < (x0_2.length : Int) then (api_Node_71.l1 k2 ((x0_2.set (x13_2 : Int).toNat (⟨(rd_T46 x0_2 (ji22)).f0, (rd_T46 x0_2 (ji22)).f1, (rd_T46 x0_2 (ji22)).f2⟩ : S46)).set ((ji22) : Int).toNat (⟨(rd_T46 x0_2 x13_2).f0, (rd_T46 x0_2 x13_2).f1, (rd_T46 x0_2 x13_2).f2⟩ : S46)) x10_1 ji22) else (none)) else (none)) else (none)) else (none)) = some r := by first | (rw [hji22] at H; exact H) | (simp only [hji22] at H ⊢; exact H)
        have hji22w : (IntKind.i64.wrap (x13_2 + 1)) = ji22 := (i64_w _).trans hji22; by_cases c23 : 0 ≤ (ji22)
        ·rw [if_pos c23] at H
         have c23b0 : decide (0 ≤ (ji22)) = true := decide_eq_true c23; clear c23; by_cases c24 : (ji22) < (x0_2.length : Int)
         ·rw [if_pos c24] at H
          have c24b0 : decide ((ji22) < (x0_2.length : Int)) = true := decide_eq_true c24; clear c24; by_cases c25 : 0 ≤ x13_2
          ·rw [if_pos c25] at H
           have c25b0 : decide (0 ≤ x13_2) = true := decide_eq_true c25; clear c25; by_cases c26 : x13_2 < (x0_2.length : Int)
           ·rw [if_pos c26] at H
            have c26b0 : decide (x13_2 < (x0_2.length : Int)) = true := decide_eq_true c26; clear c26; obtain ⟨y311, hy311⟩ : ∃ y_ : List (S46), y_ = (x0_2.set (x13_2 : Int).toNat (⟨(rd_T46 x0_2 (ji22)).f0, (rd_T46 x0_2 (ji22)).f1, (rd_T46 x0_2 (ji22)).f2⟩ : S46)) := ⟨_, rfl⟩; try rw [← hy311] at H
            have Ny311 := am hy311; clear hy311; obtain ⟨y312, hy312⟩ : ∃ y_ : List (S46), y_ = (y311.set ((ji22) : Int).toNat (⟨(rd_T46 x0_2 x13_2).f0, (rd_T46 x0_2 x13_2).f1, (rd_T46 x0_2 x13_2).f2⟩ : S46)) := ⟨_, rfl⟩; try rw [← hy312] at H
            have Ny312 := am hy312; clear hy312; have H' := am H; clear H; try go_wp2
            replace HO_0 := am (rD HO_0.out); replace HK := am (Kept.drew HK.out); replace HB := am (bO HB.out); obtain ⟨Ao30, co30, eo30⟩ := Kd.R_slice HO_0.out; (first | subst eo30 | (injection eo30 with f1_ f2_ f3_; have f4_ := f1_.symm; have f5_ := f3_.symm; clear f1_ f2_ f3_; subst f4_; subst f5_))
            have p309 : 0 ≤ ((ji22) : Int) := of_decide_eq_true (by assumption); have q309 : (ji22) < (x0_2.length : Int) := of_decide_eq_true (by assumption); obtain ⟨ad309, e309, hx309_0, hx309_1, hx309_2⟩ := at_T46 (Kd.R_reads' HO_0.out).2.2 (ji22) p309 q309; cases e309; replace p309 := eq_true p309; replace q309 := eq_true q309; have p310 : 0 ≤ (x13_2 : Int) := of_decide_eq_true (by assumption); have q310 : x13_2 < (x0_2.length : Int) := of_decide_eq_true (by assumption); obtain ⟨ad310, e310, hx310_0, hx310_1, hx310_2⟩ := at_T46 (Kd.R_reads' HO_0.out).2.2 x13_2 p310 q310; obtain rfl : ad309 = ad310 := (by injection e310); replace p310 := eq_true p310; replace q310 := eq_true q310; have p27 : 0 ≤ (x13_2 : Int) := of_decide_eq_true (by assumption); have q27 : (x13_2 : Int) < ((x0_2.length : Int) : Int) := of_decide_eq_true (by assumption); obtain ⟨go27, co27, eo27, gb27, gl27, cl27, HG27⟩ := Kd.R_form HO_0.out (by omega); (first | cases eo27 | (injection eo27 with ea_ en_ ec_; (first | subst ea_ | (injection ea_ with ea_; subst ea_)); subst ec_; clear en_))
            have GB27 := am gb27; have GG27 := am HG27; clear gb27 gl27 HG27; have HMgo27 := am (show (P0_ go27 ∨ w.heap.size ≤ go27) from (HO_0.out.1 _ rfl)); (first | simp only [add_plain] at hx309_0 | skip)
            (first | simp only [add_plain] at hx309_1 | skip)
            (first | simp only [add_plain] at hx309_2 | skip)
            (first | simp only [add_plain] at hx310_0 | skip)
            (first | simp only [add_plain] at hx310_1 | skip)
            (first | simp only [add_plain] at hx310_2 | skip)
            obtain ⟨ce27, hcl27, hM27, hcc27, hfr27⟩ := Kd.R_elem HO_0.out z46 (x13_2 : Int) p27 q27; obtain rfl := k46_openM hM27; have hx27_0 : World.cell? _ ⟨go27, (x13_2 : Int).toNat * 3, none⟩ = some (.string ((rd_T46 x0_2 x13_2).f0)) := hcc27 0 _ rfl; have hx27_1 : World.cell? _ ⟨go27, (x13_2 : Int).toNat * 3 + 1, none⟩ = some (.int .i64 ((rd_T46 x0_2 x13_2).f1)) := hcc27 1 _ rfl; have hx27_2 : World.cell? _ ⟨go27, (x13_2 : Int).toNat * 3 + 2, none⟩ = some (.string ((rd_T46 x0_2 x13_2).f2)) := hcc27 2 _ rfl; have hf27_0 : World.frozen? _ ⟨go27, (x13_2 : Int).toNat * 3, none⟩ = false := hfr27 0; have hf27_1 : World.frozen? _ ⟨go27, (x13_2 : Int).toNat * 3 + 1, none⟩ = false := hfr27 1; have hf27_2 : World.frozen? _ ⟨go27, (x13_2 : Int).toNat * 3 + 2, none⟩ = false := hfr27 2; clear hcl27 hcc27 hfr27 hM27; replace p27 := eq_true p27; replace q27 := eq_true q27; obtain ⟨ce31, hcl31, hM31, hcc31, hfr31⟩ := Kd.R_elem HO_0.out z46 (x13_2 : Int) (of_decide_eq_true (by assumption)) (by have h_ : (x13_2 : Int) < ((x0_2.length : Int) : Int) := of_decide_eq_true (by assumption); first | exact h_ | (have e_ := (Kd.R_reads' HO_0.out).1; omega) | simpa using h_); obtain rfl := k46_openM hM31; have HP31 := (Kd.R_seg HO_0.out (x13_2 : Int) (of_decide_eq_true (by assumption)) (by have h_ : (x13_2 : Int) < ((x0_2.length : Int) : Int) := of_decide_eq_true (by assumption); first | exact h_ | (have e_ := (Kd.R_reads' HO_0.out).1; omega) | simpa using h_) (seg := [.string ((rd_T46 x0_2 (ji22)).f0), .int .i64 ((rd_T46 x0_2 (ji22)).f1), .string ((rd_T46 x0_2 (ji22)).f2)]) (j := 0) hcl31 hcc31 (show 3 ≤ 3 from by decide) (x' := (⟨(rd_T46 x0_2 (ji22)).f0, (rd_T46 x0_2 (ji22)).f1, (rd_T46 x0_2 (ji22)).f2⟩ : S46)) (k46_mkM _ _ _ (⟨(rd_T46 x0_2 (ji22)).f0, (rd_T46 x0_2 (ji22)).f1, (rd_T46 x0_2 (ji22)).f2⟩ : S46) ) (fun _ hk => hk)).1
            rw [← Ny311.out] at HP31; have HQ31 := am HP31; clear hcl31 hcc31 hfr31 hM31 HP31; have p28 : 0 ≤ ((ji22) : Int) := of_decide_eq_true (by assumption); have q28 : ((ji22) : Int) < ((x0_2.length : Int) : Int) := of_decide_eq_true (by assumption); obtain ⟨ce28, hcl28, hM28, hcc28, hfr28⟩ := Kd.R_elem HQ31.out z46 ((ji22) : Int) p28 q28; obtain rfl := k46_openM hM28; have hx28_0 : World.cell? _ ⟨go27, ((ji22) : Int).toNat * 3, none⟩ = some (.string ((rd_T46 y311 (ji22)).f0)) := hcc28 0 _ rfl; have hx28_1 : World.cell? _ ⟨go27, ((ji22) : Int).toNat * 3 + 1, none⟩ = some (.int .i64 ((rd_T46 y311 (ji22)).f1)) := hcc28 1 _ rfl; have hx28_2 : World.cell? _ ⟨go27, ((ji22) : Int).toNat * 3 + 2, none⟩ = some (.string ((rd_T46 y311 (ji22)).f2)) := hcc28 2 _ rfl; have hf28_0 : World.frozen? _ ⟨go27, ((ji22) : Int).toNat * 3, none⟩ = false := hfr28 0; have hf28_1 : World.frozen? _ ⟨go27, ((ji22) : Int).toNat * 3 + 1, none⟩ = false := hfr28 1; have hf28_2 : World.frozen? _ ⟨go27, ((ji22) : Int).toNat * 3 + 2, none⟩ = false := hfr28 2; (try have hz28_0 := three0 hx28_0)
            (try have hz28_1 := three1 hx28_1)
            (try have hz28_2 := three2 hx28_2)
            (try have hy28_0 := threeF hf28_0)
            (try have hy28_1 := threeF hf28_1)
            (try have hy28_2 := threeF hf28_2)
            clear hcl28 hcc28 hfr28 hM28; replace p28 := eq_true p28; replace q28 := eq_true q28; obtain ⟨ce32, hcl32, hM32, hcc32, hfr32⟩ := Kd.R_elem HQ31.out z46 ((ji22) : Int) (of_decide_eq_true (by assumption)) (by have h_ : ((ji22) : Int) < ((x0_2.length : Int) : Int) := of_decide_eq_true (by assumption); first | exact h_ | (have e_ := (Kd.R_reads' HO_0.out).1; omega) | simpa using h_); obtain rfl := k46_openM hM32; have HP32 := (Kd.R_seg HQ31.out ((ji22) : Int) (of_decide_eq_true (by assumption)) (by have h_ : ((ji22) : Int) < ((x0_2.length : Int) : Int) := of_decide_eq_true (by assumption); first | exact h_ | (have e_ := (Kd.R_reads' HO_0.out).1; omega) | simpa using h_) (seg := [.string ((rd_T46 x0_2 x13_2).f0), .int .i64 ((rd_T46 x0_2 x13_2).f1), .string ((rd_T46 x0_2 x13_2).f2)]) (j := 0) hcl32 hcc32 (show 3 ≤ 3 from by decide) (x' := (⟨(rd_T46 x0_2 x13_2).f0, (rd_T46 x0_2 x13_2).f1, (rd_T46 x0_2 x13_2).f2⟩ : S46)) (k46_mkM _ _ _ (⟨(rd_T46 x0_2 x13_2).f0, (rd_T46 x0_2 x13_2).f1, (rd_T46 x0_2 x13_2).f2⟩ : S46) ) (fun _ hk => hk)).1; rw [← Ny312.out] at HP32; have HQ32 := am HP32; clear hcl32 hcc32 hfr32 hM32 HP32; refine start_ (n := 18) (S := fun w' => w'.cell? ⟨go27, ((ji22)).toNat * 3, none⟩ = some (.string ((rd_T46 x0_2 (ji22)).f0)) ∧ w'.cell? ⟨go27, ((ji22)).toNat * 3 + 1, none⟩ = some (.int .i64 ((rd_T46 x0_2 (ji22)).f1)) ∧ w'.cell? ⟨go27, ((ji22)).toNat * 3 + 2, none⟩ = some (.string ((rd_T46 x0_2 (ji22)).f2)) ∧ w'.cell? ⟨go27, ((x13_2).toNat * 3), none⟩ = some (.string ((rd_T46 x0_2 x13_2).f0)) ∧ w'.cell? ⟨go27, ((x13_2).toNat * 3) + 1, none⟩ = some (.int .i64 ((rd_T46 x0_2 x13_2).f1)) ∧ w'.cell? ⟨go27, ((x13_2).toNat * 3) + 2, none⟩ = some (.string ((rd_T46 x0_2 x13_2).f2))) (ds := [15, 17]) #[fF,fF,fF,fF,fF,fF,fF,fF,fF,fF,fF,fF,fF,fF,fF,fF,fF,fF] (by kernel_rfl) rfl rfl ⟨hx309_0, hx309_1, hx309_2, hx310_0, hx310_1, hx310_2⟩ (fun hHeld => ?_); refine with_tabW api_Node_71.tab11 api_Node_71.bits11 (fun HT_ HW_ => ?_)
            generalize wr.drew = w29 at HO_0 HK HB GG27 HQ31 HQ32 hf27_0 hf27_1 hf27_2 hf28_0 hf28_1 hf28_2 hx27_0 hx27_1 hx27_2 hx28_0 hx28_1 hx28_2 hx309_0 hx309_1 hx309_2 hx310_0 hx310_1 hx310_2 hz28_0 hy28_0 hz28_1 hy28_1 hz28_2 hy28_2 hHeld ⊢
            refine pu 0 (some 61) ?_
            refine pu 1 (some 62) ?_
            refine pu 2 (some 63) ?_
            refine pu 3 (some 64) ?_
            refine pu 4 (some 65) ?_
            refine pu 5 (some 66) ?_
            refine pu 6 (some 67) ?_
            refine pu 7 (some 68) ?_
            refine pu 8 (some 69) ?_
            refine pu 10 (some 71) ?_
            refine pu 11 (some 72) ?_
            refine pu 12 (some 73) ?_
            refine take_ (i := 9) (N := some 70) (v := ?_) (a' := ?_) #[tT,tT,tT,tT,tT,tT,tT,tT,tT,tT,tT,tT,tT,fF,fF,fF,fF,fF] rfl rfl (take_ofW HT_.out HW_.out (by kernel_rfl)) (fun _ _ _ h => h) (Or.inl ⟨by rfl, ?_⟩) hHeld ?_ ?_
            rotate_left
            ·rintro w' ⟨s0, s1, s2, s3, s4, s5⟩
             go_simp
             with_reducible rfl
            rotate_left
            ·simp only [Act.put, sA, sB, sC, i64_w, i32_w]
             rfl
            refine take_ (i := 13) (N := some 74) (v := ?_) (a' := ?_) #[tT,tT,tT,tT,tT,tT,tT,tT,tT,tT,tT,tT,tT,tT,fF,fF,fF,fF] rfl rfl (take_ofW HT_.out HW_.out (by kernel_rfl)) (fun _ _ _ h => h) (Or.inl ⟨by rfl, ?_⟩) hHeld ?_ ?_
            rotate_left
            ·rintro w' ⟨s0, s1, s2, s3, s4, s5⟩
             go_simp
             with_reducible rfl
            rotate_left
            ·simp only [Act.put, sA, sB, sC, i64_w, i32_w]
             rfl
            refine pu 14 (some 75) ?_
            refine last_ (i := 15) (N := none) #[tT,tT,tT,tT,tT,tT,tT,tT,tT,tT,tT,tT,tT,tT,tT,tT,fF,fF] rfl rfl (one_of HT_.out (by kernel_rfl)) (by decide) (fun K hK => ?_)
            refine skip_ (w1 := ?_) (by rfl) rfl ?_ ?_
            rotate_left
            ·go_simp
             rfl
            refine hK.out _ _ ?_
            clear hK K; refine pure_ (i := 16) (N := some 76) (v := ?_) (a' := ?_) #[tT,tT,tT,tT,tT,tT,tT,tT,tT,tT,tT,tT,tT,tT,tT,tT,tT,fF] rfl rfl (any_of HT_.out (by kernel_rfl)) (fun _ _ _ h => h) (Or.inl ⟨by rfl, ?_⟩) ?_ ?_
            rotate_left
            ·intro w'
             go_simp
             with_reducible rfl
            rotate_left
            ·simp only [Act.put, sA, sB, sC, i64_w, i32_w]
             rfl
            refine last_ (i := 17) (N := none) #[tT,tT,tT,tT,tT,tT,tT,tT,tT,tT,tT,tT,tT,tT,tT,tT,tT,tT] rfl rfl (one_of HT_.out (by kernel_rfl)) (by decide) (fun K hK => ?_)
            refine skip_ (w1 := ?_) (by rfl) rfl ?_ ?_
            rotate_left
            ·go_simp
             rfl
            refine hK.out _ _ ?_
            clear hK K; refine done_ (done_of HT_.out (by kernel_rfl)) ?_
            try go_wp2
            go_roundg k2
            case measure => have := HK1.out; have := HK2.out; omega
            case rel => exact ⟨(y312), (ji22), (by first | rfl | (simp; done) | (simp only [← hji22] <;> (first | rfl | simp)) | (simp [*]; done)), H', ⟨by have := HK1.out; have := HK2.out; omega⟩, ⟨rz HQ32.out⟩, ⟨by repeat (first | (with_reducible first | exact HK.out | apply Kept.alloc | apply Kept.drewN | apply Kept.drew | refine Kept.setCell ?_ HMgo27.out _ | refine Kept.setCell ?_ HMgo27.out _ | refine Kept.setCell ?_ HMgo27.out _ | refine Kept.setCell ?_ HMgo27.out _ | refine Kept.setCell ?_ HMgo27.out _ | refine Kept.setCell ?_ HMgo27.out _) | exact HK.out)⟩, ⟨by repeat (first | (with_reducible first | exact HB.out | apply bA | apply bN | apply bO | refine below_set ?_ GB27.out | refine below_set ?_ GB27.out | refine below_set ?_ GB27.out | refine below_set ?_ GB27.out | refine below_set ?_ GB27.out | refine below_set ?_ GB27.out) | exact HB.out)⟩⟩
           ·rw [if_neg c26] at H
            exact absurd H (by simp)
          ·rw [if_neg c25] at H
           exact absurd H (by simp)
         ·rw [if_neg c24] at H
          exact absurd H (by simp)
        ·rw [if_neg c23] at H
         exact absurd H (by simp)
       ·rw [if_neg c21] at H
        have c21b0 : decide (x13_2 < (wrap64 (x10_1 - 1))) = false := decide_eq_false c21; clear c21; obtain rfl := Option.some.inj H; go_wp2
        first | go_end0 | ((try simp only [Exit.inBlock, Exit.then]); refine bodyPost_ret (results_none rfl _ _ _) rfl ?_)
        exact ⟨ez, by (with_reducible repeat (first | apply rA | apply rN | apply rD)); exact HO_0.out, by repeat (first | (with_reducible first | exact HB.out | apply bA | apply bN | apply bO) | exact HB.out), kz⟩
 ·exact absurd hc c6
set_option maxHeartbeats 8000000 in
set_option maxRecDepth 100000 in
theorem api_Node_71.calls_B (k : Nat) (ih : ∀ m, m < k + 1 → ∀ (P0_ : Nat → Prop) (u9000_ : Value) (l0 : List (S46)) (a1 : Int) (a2 : Int) (a3 : Int) (a4 : Bool) (r : List (S46)) (w0 w : World) (hB : Below w0.heap.size w0 w) (ho0 : Kd.R k46 46 w w0.heap.size P0_ u9000_ l0) (h : api_Node_71.f m l0 a1 a2 a3 a4 = some r),
  Calls Tryd.prog 71 #[u9000_, .int .i64 a1, .int .i64 a2, .int .i64 a3, .func (.func 41) #[] #[]] w fun e w' => e = .returned (.tuple #[]) ∧ Kd.R k46 46 w' w0.heap.size (fun k_ => (P0_ k_ ∨ w.heap.size ≤ k_)) u9000_ r ∧ Below w0.heap.size w0 w' ∧ Kept w w' (fun k_ => P0_ k_)) (P0_ : Nat → Prop) (u9000_ : Value) (l0 : List (S46)) (a1 : Int) (a2 : Int) (a3 : Int) (a4 : Bool) (r : List (S46)) (w0 w : World) (hB : Below w0.heap.size w0 w) (ho0 : Kd.R k46 46 w w0.heap.size P0_ u9000_ l0) (h : api_Node_71.f (k + 1) l0 a1 a2 a3 a4 = some r) (hc : ¬ ((wrap64 (a2 - a1)) = 1)) (hd : (wrap64 (a3 - a2)) = 1) :
  Calls Tryd.prog 71 #[u9000_, .int .i64 a1, .int .i64 a2, .int .i64 a3, .func (.func 41) #[] #[]] w fun e w' => e = .returned (.tuple #[]) ∧ Kd.R k46 46 w' w0.heap.size (fun k_ => (P0_ k_ ∨ w.heap.size ≤ k_)) u9000_ r ∧ Below w0.heap.size w0 w' ∧ Kept w w' (fun k_ => P0_ k_) := by
 simp only [api_Node_71.f] at h
 have hu46 := Tryd.underlying46; have HO0 := am (show Kd.R k46 46 w w0.heap.size (fun k_ => (P0_ k_ ∨ w.heap.size ≤ k_)) u9000_ l0 from Kd.R_mono ho0 (fun k_ hk => (.inl hk))); have HK := am (Kept.refl w (fun k_ => P0_ k_)); have HW0 := am hB.size; have HB := am hB; clear hB; have H : (if (wrap64 (a2 - a1)) = 1 then (api_Node_71.l0 k l0 a1 a2 a3) else (if (wrap64 (a3 - a2)) = 1 then (api_Node_71.l2 k l0 a2 a1 a2) else (if a2 > (wrap64 ((IntKind.u64.wrap (wrap64 (a1 + a3))) / 2)) then (api_Node_71.j4 k l0 a1 a2 a3 a4 (wrap64 ((IntKind.u64.wrap (wrap64 (a1 + a3))) / 2)) (wrap64 ((wrap64 ((IntKind.u64.wrap (wrap64 (a1 + a3))) / 2)) + a2)) (wrap64 ((wrap64 ((wrap64 ((IntKind.u64.wrap (wrap64 (a1 + a3))) / 2)) + a2)) - a3)) (wrap64 ((IntKind.u64.wrap (wrap64 (a1 + a3))) / 2))) else (api_Node_71.j4 k l0 a1 a2 a3 a4 (wrap64 ((IntKind.u64.wrap (wrap64 (a1 + a3))) / 2)) (wrap64 ((wrap64 ((IntKind.u64.wrap (wrap64 (a1 + a3))) / 2)) + a2)) a1 a2)))) = some r := h; clear h; by_cases c6 : (wrap64 (a2 - a1)) = 1
 ·exact absurd c6 hc
 ·rw [if_neg c6] at H
  clear hc; have c6b0 : ((wrap64 (a2 - a1)) == 1) = false := beq_eq_false_iff_ne.mpr c6; have c6b1 : ((wrap64 (a2 - a1)) != 1) = true := bne_iff_ne.mpr c6; by_cases c33 : (wrap64 (a3 - a2)) = 1
  ·rw [if_pos c33] at H
   clear hd; have c33b0 : ((wrap64 (a3 - a2)) == 1) = true := beq_iff_eq.mpr c33; have c33b1 : ((wrap64 (a3 - a2)) != 1) = false := bne_eq_false_iff_eq.mpr c33; clear c33; have H' := am H; clear H; go_enter Tryd.func71, Tryd.ntmps71; go_wp2
   go_loopg [14, 15] k (fun kq v14 v15 w' => ∃ (x14_1 : Int) (x15_1 : Int), v14 = .int .i64 x14_1 ∧ v15 = .int .i64 x15_1 ∧ Aside0 (api_Node_71.l2 kq l0 a2 x14_1 x15_1 = some r) ∧ Aside0 (kq ≤ k) ∧ Aside0 (Kd.R k46 46 w' w0.heap.size (fun k_ => (P0_ k_ ∨ w.heap.size ≤ k_)) u9000_ l0) ∧ Aside0 (Kept w w' (fun k_ => P0_ k_)) ∧ Aside0 (Below w0.heap.size w0 w'))
   case atStart => exact ⟨(a1), (a2), (by first | rfl | (simp; done) | (simp [*]; done)), (by first | rfl | (simp; done) | (simp [*]; done)), H', ⟨Nat.le_refl _⟩, ⟨rz HO0.out⟩, ⟨kz⟩, ⟨bz⟩⟩
   case round =>
    clear H'; (try clear c1); (try clear c2); (try clear p2); (try clear q2); (try clear hx2); (try clear c3); (try clear p3); (try clear q3); (try clear hx3); (try clear c4); (try clear c6); (try clear c6b0); (try clear c6b1); (try clear p6); (try clear c7); (try clear c7b0); (try clear c9); (try clear c9b0); (try clear c10); (try clear c10b0); (try clear c11); (try clear c11b0); (try clear c12); (try clear c12b0); (try clear c14); (try clear c14b0); (try clear c21); (try clear c21b0); (try clear c23); (try clear c23b0); (try clear c24); (try clear c24b0); (try clear c25); (try clear c25b0); (try clear c26); (try clear c26b0); (try clear c27); (try clear p27); (try clear q27); (try clear hx27); (try clear hf27); (try clear c28); (try clear p28); (try clear q28); (try clear hx28); (try clear hf28); (try clear p30); (try clear q30); (try clear hx30); (try clear c31); (try clear p31); (try clear q31); (try clear hx31); (try clear c32); (try clear c33); (try clear c33b0); (try clear c33b1); (try clear hx27_0); (try clear hx27_1); (try clear hx27_2); (try clear hx28_0); (try clear hx28_1); (try clear hx28_2); (try clear hx306_0); (try clear hx306_1); (try clear hx306_2); (try clear hx307_0); (try clear hx307_1); (try clear hx307_2); (try clear hx309_0); (try clear hx309_1); (try clear hx309_2); (try clear hx310_0); (try clear hx310_1); (try clear hx310_2); (try clear p2); (try clear p27); (try clear p28); (try clear p3); (try clear p306); (try clear p307); (try clear p309); (try clear p310)
    (try clear p6); (try clear q27); (try clear q28); (try clear q3); (try clear q306); (try clear q307); (try clear q309); (try clear q310); obtain ⟨x14_1, x15_1, rfl, rfl, HA, HK1, HO_0, HK, HB⟩ := hrel; cases gk with
    | zero => exact absurd HA.out (by simp [api_Node_71.l2])
    | succ k1 =>
     have H := HA.out; clear HA; simp only [api_Node_71.l2] at H
     by_cases c34 : x14_1 < x15_1
     ·rw [if_pos c34] at H
      have c34b0 : decide (x14_1 < x15_1) = true := decide_eq_true c34; clear c34; by_cases c35 : 0 ≤ a2
      ·rw [if_pos c35] at H
       have c35b0 : decide (0 ≤ a2) = true := decide_eq_true c35; clear c35; by_cases c36 : a2 < (l0.length : Int)
       ·rw [if_pos c36] at H
        have c36b0 : decide (a2 < (l0.length : Int)) = true := decide_eq_true c36; clear c36; obtain ⟨ji37, hji37⟩ : ∃ j_ : Int, (wrap64 ((IntKind.u64.wrap (wrap64 (x14_1 + x15_1))) / 2)) = j_ := ⟨_, rfl⟩; replace H : (if 0 ≤ (ji37) then (if (ji37) < (l0.length : Int) then ((tree_order.f ((rd_T46 l0 a2).f0) ((rd_T46 l0 a2).f1) ((rd_T46 l0 a2).f2) ((rd_T46 l0 (ji37)).f0) ((rd_T46 l0 (ji37)).f1) ((rd_T46 l0 (ji37)).f2)).bind fun t315 => (if t315 < 0 then (api_Node_71.l2 k1 l0 a2 x14_1 ji37) else (api_Node_71.l2 k1 l0 a2 (wrap64 ((ji37) + 1)) x15_1))) else (none)) else (none)) = some r := by first | (rw [hji37] at H; exact H) | (simp only [hji37] at H ⊢; exact H)
        have hji37w : (IntKind.i64.wrap ((IntKind.u64.wrap (wrap64 (x14_1 + x15_1))) / 2)) = ji37 := (i64_w _).trans hji37; by_cases c38 : 0 ≤ (ji37)
        ·rw [if_pos c38] at H
         have c38b0 : decide (0 ≤ (ji37)) = true := decide_eq_true c38; clear c38; by_cases c39 : (ji37) < (l0.length : Int)
         ·rw [if_pos c39] at H
          have c39b0 : decide ((ji37) < (l0.length : Int)) = true := decide_eq_true c39; clear c39; refine oR H ?_; clear H; intro t315 A40 H; by_cases c41 : t315 < 0
          ·rw [if_pos c41] at H
           have c41b0 : decide (t315 < 0) = true := decide_eq_true c41; clear c41; have H' := am H; clear H; try go_wp2
           replace HO_0 := am (rD HO_0.out); replace HK := am (Kept.drew HK.out); replace HB := am (bO HB.out); obtain ⟨Ao43, co43, eo43⟩ := Kd.R_slice HO_0.out; (first | subst eo43 | (injection eo43 with f1_ f2_ f3_; have f4_ := f1_.symm; have f5_ := f3_.symm; clear f1_ f2_ f3_; subst f4_; subst f5_))
           have p313 : 0 ≤ (a2 : Int) := of_decide_eq_true (by assumption); have q313 : a2 < (l0.length : Int) := of_decide_eq_true (by assumption); obtain ⟨ad313, e313, hx313_0, hx313_1, hx313_2⟩ := at_T46 (Kd.R_reads' HO_0.out).2.2 a2 p313 q313; cases e313; replace p313 := eq_true p313; replace q313 := eq_true q313; have p314 : 0 ≤ ((ji37) : Int) := of_decide_eq_true (by assumption); have q314 : (ji37) < (l0.length : Int) := of_decide_eq_true (by assumption); obtain ⟨ad314, e314, hx314_0, hx314_1, hx314_2⟩ := at_T46 (Kd.R_reads' HO_0.out).2.2 (ji37) p314 q314; obtain rfl : ad313 = ad314 := (by injection e314); replace p314 := eq_true p314; replace q314 := eq_true q314; refine start_ (n := 12) (S := fun w' => w'.cell? (ad313.add ((a2).toNat * 3)) = some (.string ((rd_T46 l0 a2).f0)) ∧ w'.cell? ⟨(ad313.add ((a2).toNat * 3)).block, (ad313.add ((a2).toNat * 3)).off + 1, none⟩ = some (.int .i64 ((rd_T46 l0 a2).f1)) ∧ w'.cell? ⟨(ad313.add ((a2).toNat * 3)).block, (ad313.add ((a2).toNat * 3)).off + 2, none⟩ = some (.string ((rd_T46 l0 a2).f2)) ∧ w'.cell? (ad313.add (((ji37)).toNat * 3)) = some (.string ((rd_T46 l0 (ji37)).f0)) ∧ w'.cell? ⟨(ad313.add (((ji37)).toNat * 3)).block, (ad313.add (((ji37)).toNat * 3)).off + 1, none⟩ = some (.int .i64 ((rd_T46 l0 (ji37)).f1)) ∧ w'.cell? ⟨(ad313.add (((ji37)).toNat * 3)).block, (ad313.add (((ji37)).toNat * 3)).off + 2, none⟩ = some (.string ((rd_T46 l0 (ji37)).f2))) (ds := []) #[fF,fF,fF,fF,fF,fF,fF,fF,fF,fF,fF,fF] (by kernel_rfl) rfl rfl ⟨hx313_0, hx313_1, hx313_2, hx314_0, hx314_1, hx314_2⟩ (fun hHeld => ?_); refine with_tabW api_Node_71.tab17 api_Node_71.bits17 (fun HT_ HW_ => ?_)
           generalize wr.drew = w42 at HO_0 HK HB hx313_0 hx313_1 hx313_2 hx314_0 hx314_1 hx314_2 hHeld ⊢
           refine pu 0 (some 92) ?_
           refine pu 1 (some 93) ?_
           refine pu 2 (some 94) ?_
           refine pu 3 (some 95) ?_
           refine pu 5 (some 97) ?_
           refine pu 6 (some 98) ?_
           refine pu 7 (some 99) ?_
           refine take_ (i := 4) (N := some 96) (v := ?_) (a' := ?_) #[tT,tT,tT,tT,tT,tT,tT,tT,fF,fF,fF,fF] rfl rfl (take_ofW HT_.out HW_.out (by kernel_rfl)) (fun _ _ _ h => h) (Or.inl ⟨by rfl, ?_⟩) hHeld ?_ ?_
           rotate_left
           ·rintro w' ⟨s0, s1, s2, s3, s4, s5⟩
            go_simp
            with_reducible rfl
           rotate_left
           ·simp only [Act.put, sA, sB, sC, i64_w, i32_w]
            rfl
           refine take_ (i := 8) (N := some 100) (v := ?_) (a' := ?_) #[tT,tT,tT,tT,tT,tT,tT,tT,tT,fF,fF,fF] rfl rfl (take_ofW HT_.out HW_.out (by kernel_rfl)) (fun _ _ _ h => h) (Or.inl ⟨by rfl, ?_⟩) hHeld ?_ ?_
           rotate_left
           ·rintro w' ⟨s0, s1, s2, s3, s4, s5⟩
            go_simp
            with_reducible rfl
           rotate_left
           ·simp only [Act.put, sA, sB, sC, i64_w, i32_w]
            rfl
           refine one_ (i := 9) (N := some 101) #[tT,tT,tT,tT,tT,tT,tT,tT,tT,tT,fF,fF] rfl rfl (one_of HT_.out (by kernel_rfl)) (by decide) (fun K hK => ?_)
           refine goesF_ Tryd.func41 (by kernel_rfl) rfl #[.agg #[.string ((rd_T46 l0 a2).f0), .int .i64 ((rd_T46 l0 a2).f1), .string ((rd_T46 l0 a2).f2)], .agg #[.string ((rd_T46 l0 (ji37)).f0), .int .i64 ((rd_T46 l0 (ji37)).f1), .string ((rd_T46 l0 (ji37)).f2)]] (by rfl) rfl rfl (by rfl) (by (try simp only [mT, mC, mN]); first | done | (simp only [hji37]; rfl) | rfl | (simp only [lD, lT]; rfl)) ?_
           with_reducible refine (tree_order.calls ((rd_T46 l0 a2).f0) ((rd_T46 l0 a2).f1) ((rd_T46 l0 a2).f2) ((rd_T46 l0 (ji37)).f0) ((rd_T46 l0 (ji37)).f1) ((rd_T46 l0 (ji37)).f2) t315 _ A40.out).mono ?_
           rintro e w44 ⟨rfl, hb⟩; have HS0_ := (hb.cell (wB _ _ (hHeld.1))).trans (hHeld.1); have HS1_ := (hb.cell (wB _ _ (hHeld.2.1))).trans (hHeld.2.1); have HS2_ := (hb.cell (wB _ _ (hHeld.2.2.1))).trans (hHeld.2.2.1); have HS3_ := (hb.cell (wB _ _ (hHeld.2.2.2.1))).trans (hHeld.2.2.2.1); have HS4_ := (hb.cell (wB _ _ (hHeld.2.2.2.2.1))).trans (hHeld.2.2.2.2.1); have HS5_ := (hb.cell (wB _ _ (hHeld.2.2.2.2.2))).trans (hHeld.2.2.2.2.2); refine ⟨_, rfl, ?_⟩
           replace HO_0 := am (Kd.R_below (rz HO_0.out) hb); replace HK := am (Kept.below (S := (fun k_ => P0_ k_)) kz hb); replace HB := bs hb; refine hK.out _ _ ⟨HS0_, HS1_, HS2_, HS3_, HS4_, HS5_⟩ (fun hHeld => ?_)
           clear hK K; refine norm_ (a' := ?_) ?_ ?_
           rotate_left
           ·show Act.put _ (some 101) _ = _
            simp only [Act.put, sA, sB, sC, i64_w, i32_w]
            rfl
           refine pu 10 (some 102) ?_
           refine pu 11 (some 103) ?_
           refine done_ (done_of HT_.out (by kernel_rfl)) ?_
           try go_wp2
           go_roundg k1
           case measure => have := HK1.out; omega
           case rel => exact ⟨(x14_1), (ji37), (by first | rfl | (simp; done) | (simp [*]; done)), (by first | rfl | (simp; done) | (simp only [← hji37] <;> (first | rfl | simp)) | (simp [*]; done)), H', ⟨by have := HK1.out; omega⟩, ⟨rz HO_0.out⟩, ⟨kz⟩, ⟨bz⟩⟩
          ·rw [if_neg c41] at H
           have c41b0 : decide (t315 < 0) = false := decide_eq_false c41; clear c41; have H' := am H; clear H; try go_wp2
           replace HO_0 := am (rD HO_0.out); replace HK := am (Kept.drew HK.out); replace HB := am (bO HB.out); obtain ⟨Ao46, co46, eo46⟩ := Kd.R_slice HO_0.out; (first | subst eo46 | (injection eo46 with f1_ f2_ f3_; have f4_ := f1_.symm; have f5_ := f3_.symm; clear f1_ f2_ f3_; subst f4_; subst f5_))
           have p313 : 0 ≤ (a2 : Int) := of_decide_eq_true (by assumption); have q313 : a2 < (l0.length : Int) := of_decide_eq_true (by assumption); obtain ⟨ad313, e313, hx313_0, hx313_1, hx313_2⟩ := at_T46 (Kd.R_reads' HO_0.out).2.2 a2 p313 q313; cases e313; replace p313 := eq_true p313; replace q313 := eq_true q313; have p314 : 0 ≤ ((ji37) : Int) := of_decide_eq_true (by assumption); have q314 : (ji37) < (l0.length : Int) := of_decide_eq_true (by assumption); obtain ⟨ad314, e314, hx314_0, hx314_1, hx314_2⟩ := at_T46 (Kd.R_reads' HO_0.out).2.2 (ji37) p314 q314; obtain rfl : ad313 = ad314 := (by injection e314); replace p314 := eq_true p314; replace q314 := eq_true q314; refine start_ (n := 12) (S := fun w' => w'.cell? (ad313.add ((a2).toNat * 3)) = some (.string ((rd_T46 l0 a2).f0)) ∧ w'.cell? ⟨(ad313.add ((a2).toNat * 3)).block, (ad313.add ((a2).toNat * 3)).off + 1, none⟩ = some (.int .i64 ((rd_T46 l0 a2).f1)) ∧ w'.cell? ⟨(ad313.add ((a2).toNat * 3)).block, (ad313.add ((a2).toNat * 3)).off + 2, none⟩ = some (.string ((rd_T46 l0 a2).f2)) ∧ w'.cell? (ad313.add (((ji37)).toNat * 3)) = some (.string ((rd_T46 l0 (ji37)).f0)) ∧ w'.cell? ⟨(ad313.add (((ji37)).toNat * 3)).block, (ad313.add (((ji37)).toNat * 3)).off + 1, none⟩ = some (.int .i64 ((rd_T46 l0 (ji37)).f1)) ∧ w'.cell? ⟨(ad313.add (((ji37)).toNat * 3)).block, (ad313.add (((ji37)).toNat * 3)).off + 2, none⟩ = some (.string ((rd_T46 l0 (ji37)).f2))) (ds := []) #[fF,fF,fF,fF,fF,fF,fF,fF,fF,fF,fF,fF] (by kernel_rfl) rfl rfl ⟨hx313_0, hx313_1, hx313_2, hx314_0, hx314_1, hx314_2⟩ (fun hHeld => ?_); refine with_tabW api_Node_71.tab17 api_Node_71.bits17 (fun HT_ HW_ => ?_)
           generalize wr.drew = w45 at HO_0 HK HB hx313_0 hx313_1 hx313_2 hx314_0 hx314_1 hx314_2 hHeld ⊢
           refine pu 0 (some 92) ?_
           refine pu 1 (some 93) ?_
           refine pu 2 (some 94) ?_
           refine pu 3 (some 95) ?_
           refine pu 5 (some 97) ?_
           refine pu 6 (some 98) ?_
           refine pu 7 (some 99) ?_
           refine take_ (i := 4) (N := some 96) (v := ?_) (a' := ?_) #[tT,tT,tT,tT,tT,tT,tT,tT,fF,fF,fF,fF] rfl rfl (take_ofW HT_.out HW_.out (by kernel_rfl)) (fun _ _ _ h => h) (Or.inl ⟨by rfl, ?_⟩) hHeld ?_ ?_
           rotate_left
           ·rintro w' ⟨s0, s1, s2, s3, s4, s5⟩
            go_simp
            with_reducible rfl
           rotate_left
           ·simp only [Act.put, sA, sB, sC, i64_w, i32_w]
            rfl
           refine take_ (i := 8) (N := some 100) (v := ?_) (a' := ?_) #[tT,tT,tT,tT,tT,tT,tT,tT,tT,fF,fF,fF] rfl rfl (take_ofW HT_.out HW_.out (by kernel_rfl)) (fun _ _ _ h => h) (Or.inl ⟨by rfl, ?_⟩) hHeld ?_ ?_
           rotate_left
           ·rintro w' ⟨s0, s1, s2, s3, s4, s5⟩
            go_simp
            with_reducible rfl
           rotate_left
           ·simp only [Act.put, sA, sB, sC, i64_w, i32_w]
            rfl
           refine one_ (i := 9) (N := some 101) #[tT,tT,tT,tT,tT,tT,tT,tT,tT,tT,fF,fF] rfl rfl (one_of HT_.out (by kernel_rfl)) (by decide) (fun K hK => ?_)
           refine goesF_ Tryd.func41 (by kernel_rfl) rfl #[.agg #[.string ((rd_T46 l0 a2).f0), .int .i64 ((rd_T46 l0 a2).f1), .string ((rd_T46 l0 a2).f2)], .agg #[.string ((rd_T46 l0 (ji37)).f0), .int .i64 ((rd_T46 l0 (ji37)).f1), .string ((rd_T46 l0 (ji37)).f2)]] (by rfl) rfl rfl (by rfl) (by (try simp only [mT, mC, mN]); first | done | (simp only [hji37]; rfl) | rfl | (simp only [lD, lT]; rfl)) ?_
           with_reducible refine (tree_order.calls ((rd_T46 l0 a2).f0) ((rd_T46 l0 a2).f1) ((rd_T46 l0 a2).f2) ((rd_T46 l0 (ji37)).f0) ((rd_T46 l0 (ji37)).f1) ((rd_T46 l0 (ji37)).f2) t315 _ A40.out).mono ?_
           rintro e w47 ⟨rfl, hb⟩; have HS0_ := (hb.cell (wB _ _ (hHeld.1))).trans (hHeld.1); have HS1_ := (hb.cell (wB _ _ (hHeld.2.1))).trans (hHeld.2.1); have HS2_ := (hb.cell (wB _ _ (hHeld.2.2.1))).trans (hHeld.2.2.1); have HS3_ := (hb.cell (wB _ _ (hHeld.2.2.2.1))).trans (hHeld.2.2.2.1); have HS4_ := (hb.cell (wB _ _ (hHeld.2.2.2.2.1))).trans (hHeld.2.2.2.2.1); have HS5_ := (hb.cell (wB _ _ (hHeld.2.2.2.2.2))).trans (hHeld.2.2.2.2.2); refine ⟨_, rfl, ?_⟩
           replace HO_0 := am (Kd.R_below (rz HO_0.out) hb); replace HK := am (Kept.below (S := (fun k_ => P0_ k_)) kz hb); replace HB := bs hb; refine hK.out _ _ ⟨HS0_, HS1_, HS2_, HS3_, HS4_, HS5_⟩ (fun hHeld => ?_)
           clear hK K; refine norm_ (a' := ?_) ?_ ?_
           rotate_left
           ·show Act.put _ (some 101) _ = _
            simp only [Act.put, sA, sB, sC, i64_w, i32_w]
            rfl
           refine pu 10 (some 102) ?_
           refine pu 11 (some 103) ?_
           refine done_ (done_of HT_.out (by kernel_rfl)) ?_
           try go_wp2
           go_roundg k1
           case measure => have := HK1.out; omega
           case rel => exact ⟨(wrap64 ((ji37) + 1)), (x15_1), (by first | rfl | (simp; done) | (simp only [← hji37] <;> (first | rfl | simp)) | (simp [*]; done)), (by first | rfl | (simp; done) | (simp [*]; done)), H', ⟨by have := HK1.out; omega⟩, ⟨rz HO_0.out⟩, ⟨kz⟩, ⟨bz⟩⟩
         ·rw [if_neg c39] at H
          exact absurd H (by simp)
        ·rw [if_neg c38] at H
         exact absurd H (by simp)
       ·rw [if_neg c36] at H
        exact absurd H (by simp)
      ·rw [if_neg c35] at H
       exact absurd H (by simp)
     ·rw [if_neg c34] at H
      have c34b0 : decide (x14_1 < x15_1) = false := decide_eq_false c34; clear c34; have H' := am H; clear H; go_wp2
      go_loopg [17] k1 (fun kq v17 w' => ∃ (x0_2 : List (S46)) (x17_2 : Int), v17 = .int .i64 x17_2 ∧ Aside0 (api_Node_71.l3 kq x0_2 x14_1 x17_2 = some r) ∧ Aside0 (kq ≤ k1) ∧ Aside0 (Kd.R k46 46 w' w0.heap.size (fun k_ => (P0_ k_ ∨ w.heap.size ≤ k_)) u9000_ x0_2) ∧ Aside0 (Kept w w' (fun k_ => P0_ k_)) ∧ Aside0 (Below w0.heap.size w0 w'))
      case atStart => exact ⟨(l0), (a2), (by first | rfl | (simp; done) | (simp [*]; done)), H', ⟨Nat.le_refl _⟩, ⟨rz HO_0.out⟩, ⟨kz⟩, ⟨bz⟩⟩
      case round =>
       clear H'; (try clear c1); (try clear c2); (try clear p2); (try clear q2); (try clear hx2); (try clear c3); (try clear p3); (try clear q3); (try clear hx3); (try clear c4); (try clear c6); (try clear c6b0); (try clear c6b1); (try clear p6); (try clear c7); (try clear c7b0); (try clear c9); (try clear c9b0); (try clear c10); (try clear c10b0); (try clear c11); (try clear c11b0); (try clear c12); (try clear c12b0); (try clear c14); (try clear c14b0); (try clear c21); (try clear c21b0); (try clear c23); (try clear c23b0); (try clear c24); (try clear c24b0); (try clear c25); (try clear c25b0); (try clear c26); (try clear c26b0); (try clear c27); (try clear p27); (try clear q27); (try clear hx27); (try clear hf27); (try clear c28); (try clear p28); (try clear q28); (try clear hx28); (try clear hf28); (try clear p30); (try clear q30); (try clear hx30); (try clear c31); (try clear p31); (try clear q31); (try clear hx31); (try clear c32); (try clear c33); (try clear c33b0); (try clear c33b1); (try clear c34); (try clear c34b0); (try clear c35); (try clear c35b0); (try clear c36); (try clear c36b0); (try clear c38); (try clear c38b0); (try clear c39); (try clear c39b0); (try clear c41); (try clear c41b0); (try clear hx27_0); (try clear hx27_1); (try clear hx27_2); (try clear hx28_0); (try clear hx28_1); (try clear hx28_2); (try clear hx306_0); (try clear hx306_1); (try clear hx306_2); (try clear hx307_0); (try clear hx307_1); (try clear hx307_2); (try clear hx309_0); (try clear hx309_1)
       (try clear hx309_2); (try clear hx310_0); (try clear hx310_1); (try clear hx310_2); (try clear hx313_0); (try clear hx313_1); (try clear hx313_2); (try clear hx314_0); (try clear hx314_1); (try clear hx314_2); (try clear p2); (try clear p27); (try clear p28); (try clear p3); (try clear p30); (try clear p306); (try clear p307); (try clear p309); (try clear p31); (try clear p310); (try clear p313); (try clear p314); (try clear p6); (try clear q2); (try clear q27); (try clear q28); (try clear q3); (try clear q30); (try clear q306); (try clear q307); (try clear q309); (try clear q31); (try clear q310); (try clear q313); (try clear q314); obtain ⟨x0_2, x17_2, rfl, HA, HK2, HO_0, HK, HB⟩ := hrel; cases gk with
       | zero => exact absurd HA.out (by simp [api_Node_71.l3])
       | succ k2 =>
        have H := HA.out; clear HA; simp only [api_Node_71.l3] at H
        by_cases c48 : x17_2 > x14_1
        ·rw [if_pos c48] at H
         have c48b0 : decide (x14_1 < x17_2) = true := decide_eq_true c48; clear c48; obtain ⟨ji49, hji49⟩ : ∃ j_ : Int, (wrap64 (x17_2 - 1)) = j_ := ⟨_, rfl⟩; replace H : (if 0 ≤ (ji49) then (if (ji49) < (x0_2.length : Int) then (if 0 ≤ x17_2 then (if x17_2 < (x0_2.length : Int) then (api_Node_71.l3 k2 ((x0_2.set (x17_2 : Int).toNat (⟨(rd_T46 x0_2 (ji49)).f0, (rd_T46 x0_2 (ji49)).f1, (rd_T46 x0_2 (ji49)).f2⟩ : S46)).set ((ji49) : Int).toNat (⟨(rd_T46 x0_2 x17_2).f0, (rd_T46 x0_2 x17_2).f1, (rd_T46 x0_2 x17_2).f2⟩ : S46)) x14_1 ji49) else (none)) else (none)) else (none)) else (none)) = some r := by first | (rw [hji49] at H; exact H) | (simp only [hji49] at H ⊢; exact H)
         have hji49w : (IntKind.i64.wrap (x17_2 - 1)) = ji49 := (i64_w _).trans hji49; by_cases c50 : 0 ≤ (ji49)
         ·rw [if_pos c50] at H
          have c50b0 : decide (0 ≤ (ji49)) = true := decide_eq_true c50; clear c50; by_cases c51 : (ji49) < (x0_2.length : Int)
          ·rw [if_pos c51] at H
           have c51b0 : decide ((ji49) < (x0_2.length : Int)) = true := decide_eq_true c51; clear c51; by_cases c52 : 0 ≤ x17_2
           ·rw [if_pos c52] at H
            have c52b0 : decide (0 ≤ x17_2) = true := decide_eq_true c52; clear c52; by_cases c53 : x17_2 < (x0_2.length : Int)
            ·rw [if_pos c53] at H
             have c53b0 : decide (x17_2 < (x0_2.length : Int)) = true := decide_eq_true c53; clear c53; obtain ⟨y318, hy318⟩ : ∃ y_ : List (S46), y_ = (x0_2.set (x17_2 : Int).toNat (⟨(rd_T46 x0_2 (ji49)).f0, (rd_T46 x0_2 (ji49)).f1, (rd_T46 x0_2 (ji49)).f2⟩ : S46)) := ⟨_, rfl⟩; try rw [← hy318] at H
             have Ny318 := am hy318; clear hy318; obtain ⟨y319, hy319⟩ : ∃ y_ : List (S46), y_ = (y318.set ((ji49) : Int).toNat (⟨(rd_T46 x0_2 x17_2).f0, (rd_T46 x0_2 x17_2).f1, (rd_T46 x0_2 x17_2).f2⟩ : S46)) := ⟨_, rfl⟩; try rw [← hy319] at H
             have Ny319 := am hy319; clear hy319; have H' := am H; clear H; try go_wp2
             replace HO_0 := am (rD HO_0.out); replace HK := am (Kept.drew HK.out); replace HB := am (bO HB.out); obtain ⟨Ao57, co57, eo57⟩ := Kd.R_slice HO_0.out; (first | subst eo57 | (injection eo57 with f1_ f2_ f3_; have f4_ := f1_.symm; have f5_ := f3_.symm; clear f1_ f2_ f3_; subst f4_; subst f5_))
             have p316 : 0 ≤ ((ji49) : Int) := of_decide_eq_true (by assumption); have q316 : (ji49) < (x0_2.length : Int) := of_decide_eq_true (by assumption); obtain ⟨ad316, e316, hx316_0, hx316_1, hx316_2⟩ := at_T46 (Kd.R_reads' HO_0.out).2.2 (ji49) p316 q316; cases e316; replace p316 := eq_true p316; replace q316 := eq_true q316; have p317 : 0 ≤ (x17_2 : Int) := of_decide_eq_true (by assumption); have q317 : x17_2 < (x0_2.length : Int) := of_decide_eq_true (by assumption); obtain ⟨ad317, e317, hx317_0, hx317_1, hx317_2⟩ := at_T46 (Kd.R_reads' HO_0.out).2.2 x17_2 p317 q317; obtain rfl : ad316 = ad317 := (by injection e317); replace p317 := eq_true p317; replace q317 := eq_true q317; have p54 : 0 ≤ (x17_2 : Int) := of_decide_eq_true (by assumption); have q54 : (x17_2 : Int) < ((x0_2.length : Int) : Int) := of_decide_eq_true (by assumption); obtain ⟨go54, co54, eo54, gb54, gl54, cl54, HG54⟩ := Kd.R_form HO_0.out (by omega); (first | cases eo54 | (injection eo54 with ea_ en_ ec_; (first | subst ea_ | (injection ea_ with ea_; subst ea_)); subst ec_; clear en_))
             have GB54 := am gb54; have GG54 := am HG54; clear gb54 gl54 HG54; have HMgo54 := am (show (P0_ go54 ∨ w.heap.size ≤ go54) from (HO_0.out.1 _ rfl)); (first | simp only [add_plain] at hx316_0 | skip)
             (first | simp only [add_plain] at hx316_1 | skip)
             (first | simp only [add_plain] at hx316_2 | skip)
             (first | simp only [add_plain] at hx317_0 | skip)
             (first | simp only [add_plain] at hx317_1 | skip)
             (first | simp only [add_plain] at hx317_2 | skip)
             obtain ⟨ce54, hcl54, hM54, hcc54, hfr54⟩ := Kd.R_elem HO_0.out z46 (x17_2 : Int) p54 q54; obtain rfl := k46_openM hM54; have hx54_0 : World.cell? _ ⟨go54, (x17_2 : Int).toNat * 3, none⟩ = some (.string ((rd_T46 x0_2 x17_2).f0)) := hcc54 0 _ rfl; have hx54_1 : World.cell? _ ⟨go54, (x17_2 : Int).toNat * 3 + 1, none⟩ = some (.int .i64 ((rd_T46 x0_2 x17_2).f1)) := hcc54 1 _ rfl; have hx54_2 : World.cell? _ ⟨go54, (x17_2 : Int).toNat * 3 + 2, none⟩ = some (.string ((rd_T46 x0_2 x17_2).f2)) := hcc54 2 _ rfl; have hf54_0 : World.frozen? _ ⟨go54, (x17_2 : Int).toNat * 3, none⟩ = false := hfr54 0; have hf54_1 : World.frozen? _ ⟨go54, (x17_2 : Int).toNat * 3 + 1, none⟩ = false := hfr54 1; have hf54_2 : World.frozen? _ ⟨go54, (x17_2 : Int).toNat * 3 + 2, none⟩ = false := hfr54 2; clear hcl54 hcc54 hfr54 hM54; replace p54 := eq_true p54; replace q54 := eq_true q54; obtain ⟨ce58, hcl58, hM58, hcc58, hfr58⟩ := Kd.R_elem HO_0.out z46 (x17_2 : Int) (of_decide_eq_true (by assumption)) (by have h_ : (x17_2 : Int) < ((x0_2.length : Int) : Int) := of_decide_eq_true (by assumption); first | exact h_ | (have e_ := (Kd.R_reads' HO_0.out).1; omega) | simpa using h_); obtain rfl := k46_openM hM58; have HP58 := (Kd.R_seg HO_0.out (x17_2 : Int) (of_decide_eq_true (by assumption)) (by have h_ : (x17_2 : Int) < ((x0_2.length : Int) : Int) := of_decide_eq_true (by assumption); first | exact h_ | (have e_ := (Kd.R_reads' HO_0.out).1; omega) | simpa using h_) (seg := [.string ((rd_T46 x0_2 (ji49)).f0), .int .i64 ((rd_T46 x0_2 (ji49)).f1), .string ((rd_T46 x0_2 (ji49)).f2)]) (j := 0) hcl58 hcc58 (show 3 ≤ 3 from by decide) (x' := (⟨(rd_T46 x0_2 (ji49)).f0, (rd_T46 x0_2 (ji49)).f1, (rd_T46 x0_2 (ji49)).f2⟩ : S46)) (k46_mkM _ _ _ (⟨(rd_T46 x0_2 (ji49)).f0, (rd_T46 x0_2 (ji49)).f1, (rd_T46 x0_2 (ji49)).f2⟩ : S46) ) (fun _ hk => hk)).1
             rw [← Ny318.out] at HP58; have HQ58 := am HP58; clear hcl58 hcc58 hfr58 hM58 HP58; have p55 : 0 ≤ ((ji49) : Int) := of_decide_eq_true (by assumption); have q55 : ((ji49) : Int) < ((x0_2.length : Int) : Int) := of_decide_eq_true (by assumption); obtain ⟨ce55, hcl55, hM55, hcc55, hfr55⟩ := Kd.R_elem HQ58.out z46 ((ji49) : Int) p55 q55; obtain rfl := k46_openM hM55; have hx55_0 : World.cell? _ ⟨go54, ((ji49) : Int).toNat * 3, none⟩ = some (.string ((rd_T46 y318 (ji49)).f0)) := hcc55 0 _ rfl; have hx55_1 : World.cell? _ ⟨go54, ((ji49) : Int).toNat * 3 + 1, none⟩ = some (.int .i64 ((rd_T46 y318 (ji49)).f1)) := hcc55 1 _ rfl; have hx55_2 : World.cell? _ ⟨go54, ((ji49) : Int).toNat * 3 + 2, none⟩ = some (.string ((rd_T46 y318 (ji49)).f2)) := hcc55 2 _ rfl; have hf55_0 : World.frozen? _ ⟨go54, ((ji49) : Int).toNat * 3, none⟩ = false := hfr55 0; have hf55_1 : World.frozen? _ ⟨go54, ((ji49) : Int).toNat * 3 + 1, none⟩ = false := hfr55 1; have hf55_2 : World.frozen? _ ⟨go54, ((ji49) : Int).toNat * 3 + 2, none⟩ = false := hfr55 2; (try have hz55_0 := three0 hx55_0)
             (try have hz55_1 := three1 hx55_1)
             (try have hz55_2 := three2 hx55_2)
             (try have hy55_0 := threeF hf55_0)
             (try have hy55_1 := threeF hf55_1)
             (try have hy55_2 := threeF hf55_2)
             clear hcl55 hcc55 hfr55 hM55; replace p55 := eq_true p55; replace q55 := eq_true q55; obtain ⟨ce59, hcl59, hM59, hcc59, hfr59⟩ := Kd.R_elem HQ58.out z46 ((ji49) : Int) (of_decide_eq_true (by assumption)) (by have h_ : ((ji49) : Int) < ((x0_2.length : Int) : Int) := of_decide_eq_true (by assumption); first | exact h_ | (have e_ := (Kd.R_reads' HO_0.out).1; omega) | simpa using h_); obtain rfl := k46_openM hM59; have HP59 := (Kd.R_seg HQ58.out ((ji49) : Int) (of_decide_eq_true (by assumption)) (by have h_ : ((ji49) : Int) < ((x0_2.length : Int) : Int) := of_decide_eq_true (by assumption); first | exact h_ | (have e_ := (Kd.R_reads' HO_0.out).1; omega) | simpa using h_) (seg := [.string ((rd_T46 x0_2 x17_2).f0), .int .i64 ((rd_T46 x0_2 x17_2).f1), .string ((rd_T46 x0_2 x17_2).f2)]) (j := 0) hcl59 hcc59 (show 3 ≤ 3 from by decide) (x' := (⟨(rd_T46 x0_2 x17_2).f0, (rd_T46 x0_2 x17_2).f1, (rd_T46 x0_2 x17_2).f2⟩ : S46)) (k46_mkM _ _ _ (⟨(rd_T46 x0_2 x17_2).f0, (rd_T46 x0_2 x17_2).f1, (rd_T46 x0_2 x17_2).f2⟩ : S46) ) (fun _ hk => hk)).1; rw [← Ny319.out] at HP59; have HQ59 := am HP59; clear hcl59 hcc59 hfr59 hM59 HP59; refine start_ (n := 18) (S := fun w' => w'.cell? ⟨go54, ((ji49)).toNat * 3, none⟩ = some (.string ((rd_T46 x0_2 (ji49)).f0)) ∧ w'.cell? ⟨go54, ((ji49)).toNat * 3 + 1, none⟩ = some (.int .i64 ((rd_T46 x0_2 (ji49)).f1)) ∧ w'.cell? ⟨go54, ((ji49)).toNat * 3 + 2, none⟩ = some (.string ((rd_T46 x0_2 (ji49)).f2)) ∧ w'.cell? ⟨go54, ((x17_2).toNat * 3), none⟩ = some (.string ((rd_T46 x0_2 x17_2).f0)) ∧ w'.cell? ⟨go54, ((x17_2).toNat * 3) + 1, none⟩ = some (.int .i64 ((rd_T46 x0_2 x17_2).f1)) ∧ w'.cell? ⟨go54, ((x17_2).toNat * 3) + 2, none⟩ = some (.string ((rd_T46 x0_2 x17_2).f2))) (ds := [15, 17]) #[fF,fF,fF,fF,fF,fF,fF,fF,fF,fF,fF,fF,fF,fF,fF,fF,fF,fF] (by kernel_rfl) rfl rfl ⟨hx316_0, hx316_1, hx316_2, hx317_0, hx317_1, hx317_2⟩ (fun hHeld => ?_); refine with_tabW api_Node_71.tab23 api_Node_71.bits23 (fun HT_ HW_ => ?_)
             generalize wr.drew = w56 at HO_0 HK HB GG54 HQ58 HQ59 hf54_0 hf54_1 hf54_2 hf55_0 hf55_1 hf55_2 hx316_0 hx316_1 hx316_2 hx317_0 hx317_1 hx317_2 hx54_0 hx54_1 hx54_2 hx55_0 hx55_1 hx55_2 hz55_0 hy55_0 hz55_1 hy55_1 hz55_2 hy55_2 hHeld ⊢
             refine pu 0 (some 113) ?_
             refine pu 1 (some 114) ?_
             refine pu 2 (some 115) ?_
             refine pu 3 (some 116) ?_
             refine pu 4 (some 117) ?_
             refine pu 5 (some 118) ?_
             refine pu 6 (some 119) ?_
             refine pu 7 (some 120) ?_
             refine pu 8 (some 121) ?_
             refine pu 10 (some 123) ?_
             refine pu 11 (some 124) ?_
             refine pu 12 (some 125) ?_
             refine take_ (i := 9) (N := some 122) (v := ?_) (a' := ?_) #[tT,tT,tT,tT,tT,tT,tT,tT,tT,tT,tT,tT,tT,fF,fF,fF,fF,fF] rfl rfl (take_ofW HT_.out HW_.out (by kernel_rfl)) (fun _ _ _ h => h) (Or.inl ⟨by rfl, ?_⟩) hHeld ?_ ?_
             rotate_left
             ·rintro w' ⟨s0, s1, s2, s3, s4, s5⟩
              go_simp
              with_reducible rfl
             rotate_left
             ·simp only [Act.put, sA, sB, sC, i64_w, i32_w]
              rfl
             refine take_ (i := 13) (N := some 126) (v := ?_) (a' := ?_) #[tT,tT,tT,tT,tT,tT,tT,tT,tT,tT,tT,tT,tT,tT,fF,fF,fF,fF] rfl rfl (take_ofW HT_.out HW_.out (by kernel_rfl)) (fun _ _ _ h => h) (Or.inl ⟨by rfl, ?_⟩) hHeld ?_ ?_
             rotate_left
             ·rintro w' ⟨s0, s1, s2, s3, s4, s5⟩
              go_simp
              with_reducible rfl
             rotate_left
             ·simp only [Act.put, sA, sB, sC, i64_w, i32_w]
              rfl
             refine pu 14 (some 127) ?_
             refine last_ (i := 15) (N := none) #[tT,tT,tT,tT,tT,tT,tT,tT,tT,tT,tT,tT,tT,tT,tT,tT,fF,fF] rfl rfl (one_of HT_.out (by kernel_rfl)) (by decide) (fun K hK => ?_)
             refine skip_ (w1 := ?_) (by rfl) rfl ?_ ?_
             rotate_left
             ·go_simp
              rfl
             refine hK.out _ _ ?_
             clear hK K; refine pure_ (i := 16) (N := some 128) (v := ?_) (a' := ?_) #[tT,tT,tT,tT,tT,tT,tT,tT,tT,tT,tT,tT,tT,tT,tT,tT,tT,fF] rfl rfl (any_of HT_.out (by kernel_rfl)) (fun _ _ _ h => h) (Or.inl ⟨by rfl, ?_⟩) ?_ ?_
             rotate_left
             ·intro w'
              go_simp
              with_reducible rfl
             rotate_left
             ·simp only [Act.put, sA, sB, sC, i64_w, i32_w]
              rfl
             refine last_ (i := 17) (N := none) #[tT,tT,tT,tT,tT,tT,tT,tT,tT,tT,tT,tT,tT,tT,tT,tT,tT,tT] rfl rfl (one_of HT_.out (by kernel_rfl)) (by decide) (fun K hK => ?_)
             refine skip_ (w1 := ?_) (by rfl) rfl ?_ ?_
             rotate_left
             ·go_simp
              rfl
             refine hK.out _ _ ?_
             clear hK K; refine done_ (done_of HT_.out (by kernel_rfl)) ?_
             try go_wp2
             go_roundg k2
             case measure => have := HK1.out; have := HK2.out; omega
             case rel => exact ⟨(y319), (ji49), (by first | rfl | (simp; done) | (simp only [← hji49] <;> (first | rfl | simp)) | (simp [*]; done)), H', ⟨by have := HK1.out; have := HK2.out; omega⟩, ⟨rz HQ59.out⟩, ⟨by repeat (first | (with_reducible first | exact HK.out | apply Kept.alloc | apply Kept.drewN | apply Kept.drew | refine Kept.setCell ?_ HMgo54.out _ | refine Kept.setCell ?_ HMgo54.out _ | refine Kept.setCell ?_ HMgo54.out _ | refine Kept.setCell ?_ HMgo54.out _ | refine Kept.setCell ?_ HMgo54.out _ | refine Kept.setCell ?_ HMgo54.out _) | exact HK.out)⟩, ⟨by repeat (first | (with_reducible first | exact HB.out | apply bA | apply bN | apply bO | refine below_set ?_ GB54.out | refine below_set ?_ GB54.out | refine below_set ?_ GB54.out | refine below_set ?_ GB54.out | refine below_set ?_ GB54.out | refine below_set ?_ GB54.out) | exact HB.out)⟩⟩
            ·rw [if_neg c53] at H
             exact absurd H (by simp)
           ·rw [if_neg c52] at H
            exact absurd H (by simp)
          ·rw [if_neg c51] at H
           exact absurd H (by simp)
         ·rw [if_neg c50] at H
          exact absurd H (by simp)
        ·rw [if_neg c48] at H
         have c48b0 : decide (x14_1 < x17_2) = false := decide_eq_false c48; clear c48; obtain rfl := Option.some.inj H; go_wp2
         first | go_end0 | ((try simp only [Exit.inBlock, Exit.then]); refine bodyPost_ret (results_none rfl _ _ _) rfl ?_)
         exact ⟨ez, by (with_reducible repeat (first | apply rA | apply rN | apply rD)); exact HO_0.out, by repeat (first | (with_reducible first | exact HB.out | apply bA | apply bN | apply bO) | exact HB.out), kz⟩
  ·exact absurd hd c33
set_option maxHeartbeats 8000000 in
set_option maxRecDepth 100000 in
theorem api_Node_71.calls_C (k : Nat) (ih : ∀ m, m < k + 1 → ∀ (P0_ : Nat → Prop) (u9000_ : Value) (l0 : List (S46)) (a1 : Int) (a2 : Int) (a3 : Int) (a4 : Bool) (r : List (S46)) (w0 w : World) (hB : Below w0.heap.size w0 w) (ho0 : Kd.R k46 46 w w0.heap.size P0_ u9000_ l0) (h : api_Node_71.f m l0 a1 a2 a3 a4 = some r),
  Calls Tryd.prog 71 #[u9000_, .int .i64 a1, .int .i64 a2, .int .i64 a3, .func (.func 41) #[] #[]] w fun e w' => e = .returned (.tuple #[]) ∧ Kd.R k46 46 w' w0.heap.size (fun k_ => (P0_ k_ ∨ w.heap.size ≤ k_)) u9000_ r ∧ Below w0.heap.size w0 w' ∧ Kept w w' (fun k_ => P0_ k_)) (P0_ : Nat → Prop) (u9000_ : Value) (l0 : List (S46)) (a1 : Int) (a2 : Int) (a3 : Int) (a4 : Bool) (r : List (S46)) (w0 w : World) (hB : Below w0.heap.size w0 w) (ho0 : Kd.R k46 46 w w0.heap.size P0_ u9000_ l0) (h : api_Node_71.f (k + 1) l0 a1 a2 a3 a4 = some r) (hc : ¬ ((wrap64 (a2 - a1)) = 1)) (hd : ¬ ((wrap64 (a3 - a2)) = 1)) :
  Calls Tryd.prog 71 #[u9000_, .int .i64 a1, .int .i64 a2, .int .i64 a3, .func (.func 41) #[] #[]] w fun e w' => e = .returned (.tuple #[]) ∧ Kd.R k46 46 w' w0.heap.size (fun k_ => (P0_ k_ ∨ w.heap.size ≤ k_)) u9000_ r ∧ Below w0.heap.size w0 w' ∧ Kept w w' (fun k_ => P0_ k_) := by
 simp only [api_Node_71.f] at h
 have hu46 := Tryd.underlying46; have HO0 := am (show Kd.R k46 46 w w0.heap.size (fun k_ => (P0_ k_ ∨ w.heap.size ≤ k_)) u9000_ l0 from Kd.R_mono ho0 (fun k_ hk => (.inl hk))); have HK := am (Kept.refl w (fun k_ => P0_ k_)); have HW0 := am hB.size; have HB := am hB; clear hB; have H : (if (wrap64 (a2 - a1)) = 1 then (api_Node_71.l0 k l0 a1 a2 a3) else (if (wrap64 (a3 - a2)) = 1 then (api_Node_71.l2 k l0 a2 a1 a2) else (if a2 > (wrap64 ((IntKind.u64.wrap (wrap64 (a1 + a3))) / 2)) then (api_Node_71.j4 k l0 a1 a2 a3 a4 (wrap64 ((IntKind.u64.wrap (wrap64 (a1 + a3))) / 2)) (wrap64 ((wrap64 ((IntKind.u64.wrap (wrap64 (a1 + a3))) / 2)) + a2)) (wrap64 ((wrap64 ((wrap64 ((IntKind.u64.wrap (wrap64 (a1 + a3))) / 2)) + a2)) - a3)) (wrap64 ((IntKind.u64.wrap (wrap64 (a1 + a3))) / 2))) else (api_Node_71.j4 k l0 a1 a2 a3 a4 (wrap64 ((IntKind.u64.wrap (wrap64 (a1 + a3))) / 2)) (wrap64 ((wrap64 ((IntKind.u64.wrap (wrap64 (a1 + a3))) / 2)) + a2)) a1 a2)))) = some r := h; clear h; by_cases c6 : (wrap64 (a2 - a1)) = 1
 ·exact absurd c6 hc
 ·rw [if_neg c6] at H
  clear hc; have c6b0 : ((wrap64 (a2 - a1)) == 1) = false := beq_eq_false_iff_ne.mpr c6; have c6b1 : ((wrap64 (a2 - a1)) != 1) = true := bne_iff_ne.mpr c6; by_cases c33 : (wrap64 (a3 - a2)) = 1
  ·exact absurd c33 hd
  ·rw [if_neg c33] at H
   clear hd; have c33b0 : ((wrap64 (a3 - a2)) == 1) = false := beq_eq_false_iff_ne.mpr c33; have c33b1 : ((wrap64 (a3 - a2)) != 1) = true := bne_iff_ne.mpr c33; have HC60 := am H; clear H; go_enter Tryd.func71, Tryd.ntmps71; go_upto_if 140 with (fail)
   go_cut [20, 21] (fun v20 v21 wc => ∃ (kq : Nat) (x20_59 : Int) (x21_59 : Int), v20 = .int .i64 x20_59 ∧ v21 = .int .i64 x21_59 ∧ Aside0 (api_Node_71.j4 kq l0 a1 a2 a3 a4 (wrap64 ((IntKind.u64.wrap (wrap64 (a1 + a3))) / 2)) (wrap64 ((wrap64 ((IntKind.u64.wrap (wrap64 (a1 + a3))) / 2)) + a2)) x20_59 x21_59 = some r) ∧ Aside0 (kq ≤ k) ∧ Aside0 (Kd.R k46 46 wc w0.heap.size (fun k_ => (P0_ k_ ∨ w.heap.size ≤ k_)) u9000_ l0) ∧ Aside0 (Kept w wc (fun k_ => P0_ k_)) ∧ Aside0 (Below w0.heap.size w0 wc))
   case first =>
    have H := HC60.out; clear HC60; by_cases c61 : a2 > (wrap64 ((IntKind.u64.wrap (wrap64 (a1 + a3))) / 2))
    ·rw [if_pos c61] at H
     have c61b0 : decide ((wrap64 ((IntKind.u64.wrap (wrap64 (a1 + a3))) / 2)) < a2) = true := decide_eq_true c61; clear c61; (first | rw [c61b0] | (simp only [i64_w, i32_w]; rw [c61b0]) | skip)
     have H' := am H; clear H; go_wp2
     go_meet; case rel => exact ⟨_, (wrap64 ((wrap64 ((wrap64 ((IntKind.u64.wrap (wrap64 (a1 + a3))) / 2)) + a2)) - a3)), (wrap64 ((IntKind.u64.wrap (wrap64 (a1 + a3))) / 2)), (by first | rfl | (simp; done) | (simp [*]; done)), (by first | rfl | (simp; done) | (simp [*]; done)), H', ⟨by first | omega | exact Nat.le_refl _⟩, ⟨rz HO0.out⟩, ⟨kz⟩, ⟨bz⟩⟩
    ·rw [if_neg c61] at H
     have c61b0 : decide ((wrap64 ((IntKind.u64.wrap (wrap64 (a1 + a3))) / 2)) < a2) = false := decide_eq_false c61; clear c61; (first | rw [c61b0] | (simp only [i64_w, i32_w]; rw [c61b0]) | skip)
     have H' := am H; clear H; go_wp2
     go_meet; case rel => exact ⟨_, (a1), (a2), (by first | rfl | (simp; done) | (simp [*]; done)), (by first | rfl | (simp; done) | (simp [*]; done)), H', ⟨by first | omega | exact Nat.le_refl _⟩, ⟨rz HO0.out⟩, ⟨kz⟩, ⟨bz⟩⟩
   case rest =>
    clear HC60; (try clear c1); (try clear c2); (try clear p2); (try clear q2); (try clear hx2); (try clear c3); (try clear p3); (try clear q3); (try clear hx3); (try clear c4); (try clear c5); (try clear p5); (try clear q5); (try clear hx5); (try clear hf5); (try clear c6); (try clear c6b0); (try clear c6b1); (try clear p6); (try clear c7); (try clear c7b0); (try clear c9); (try clear c9b0); (try clear c10); (try clear c10b0); (try clear c11); (try clear c11b0); (try clear c12); (try clear c12b0); (try clear c14); (try clear c14b0); (try clear c21); (try clear c21b0); (try clear c23); (try clear c23b0); (try clear c24); (try clear c24b0); (try clear c25); (try clear c25b0); (try clear c26); (try clear c26b0); (try clear c27); (try clear p27); (try clear q27); (try clear hx27); (try clear hf27); (try clear c28); (try clear p28); (try clear q28); (try clear hx28); (try clear hf28); (try clear p30); (try clear q30); (try clear hx30); (try clear c31); (try clear p31); (try clear q31); (try clear hx31); (try clear c32); (try clear c33); (try clear c33b0); (try clear c33b1); (try clear c34); (try clear c34b0); (try clear c35); (try clear c35b0); (try clear c36); (try clear c36b0); (try clear c38); (try clear c38b0); (try clear c39); (try clear c39b0); (try clear c41); (try clear c41b0); (try clear c48); (try clear c48b0); (try clear c50); (try clear c50b0); (try clear c51); (try clear c51b0); (try clear c52); (try clear c52b0); (try clear c53); (try clear c53b0); (try clear c54); (try clear p54)
    (try clear q54); (try clear hx54); (try clear hf54); (try clear c55); (try clear p55); (try clear q55); (try clear hx55); (try clear hf55); (try clear c58); (try clear c59); (try clear c61); (try clear c61b0); (try clear hx27_0); (try clear hx27_1); (try clear hx27_2); (try clear hx28_0); (try clear hx28_1); (try clear hx28_2); (try clear hx306_0); (try clear hx306_1); (try clear hx306_2); (try clear hx307_0); (try clear hx307_1); (try clear hx307_2); (try clear hx309_0); (try clear hx309_1); (try clear hx309_2); (try clear hx310_0); (try clear hx310_1); (try clear hx310_2); (try clear hx313_0); (try clear hx313_1); (try clear hx313_2); (try clear hx314_0); (try clear hx314_1); (try clear hx314_2); (try clear hx316_0); (try clear hx316_1); (try clear hx316_2); (try clear hx317_0); (try clear hx317_1); (try clear hx317_2); (try clear hx54_0); (try clear hx54_1); (try clear hx54_2); (try clear hx55_0); (try clear hx55_1); (try clear hx55_2); (try clear p2); (try clear p27); (try clear p28); (try clear p3); (try clear p30); (try clear p306); (try clear p307); (try clear p309); (try clear p31); (try clear p310); (try clear p313); (try clear p314); (try clear p316); (try clear p317); (try clear p54); (try clear p55); (try clear p6); (try clear q2); (try clear q27); (try clear q28); (try clear q3); (try clear q30); (try clear q306); (try clear q307); (try clear q309); (try clear q31); (try clear q310); (try clear q313); (try clear q314); (try clear q316); (try clear q317); (try clear q54)
    (try clear q55); obtain ⟨kq, x20_59, x21_59, rfl, rfl, HA, HJ59, HO_0, HK, HB⟩ := hcut; cases kq with
    | zero => exact absurd HA.out (by simp [api_Node_71.j4])
    | succ kj59 =>
     have H := HA.out; clear HA; simp only [api_Node_71.j4] at H
     have H' := am H; clear H; go_wp2
     go_loopg [20, 21] kj59 (fun kq v20 v21 w' => ∃ (x20_2 : Int) (x21_2 : Int), v20 = .int .i64 x20_2 ∧ v21 = .int .i64 x21_2 ∧ Aside0 (api_Node_71.l4 kq l0 a1 a2 a3 a4 (wrap64 ((IntKind.u64.wrap (wrap64 (a1 + a3))) / 2)) (wrap64 ((wrap64 ((IntKind.u64.wrap (wrap64 (a1 + a3))) / 2)) + a2)) x20_2 x21_2 (wrap64 ((wrap64 ((wrap64 ((IntKind.u64.wrap (wrap64 (a1 + a3))) / 2)) + a2)) - 1)) = some r) ∧ Aside0 (kq ≤ kj59) ∧ Aside0 (Kd.R k46 46 w' w0.heap.size (fun k_ => (P0_ k_ ∨ w.heap.size ≤ k_)) u9000_ l0) ∧ Aside0 (Kept w w' (fun k_ => P0_ k_)) ∧ Aside0 (Below w0.heap.size w0 w'))
     case atStart => exact ⟨(x20_59), (x21_59), (by first | rfl | (simp; done) | (simp [*]; done)), (by first | rfl | (simp; done) | (simp [*]; done)), H', ⟨Nat.le_refl _⟩, ⟨rz HO_0.out⟩, ⟨kz⟩, ⟨bz⟩⟩
     case round =>
      clear H'; (try clear c1); (try clear c2); (try clear p2); (try clear q2); (try clear hx2); (try clear c3); (try clear p3); (try clear q3); (try clear hx3); (try clear c4); (try clear c5); (try clear p5); (try clear q5); (try clear hx5); (try clear hf5); (try clear c6); (try clear c6b0); (try clear c6b1); (try clear p6); (try clear c7); (try clear c7b0); (try clear c9); (try clear c9b0); (try clear c10); (try clear c10b0); (try clear c11); (try clear c11b0); (try clear c12); (try clear c12b0); (try clear c14); (try clear c14b0); (try clear c21); (try clear c21b0); (try clear c23); (try clear c23b0); (try clear c24); (try clear c24b0); (try clear c25); (try clear c25b0); (try clear c26); (try clear c26b0); (try clear c27); (try clear p27); (try clear q27); (try clear hx27); (try clear hf27); (try clear c28); (try clear p28); (try clear q28); (try clear hx28); (try clear hf28); (try clear p30); (try clear q30); (try clear hx30); (try clear c31); (try clear p31); (try clear q31); (try clear hx31); (try clear c32); (try clear c33); (try clear c33b0); (try clear c33b1); (try clear c34); (try clear c34b0); (try clear c35); (try clear c35b0); (try clear c36); (try clear c36b0); (try clear c38); (try clear c38b0); (try clear c39); (try clear c39b0); (try clear c41); (try clear c41b0); (try clear c48); (try clear c48b0); (try clear c50); (try clear c50b0); (try clear c51); (try clear c51b0); (try clear c52); (try clear c52b0); (try clear c53); (try clear c53b0); (try clear c54); (try clear p54)
      (try clear q54); (try clear hx54); (try clear hf54); (try clear c55); (try clear p55); (try clear q55); (try clear hx55); (try clear hf55); (try clear c58); (try clear c59); (try clear c61); (try clear c61b0); (try clear hx27_0); (try clear hx27_1); (try clear hx27_2); (try clear hx28_0); (try clear hx28_1); (try clear hx28_2); (try clear hx306_0); (try clear hx306_1); (try clear hx306_2); (try clear hx307_0); (try clear hx307_1); (try clear hx307_2); (try clear hx309_0); (try clear hx309_1); (try clear hx309_2); (try clear hx310_0); (try clear hx310_1); (try clear hx310_2); (try clear hx313_0); (try clear hx313_1); (try clear hx313_2); (try clear hx314_0); (try clear hx314_1); (try clear hx314_2); (try clear hx316_0); (try clear hx316_1); (try clear hx316_2); (try clear hx317_0); (try clear hx317_1); (try clear hx317_2); (try clear hx54_0); (try clear hx54_1); (try clear hx54_2); (try clear hx55_0); (try clear hx55_1); (try clear hx55_2); (try clear p2); (try clear p27); (try clear p28); (try clear p3); (try clear p30); (try clear p306); (try clear p307); (try clear p309); (try clear p31); (try clear p310); (try clear p313); (try clear p314); (try clear p316); (try clear p317); (try clear p5); (try clear p54); (try clear p55); (try clear p6); (try clear q2); (try clear q27); (try clear q28); (try clear q3); (try clear q30); (try clear q306); (try clear q307); (try clear q309); (try clear q31); (try clear q310); (try clear q313); (try clear q314); (try clear q316); (try clear q317)
      (try clear q5); (try clear q54); (try clear q55); obtain ⟨x20_2, x21_2, rfl, rfl, HA, HK2, HO_0, HK, HB⟩ := hrel; cases gk with
      | zero => exact absurd HA.out (by simp [api_Node_71.l4])
      | succ k2 =>
       have H := HA.out; clear HA; simp only [api_Node_71.l4] at H
       by_cases c62 : x20_2 < x21_2
       ·rw [if_pos c62] at H
        have c62b0 : decide (x20_2 < x21_2) = true := decide_eq_true c62; clear c62; obtain ⟨ji63, hji63⟩ : ∃ j_ : Int, (wrap64 ((wrap64 ((wrap64 ((wrap64 ((IntKind.u64.wrap (wrap64 (a1 + a3))) / 2)) + a2)) - 1)) - (wrap64 ((IntKind.u64.wrap (wrap64 (x20_2 + x21_2))) / 2)))) = j_ := ⟨_, rfl⟩; replace H : (if 0 ≤ (ji63) then (if (ji63) < (l0.length : Int) then (if 0 ≤ (wrap64 ((IntKind.u64.wrap (wrap64 (x20_2 + x21_2))) / 2)) then (if (wrap64 ((IntKind.u64.wrap (wrap64 (x20_2 + x21_2))) / 2)) < (l0.length : Int) then ((tree_order.f ((rd_T46 l0 (ji63)).f0) ((rd_T46 l0 (ji63)).f1) ((rd_T46 l0 (ji63)).f2) ((rd_T46 l0 (wrap64 ((IntKind.u64.wrap (wrap64 (x20_2 + x21_2))) / 2))).f0) ((rd_T46 l0 (wrap64 ((IntKind.u64.wrap (wrap64 (x20_2 + x21_2))) / 2))).f1) ((rd_T46 l0 (wrap64 ((IntKind.u64.wrap (wrap64 (x20_2 + x21_2))) / 2))).f2)).bind fun t322 => (if t322 < 0 then (api_Node_71.l4 k2 l0 a1 a2 a3 a4 (wrap64 ((IntKind.u64.wrap (wrap64 (a1 + a3))) / 2)) (wrap64 ((wrap64 ((IntKind.u64.wrap (wrap64 (a1 + a3))) / 2)) + a2)) x20_2 (wrap64 ((IntKind.u64.wrap (wrap64 (x20_2 + x21_2))) / 2)) (wrap64 ((wrap64 ((wrap64 ((IntKind.u64.wrap (wrap64 (a1 + a3))) / 2)) + a2)) - 1))) else (api_Node_71.l4 k2 l0 a1 a2 a3 a4 (wrap64 ((IntKind.u64.wrap (wrap64 (a1 + a3))) / 2)) (wrap64 ((wrap64 ((IntKind.u64.wrap (wrap64 (a1 + a3))) / 2)) + a2)) (wrap64 ((wrap64 ((IntKind.u64.wrap (wrap64 (x20_2 + x21_2))) / 2)) + 1)) x21_2 (wrap64 ((wrap64 ((wrap64 ((IntKind.u64.wrap (wrap64 (a1 + a3))) / 2)) + a2)) - 1))))) else (none)) else (none)) else (none)) else (none)) = some r := by first | (rw [hji63] at H; exact H) | (simp only [hji63] at H ⊢; exact H)
        have hji63w : (IntKind.i64.wrap ((wrap64 ((wrap64 ((wrap64 ((IntKind.u64.wrap (wrap64 (a1 + a3))) / 2)) + a2)) - 1)) - (wrap64 ((IntKind.u64.wrap (wrap64 (x20_2 + x21_2))) / 2)))) = ji63 := (i64_w _).trans hji63; by_cases c64 : 0 ≤ (ji63)
        ·rw [if_pos c64] at H
         have c64b0 : decide (0 ≤ (ji63)) = true := decide_eq_true c64; clear c64; by_cases c65 : (ji63) < (l0.length : Int)
         ·rw [if_pos c65] at H
          have c65b0 : decide ((ji63) < (l0.length : Int)) = true := decide_eq_true c65; clear c65; obtain ⟨ji66, hji66⟩ : ∃ j_ : Int, (wrap64 ((IntKind.u64.wrap (wrap64 (x20_2 + x21_2))) / 2)) = j_ := ⟨_, rfl⟩; replace H : (if 0 ≤ (ji66) then (if (ji66) < (l0.length : Int) then ((tree_order.f ((rd_T46 l0 (ji63)).f0) ((rd_T46 l0 (ji63)).f1) ((rd_T46 l0 (ji63)).f2) ((rd_T46 l0 (ji66)).f0) ((rd_T46 l0 (ji66)).f1) ((rd_T46 l0 (ji66)).f2)).bind fun t322 => (if t322 < 0 then (api_Node_71.l4 k2 l0 a1 a2 a3 a4 (wrap64 ((IntKind.u64.wrap (wrap64 (a1 + a3))) / 2)) (wrap64 ((wrap64 ((IntKind.u64.wrap (wrap64 (a1 + a3))) / 2)) + a2)) x20_2 ji66 (wrap64 ((wrap64 ((wrap64 ((IntKind.u64.wrap (wrap64 (a1 + a3))) / 2)) + a2)) - 1))) else (api_Node_71.l4 k2 l0 a1 a2 a3 a4 (wrap64 ((IntKind.u64.wrap (wrap64 (a1 + a3))) / 2)) (wrap64 ((wrap64 ((IntKind.u64.wrap (wrap64 (a1 + a3))) / 2)) + a2)) (wrap64 ((ji66) + 1)) x21_2 (wrap64 ((wrap64 ((wrap64 ((IntKind.u64.wrap (wrap64 (a1 + a3))) / 2)) + a2)) - 1))))) else (none)) else (none)) = some r := by first | (rw [hji66] at H; exact H) | (simp only [hji66] at H ⊢; exact H)
          have hji66w : (IntKind.i64.wrap ((IntKind.u64.wrap (wrap64 (x20_2 + x21_2))) / 2)) = ji66 := (i64_w _).trans hji66; (try rw [hji66] at hji63)
          (try rw [hji66] at hji63w)
          by_cases c67 : 0 ≤ (ji66)
          ·rw [if_pos c67] at H
           have c67b0 : decide (0 ≤ (ji66)) = true := decide_eq_true c67; clear c67; by_cases c68 : (ji66) < (l0.length : Int)
           ·rw [if_pos c68] at H
            have c68b0 : decide ((ji66) < (l0.length : Int)) = true := decide_eq_true c68; clear c68; refine oR H ?_; clear H; intro t322 A69 H; by_cases c70 : t322 < 0
            ·as_aux_lemma =>
              rw [if_pos c70] at H; have c70b0 : decide (t322 < 0) = true := decide_eq_true c70; clear c70; have H' := am H; clear H; try go_wp2
              replace HO_0 := am (rD HO_0.out); replace HK := am (Kept.drew HK.out); replace HB := am (bO HB.out); obtain ⟨Ao72, co72, eo72⟩ := Kd.R_slice HO_0.out; (first | subst eo72 | (injection eo72 with f1_ f2_ f3_; have f4_ := f1_.symm; have f5_ := f3_.symm; clear f1_ f2_ f3_; subst f4_; subst f5_))
              have p320 : 0 ≤ ((ji63) : Int) := of_decide_eq_true (by assumption); have q320 : (ji63) < (l0.length : Int) := of_decide_eq_true (by assumption); obtain ⟨ad320, e320, hx320_0, hx320_1, hx320_2⟩ := at_T46 (Kd.R_reads' HO_0.out).2.2 (ji63) p320 q320; cases e320; replace p320 := eq_true p320; replace q320 := eq_true q320; have p321 : 0 ≤ ((ji66) : Int) := of_decide_eq_true (by assumption); have q321 : (ji66) < (l0.length : Int) := of_decide_eq_true (by assumption); obtain ⟨ad321, e321, hx321_0, hx321_1, hx321_2⟩ := at_T46 (Kd.R_reads' HO_0.out).2.2 (ji66) p321 q321; obtain rfl : ad320 = ad321 := (by injection e321); replace p321 := eq_true p321; replace q321 := eq_true q321; refine start_ (n := 14) (S := fun w' => w'.cell? (ad320.add (((ji63)).toNat * 3)) = some (.string ((rd_T46 l0 (ji63)).f0)) ∧ w'.cell? ⟨(ad320.add (((ji63)).toNat * 3)).block, (ad320.add (((ji63)).toNat * 3)).off + 1, none⟩ = some (.int .i64 ((rd_T46 l0 (ji63)).f1)) ∧ w'.cell? ⟨(ad320.add (((ji63)).toNat * 3)).block, (ad320.add (((ji63)).toNat * 3)).off + 2, none⟩ = some (.string ((rd_T46 l0 (ji63)).f2)) ∧ w'.cell? (ad320.add (((ji66)).toNat * 3)) = some (.string ((rd_T46 l0 (ji66)).f0)) ∧ w'.cell? ⟨(ad320.add (((ji66)).toNat * 3)).block, (ad320.add (((ji66)).toNat * 3)).off + 1, none⟩ = some (.int .i64 ((rd_T46 l0 (ji66)).f1)) ∧ w'.cell? ⟨(ad320.add (((ji66)).toNat * 3)).block, (ad320.add (((ji66)).toNat * 3)).off + 2, none⟩ = some (.string ((rd_T46 l0 (ji66)).f2))) (ds := []) #[fF,fF,fF,fF,fF,fF,fF,fF,fF,fF,fF,fF,fF,fF] (by kernel_rfl) rfl rfl ⟨hx320_0, hx320_1, hx320_2, hx321_0, hx321_1, hx321_2⟩ (fun hHeld => ?_); refine with_tabW api_Node_71.tab35 api_Node_71.bits35 (fun HT_ HW_ => ?_)
              generalize wr.drew = w71 at HO_0 HK HB hx320_0 hx320_1 hx320_2 hx321_0 hx321_1 hx321_2 hHeld ⊢
              refine pu 0 (some 158) ?_
              refine pu 1 (some 159) ?_
              refine pu 2 (some 160) ?_
              refine pu 3 (some 161) ?_
              refine pu 4 (some 162) ?_
              refine pu 5 (some 163) ?_
              refine pu 7 (some 165) ?_
              refine pu 8 (some 166) ?_
              refine pu 9 (some 167) ?_
              refine take_ (i := 6) (N := some 164) (v := ?_) (a' := ?_) #[tT,tT,tT,tT,tT,tT,tT,tT,tT,tT,fF,fF,fF,fF] rfl rfl (take_ofW HT_.out HW_.out (by kernel_rfl)) (fun _ _ _ h => h) (Or.inl ⟨by rfl, ?_⟩) hHeld ?_ ?_
              rotate_left
              ·rintro w' ⟨s0, s1, s2, s3, s4, s5⟩
               go_simp
               with_reducible rfl
              rotate_left
              ·simp only [Act.put, sA, sB, sC, i64_w, i32_w]
               rfl
              refine take_ (i := 10) (N := some 168) (v := ?_) (a' := ?_) #[tT,tT,tT,tT,tT,tT,tT,tT,tT,tT,tT,fF,fF,fF] rfl rfl (take_ofW HT_.out HW_.out (by kernel_rfl)) (fun _ _ _ h => h) (Or.inl ⟨by rfl, ?_⟩) hHeld ?_ ?_
              rotate_left
              ·rintro w' ⟨s0, s1, s2, s3, s4, s5⟩
               go_simp
               with_reducible rfl
              rotate_left
              ·simp only [Act.put, sA, sB, sC, i64_w, i32_w]
               rfl
              refine one_ (i := 11) (N := some 169) #[tT,tT,tT,tT,tT,tT,tT,tT,tT,tT,tT,tT,fF,fF] rfl rfl (one_of HT_.out (by kernel_rfl)) (by decide) (fun K hK => ?_)
              refine goesF_ Tryd.func41 (by kernel_rfl) rfl #[.agg #[.string ((rd_T46 l0 (ji63)).f0), .int .i64 ((rd_T46 l0 (ji63)).f1), .string ((rd_T46 l0 (ji63)).f2)], .agg #[.string ((rd_T46 l0 (ji66)).f0), .int .i64 ((rd_T46 l0 (ji66)).f1), .string ((rd_T46 l0 (ji66)).f2)]] (by rfl) rfl rfl (by rfl) (by (try simp only [mT, mC, mN]); first | done | (simp only [hji63, hji66]; rfl) | rfl | (simp only [lD, lT]; rfl)) ?_
              with_reducible refine (tree_order.calls ((rd_T46 l0 (ji63)).f0) ((rd_T46 l0 (ji63)).f1) ((rd_T46 l0 (ji63)).f2) ((rd_T46 l0 (ji66)).f0) ((rd_T46 l0 (ji66)).f1) ((rd_T46 l0 (ji66)).f2) t322 _ A69.out).mono ?_
              rintro e w73 ⟨rfl, hb⟩; have HS0_ := (hb.cell (wB _ _ (hHeld.1))).trans (hHeld.1); have HS1_ := (hb.cell (wB _ _ (hHeld.2.1))).trans (hHeld.2.1); have HS2_ := (hb.cell (wB _ _ (hHeld.2.2.1))).trans (hHeld.2.2.1); have HS3_ := (hb.cell (wB _ _ (hHeld.2.2.2.1))).trans (hHeld.2.2.2.1); have HS4_ := (hb.cell (wB _ _ (hHeld.2.2.2.2.1))).trans (hHeld.2.2.2.2.1); have HS5_ := (hb.cell (wB _ _ (hHeld.2.2.2.2.2))).trans (hHeld.2.2.2.2.2); refine ⟨_, rfl, ?_⟩
              replace HO_0 := am (Kd.R_below (rz HO_0.out) hb); replace HK := am (Kept.below (S := (fun k_ => P0_ k_)) kz hb); replace HB := bs hb; refine hK.out _ _ ⟨HS0_, HS1_, HS2_, HS3_, HS4_, HS5_⟩ (fun hHeld => ?_)
              clear hK K; refine norm_ (a' := ?_) ?_ ?_
              rotate_left
              ·show Act.put _ (some 169) _ = _
               simp only [Act.put, sA, sB, sC, i64_w, i32_w]
               rfl
              refine pu 12 (some 170) ?_
              refine pu 13 (some 171) ?_
              refine done_ (done_of HT_.out (by kernel_rfl)) ?_
              try go_wp2
              go_roundg k2
              case measure => have := HJ59.out; have := HK2.out; omega
              case rel => exact ⟨(x20_2), (ji66), (by first | rfl | (simp; done) | (simp [*]; done)), (by first | rfl | (simp; done) | (simp only [← hji66] <;> (first | rfl | simp)) | (simp [*]; done)), H', ⟨by have := HJ59.out; have := HK2.out; omega⟩, ⟨rz HO_0.out⟩, ⟨kz⟩, ⟨bz⟩⟩
            ·as_aux_lemma =>
              rw [if_neg c70] at H; have c70b0 : decide (t322 < 0) = false := decide_eq_false c70; clear c70; have H' := am H; clear H; try go_wp2
              replace HO_0 := am (rD HO_0.out); replace HK := am (Kept.drew HK.out); replace HB := am (bO HB.out); obtain ⟨Ao75, co75, eo75⟩ := Kd.R_slice HO_0.out; (first | subst eo75 | (injection eo75 with f1_ f2_ f3_; have f4_ := f1_.symm; have f5_ := f3_.symm; clear f1_ f2_ f3_; subst f4_; subst f5_))
              have p320 : 0 ≤ ((ji63) : Int) := of_decide_eq_true (by assumption); have q320 : (ji63) < (l0.length : Int) := of_decide_eq_true (by assumption); obtain ⟨ad320, e320, hx320_0, hx320_1, hx320_2⟩ := at_T46 (Kd.R_reads' HO_0.out).2.2 (ji63) p320 q320; cases e320; replace p320 := eq_true p320; replace q320 := eq_true q320; have p321 : 0 ≤ ((ji66) : Int) := of_decide_eq_true (by assumption); have q321 : (ji66) < (l0.length : Int) := of_decide_eq_true (by assumption); obtain ⟨ad321, e321, hx321_0, hx321_1, hx321_2⟩ := at_T46 (Kd.R_reads' HO_0.out).2.2 (ji66) p321 q321; obtain rfl : ad320 = ad321 := (by injection e321); replace p321 := eq_true p321; replace q321 := eq_true q321; refine start_ (n := 14) (S := fun w' => w'.cell? (ad320.add (((ji63)).toNat * 3)) = some (.string ((rd_T46 l0 (ji63)).f0)) ∧ w'.cell? ⟨(ad320.add (((ji63)).toNat * 3)).block, (ad320.add (((ji63)).toNat * 3)).off + 1, none⟩ = some (.int .i64 ((rd_T46 l0 (ji63)).f1)) ∧ w'.cell? ⟨(ad320.add (((ji63)).toNat * 3)).block, (ad320.add (((ji63)).toNat * 3)).off + 2, none⟩ = some (.string ((rd_T46 l0 (ji63)).f2)) ∧ w'.cell? (ad320.add (((ji66)).toNat * 3)) = some (.string ((rd_T46 l0 (ji66)).f0)) ∧ w'.cell? ⟨(ad320.add (((ji66)).toNat * 3)).block, (ad320.add (((ji66)).toNat * 3)).off + 1, none⟩ = some (.int .i64 ((rd_T46 l0 (ji66)).f1)) ∧ w'.cell? ⟨(ad320.add (((ji66)).toNat * 3)).block, (ad320.add (((ji66)).toNat * 3)).off + 2, none⟩ = some (.string ((rd_T46 l0 (ji66)).f2))) (ds := []) #[fF,fF,fF,fF,fF,fF,fF,fF,fF,fF,fF,fF,fF,fF] (by kernel_rfl) rfl rfl ⟨hx320_0, hx320_1, hx320_2, hx321_0, hx321_1, hx321_2⟩ (fun hHeld => ?_); refine with_tabW api_Node_71.tab35 api_Node_71.bits35 (fun HT_ HW_ => ?_)
              generalize wr.drew = w74 at HO_0 HK HB hx320_0 hx320_1 hx320_2 hx321_0 hx321_1 hx321_2 hHeld ⊢
              refine pu 0 (some 158) ?_
              refine pu 1 (some 159) ?_
              refine pu 2 (some 160) ?_
              refine pu 3 (some 161) ?_
              refine pu 4 (some 162) ?_
              refine pu 5 (some 163) ?_
              refine pu 7 (some 165) ?_
              refine pu 8 (some 166) ?_
              refine pu 9 (some 167) ?_
              refine take_ (i := 6) (N := some 164) (v := ?_) (a' := ?_) #[tT,tT,tT,tT,tT,tT,tT,tT,tT,tT,fF,fF,fF,fF] rfl rfl (take_ofW HT_.out HW_.out (by kernel_rfl)) (fun _ _ _ h => h) (Or.inl ⟨by rfl, ?_⟩) hHeld ?_ ?_
              rotate_left
              ·rintro w' ⟨s0, s1, s2, s3, s4, s5⟩
               go_simp
               with_reducible rfl
              rotate_left
              ·simp only [Act.put, sA, sB, sC, i64_w, i32_w]
               rfl
              refine take_ (i := 10) (N := some 168) (v := ?_) (a' := ?_) #[tT,tT,tT,tT,tT,tT,tT,tT,tT,tT,tT,fF,fF,fF] rfl rfl (take_ofW HT_.out HW_.out (by kernel_rfl)) (fun _ _ _ h => h) (Or.inl ⟨by rfl, ?_⟩) hHeld ?_ ?_
              rotate_left
              ·rintro w' ⟨s0, s1, s2, s3, s4, s5⟩
               go_simp
               with_reducible rfl
              rotate_left
              ·simp only [Act.put, sA, sB, sC, i64_w, i32_w]
               rfl
              refine one_ (i := 11) (N := some 169) #[tT,tT,tT,tT,tT,tT,tT,tT,tT,tT,tT,tT,fF,fF] rfl rfl (one_of HT_.out (by kernel_rfl)) (by decide) (fun K hK => ?_)
              refine goesF_ Tryd.func41 (by kernel_rfl) rfl #[.agg #[.string ((rd_T46 l0 (ji63)).f0), .int .i64 ((rd_T46 l0 (ji63)).f1), .string ((rd_T46 l0 (ji63)).f2)], .agg #[.string ((rd_T46 l0 (ji66)).f0), .int .i64 ((rd_T46 l0 (ji66)).f1), .string ((rd_T46 l0 (ji66)).f2)]] (by rfl) rfl rfl (by rfl) (by (try simp only [mT, mC, mN]); first | done | (simp only [hji63, hji66]; rfl) | rfl | (simp only [lD, lT]; rfl)) ?_
              with_reducible refine (tree_order.calls ((rd_T46 l0 (ji63)).f0) ((rd_T46 l0 (ji63)).f1) ((rd_T46 l0 (ji63)).f2) ((rd_T46 l0 (ji66)).f0) ((rd_T46 l0 (ji66)).f1) ((rd_T46 l0 (ji66)).f2) t322 _ A69.out).mono ?_
              rintro e w76 ⟨rfl, hb⟩; have HS0_ := (hb.cell (wB _ _ (hHeld.1))).trans (hHeld.1); have HS1_ := (hb.cell (wB _ _ (hHeld.2.1))).trans (hHeld.2.1); have HS2_ := (hb.cell (wB _ _ (hHeld.2.2.1))).trans (hHeld.2.2.1); have HS3_ := (hb.cell (wB _ _ (hHeld.2.2.2.1))).trans (hHeld.2.2.2.1); have HS4_ := (hb.cell (wB _ _ (hHeld.2.2.2.2.1))).trans (hHeld.2.2.2.2.1); have HS5_ := (hb.cell (wB _ _ (hHeld.2.2.2.2.2))).trans (hHeld.2.2.2.2.2); refine ⟨_, rfl, ?_⟩
              replace HO_0 := am (Kd.R_below (rz HO_0.out) hb); replace HK := am (Kept.below (S := (fun k_ => P0_ k_)) kz hb); replace HB := bs hb; refine hK.out _ _ ⟨HS0_, HS1_, HS2_, HS3_, HS4_, HS5_⟩ (fun hHeld => ?_)
              clear hK K; refine norm_ (a' := ?_) ?_ ?_
              rotate_left
              ·show Act.put _ (some 169) _ = _
               simp only [Act.put, sA, sB, sC, i64_w, i32_w]
               rfl
              refine pu 12 (some 170) ?_
              refine pu 13 (some 171) ?_
              refine done_ (done_of HT_.out (by kernel_rfl)) ?_
              try go_wp2
              go_roundg k2
              case measure => have := HJ59.out; have := HK2.out; omega
              case rel => exact ⟨(wrap64 ((ji66) + 1)), (x21_2), (by first | rfl | (simp; done) | (simp only [← hji66] <;> (first | rfl | simp)) | (simp [*]; done)), (by first | rfl | (simp; done) | (simp [*]; done)), H', ⟨by have := HJ59.out; have := HK2.out; omega⟩, ⟨rz HO_0.out⟩, ⟨kz⟩, ⟨bz⟩⟩
           ·rw [if_neg c68] at H
            exact absurd H (by simp)
          ·rw [if_neg c67] at H
           exact absurd H (by simp)
         ·rw [if_neg c65] at H
          exact absurd H (by simp)
        ·rw [if_neg c64] at H
         exact absurd H (by simp)
       ·rw [if_neg c62] at H
        have c62b0 : decide (x20_2 < x21_2) = false := decide_eq_false c62; clear c62; have HC77 := am H; clear H; go_upto_region 39 with (fail)
        go_cut [185] (fun v185 wc => ∃ (kq : Nat) (x185_76 : Bool), v185 = .bool x185_76 ∧ Aside0 (api_Node_71.j6 kq l0 a1 a2 a3 a4 (wrap64 ((IntKind.u64.wrap (wrap64 (a1 + a3))) / 2)) x20_2 (wrap64 ((wrap64 ((wrap64 ((IntKind.u64.wrap (wrap64 (a1 + a3))) / 2)) + a2)) - x20_2)) x185_76 = some r) ∧ Aside0 (kq ≤ k2) ∧ Aside0 (Kd.R k46 46 wc w0.heap.size (fun k_ => (P0_ k_ ∨ w.heap.size ≤ k_)) u9000_ l0) ∧ Aside0 (Kept w wc (fun k_ => P0_ k_)) ∧ Aside0 (Below w0.heap.size w0 wc))
        case first =>
         have H := HC77.out; clear HC77; by_cases c78 : x20_2 < a2
         ·rw [if_pos c78] at H
          have c78b0 : decide (x20_2 < a2) = true := decide_eq_true c78; clear c78; (first | rw [c78b0] | (simp only [i64_w, i32_w]; rw [c78b0]) | skip)
          have H' := am H; clear H; go_wp2
          go_meet; case rel => exact ⟨_, (decide (a2 < (wrap64 ((wrap64 ((wrap64 ((IntKind.u64.wrap (wrap64 (a1 + a3))) / 2)) + a2)) - x20_2)))), (by first | rfl | (simp; done) | (simp [*]; done)), H', ⟨by have := HJ59.out; have := HK2.out; first | omega | exact Nat.le_refl _⟩, ⟨rz HO_0.out⟩, ⟨kz⟩, ⟨bz⟩⟩
         ·rw [if_neg c78] at H
          have c78b0 : decide (x20_2 < a2) = false := decide_eq_false c78; clear c78; (first | rw [c78b0] | (simp only [i64_w, i32_w]; rw [c78b0]) | skip)
          have H' := am H; clear H; go_wp2
          go_meet; case rel => exact ⟨_, (false), (by first | rfl | (simp; done) | (simp [*]; done)), H', ⟨by have := HJ59.out; have := HK2.out; first | omega | exact Nat.le_refl _⟩, ⟨rz HO_0.out⟩, ⟨kz⟩, ⟨bz⟩⟩
        case rest =>
         clear HC77; (try clear c1); (try clear c2); (try clear p2); (try clear q2); (try clear hx2); (try clear c3); (try clear p3); (try clear q3); (try clear hx3); (try clear c4); (try clear c5); (try clear p5); (try clear q5); (try clear hx5); (try clear hf5); (try clear c6); (try clear c6b0); (try clear c6b1); (try clear p6); (try clear c7); (try clear c7b0); (try clear c9); (try clear c9b0); (try clear c10); (try clear c10b0); (try clear c11); (try clear c11b0); (try clear c12); (try clear c12b0); (try clear c14); (try clear c14b0); (try clear c21); (try clear c21b0); (try clear c23); (try clear c23b0); (try clear c24); (try clear c24b0); (try clear c25); (try clear c25b0); (try clear c26); (try clear c26b0); (try clear c27); (try clear p27); (try clear q27); (try clear hx27); (try clear hf27); (try clear c28); (try clear p28); (try clear q28); (try clear hx28); (try clear hf28); (try clear p30); (try clear q30); (try clear hx30); (try clear c31); (try clear p31); (try clear q31); (try clear hx31); (try clear c32); (try clear p32); (try clear q32); (try clear hx32); (try clear c33); (try clear c33b0); (try clear c33b1); (try clear c34); (try clear c34b0); (try clear c35); (try clear c35b0); (try clear c36); (try clear c36b0); (try clear c38); (try clear c38b0); (try clear c39); (try clear c39b0); (try clear c41); (try clear c41b0); (try clear c48); (try clear c48b0); (try clear c50); (try clear c50b0); (try clear c51); (try clear c51b0); (try clear c52); (try clear c52b0)
         (try clear c53); (try clear c53b0); (try clear c54); (try clear p54); (try clear q54); (try clear hx54); (try clear hf54); (try clear c55); (try clear p55); (try clear q55); (try clear hx55); (try clear hf55); (try clear c58); (try clear c59); (try clear c61); (try clear c61b0); (try clear c62); (try clear c62b0); (try clear c64); (try clear c64b0); (try clear p64); (try clear c65); (try clear c65b0); (try clear c67); (try clear c67b0); (try clear c68); (try clear c68b0); (try clear c70); (try clear c70b0); (try clear c78); (try clear c78b0); (try clear hx27_0); (try clear hx27_1); (try clear hx27_2); (try clear hx28_0); (try clear hx28_1); (try clear hx28_2); (try clear hx306_0); (try clear hx306_1); (try clear hx306_2); (try clear hx307_0); (try clear hx307_1); (try clear hx307_2); (try clear hx309_0); (try clear hx309_1); (try clear hx309_2); (try clear hx310_0); (try clear hx310_1); (try clear hx310_2); (try clear hx313_0); (try clear hx313_1); (try clear hx313_2); (try clear hx314_0); (try clear hx314_1); (try clear hx314_2); (try clear hx316_0); (try clear hx316_1); (try clear hx316_2); (try clear hx317_0); (try clear hx317_1); (try clear hx317_2); (try clear hx320_0); (try clear hx320_1); (try clear hx320_2); (try clear hx321_0); (try clear hx321_1); (try clear hx321_2); (try clear hx54_0); (try clear hx54_1); (try clear hx54_2); (try clear hx55_0); (try clear hx55_1); (try clear hx55_2); (try clear p2); (try clear p27); (try clear p28); (try clear p3); (try clear p30)
         (try clear p306); (try clear p307); (try clear p309); (try clear p31); (try clear p310); (try clear p313); (try clear p314); (try clear p316); (try clear p317); (try clear p320); (try clear p321); (try clear p5); (try clear p54); (try clear p55); (try clear p6); (try clear q2); (try clear q27); (try clear q28); (try clear q3); (try clear q30); (try clear q306); (try clear q307); (try clear q309); (try clear q31); (try clear q310); (try clear q313); (try clear q314); (try clear q316); (try clear q317); (try clear q320); (try clear q321); (try clear q5); (try clear q54); (try clear q55); obtain ⟨kq, x185_76, rfl, HA, HJ76, HO_0, HK, HB⟩ := hcut; cases kq with
         | zero => exact absurd HA.out (by simp [api_Node_71.j6])
         | succ kj76 =>
          have H := HA.out; clear HA; simp only [api_Node_71.j6] at H
          have HC79 := am H; clear H; go_upto_if 185 with (fail)
          go_cut [] (fun wc => ∃ (kq : Nat) (x0_78 : List (S46)), Aside0 (api_Node_71.j7 kq x0_78 a1 a3 a4 (wrap64 ((IntKind.u64.wrap (wrap64 (a1 + a3))) / 2)) x20_2 (wrap64 ((wrap64 ((wrap64 ((IntKind.u64.wrap (wrap64 (a1 + a3))) / 2)) + a2)) - x20_2)) = some r) ∧ Aside0 (kq ≤ kj76) ∧ Aside0 (Kd.R k46 46 wc w0.heap.size (fun k_ => (P0_ k_ ∨ w.heap.size ≤ k_)) u9000_ x0_78) ∧ Aside0 (Kept w wc (fun k_ => P0_ k_)) ∧ Aside0 (Below w0.heap.size w0 wc))
          case first =>
           have H := HC79.out; clear HC79; by_cases c80 : x185_76 = true
           ·subst c80
            have H1 : ((api_Node_79.f kj76 l0 x20_2 a2 (wrap64 ((wrap64 ((wrap64 ((IntKind.u64.wrap (wrap64 (a1 + a3))) / 2)) + a2)) - x20_2)) a4).bind fun t323 => (api_Node_71.j7 kj76 t323 a1 a3 a4 (wrap64 ((IntKind.u64.wrap (wrap64 (a1 + a3))) / 2)) x20_2 (wrap64 ((wrap64 ((wrap64 ((IntKind.u64.wrap (wrap64 (a1 + a3))) / 2)) + a2)) - x20_2)))) = some r := by rw [if_pos rfl] at H; exact H
            clear H; have H := H1; clear H1; refine oR H ?_; clear H; intro t323 A81 H; have H' := am H; clear H; obtain ⟨Ao82, co82, eo82⟩ := Kd.R_slice HO_0.out; subst eo82; go_wp2_with (first | ((with_reducible refine gate_callee (f := 79) rfl ?_); refine gL (some 191) Tryd.func79 #[.slice Ao82 l0.length co82, .int .i64 x20_2, .int .i64 a2, .int .i64 (wrap64 ((wrap64 ((wrap64 ((IntKind.u64.wrap (wrap64 (a1 + a3))) / 2)) + a2)) - x20_2)), .func (.func 41) #[] #[]] ?_; (with_reducible refine (api_Node_79.calls kj76 (fun k_ => some k_ = (.slice Ao82 l0.length co82 : Value).ownBlock) (.slice Ao82 l0.length co82) l0 x20_2 a2 (wrap64 ((wrap64 ((wrap64 ((IntKind.u64.wrap (wrap64 (a1 + a3))) / 2)) + a2)) - x20_2)) a4 t323 w0 _ ?side1 ?side2 A81.out).mono ?_); (case side1 => repeat (first | (with_reducible first | exact HB.out | apply bA | apply bN | apply bO) | exact HB.out)); (case side2 => exact Kd.R_tight rfl HO_0.out); rintro e w83 ⟨rfl, hy0, hb, hkp⟩; refine ⟨_, rfl, ?_⟩; replace HK := am (Kept.then_ (S := (fun k_ => P0_ k_)) kz hkp (fun k_ hs_ => (fun e_ => (HO_0.out.1 k_ e_.symm)) hs_)); replace HO_0 := am (Kd.R_reok rfl hy0 (fun k_ e_ => HO_0.out.1 k_ e_)); replace HB := am (hb); (try clear hb); (try clear hkp); (try clear hy0)))
            go_meet; case rel => exact ⟨_, (t323), H', ⟨by have := HJ59.out; have := HK2.out; have := HJ76.out; first | omega | exact Nat.le_refl _⟩, ⟨rz HO_0.out⟩, ⟨kz⟩, ⟨bz⟩⟩
           ·replace c80 := Bool.eq_false_iff.mpr c80
            subst c80; have H1 : (api_Node_71.j7 kj76 l0 a1 a3 a4 (wrap64 ((IntKind.u64.wrap (wrap64 (a1 + a3))) / 2)) x20_2 (wrap64 ((wrap64 ((wrap64 ((IntKind.u64.wrap (wrap64 (a1 + a3))) / 2)) + a2)) - x20_2))) = some r := by rw [if_neg (show ¬ (false = true) by decide)] at H; exact H
            clear H; have H := H1; clear H1; have H' := am H; clear H; go_wp2
            go_meet; case rel => exact ⟨_, (l0), H', ⟨by have := HJ59.out; have := HK2.out; have := HJ76.out; first | omega | exact Nat.le_refl _⟩, ⟨rz HO_0.out⟩, ⟨kz⟩, ⟨bz⟩⟩
          case rest =>
           clear HC79; (try clear c1); (try clear c2); (try clear p2); (try clear q2); (try clear hx2); (try clear c3); (try clear p3); (try clear q3); (try clear hx3); (try clear c4); (try clear c5); (try clear p5); (try clear q5); (try clear hx5); (try clear hf5); (try clear c6); (try clear c6b0); (try clear c6b1); (try clear p6); (try clear c7); (try clear c7b0); (try clear c8); (try clear c9); (try clear c9b0); (try clear c10); (try clear c10b0); (try clear c11); (try clear c11b0); (try clear c12); (try clear c12b0); (try clear c14); (try clear c14b0); (try clear c21); (try clear c21b0); (try clear c23); (try clear c23b0); (try clear c24); (try clear c24b0); (try clear c25); (try clear c25b0); (try clear c26); (try clear c26b0); (try clear c27); (try clear p27); (try clear q27); (try clear hx27); (try clear hf27); (try clear c28); (try clear p28); (try clear q28); (try clear hx28); (try clear hf28); (try clear p30); (try clear q30); (try clear hx30); (try clear c31); (try clear p31); (try clear q31); (try clear hx31); (try clear c32); (try clear p32); (try clear q32); (try clear hx32); (try clear c33); (try clear c33b0); (try clear c33b1); (try clear c34); (try clear c34b0); (try clear c35); (try clear c35b0); (try clear c36); (try clear c36b0); (try clear c38); (try clear c38b0); (try clear c39); (try clear c39b0); (try clear c41); (try clear c41b0); (try clear c48); (try clear c48b0); (try clear c50); (try clear c50b0); (try clear c51); (try clear c51b0); (try clear c52)
           (try clear c52b0); (try clear c53); (try clear c53b0); (try clear c54); (try clear p54); (try clear q54); (try clear hx54); (try clear hf54); (try clear c55); (try clear p55); (try clear q55); (try clear hx55); (try clear hf55); (try clear c58); (try clear c59); (try clear c61); (try clear c61b0); (try clear c62); (try clear c62b0); (try clear c64); (try clear c64b0); (try clear p64); (try clear c65); (try clear c65b0); (try clear c67); (try clear c67b0); (try clear c68); (try clear c68b0); (try clear c70); (try clear c70b0); (try clear c78); (try clear c78b0); (try clear c79); (try clear c80); (try clear hx27_0); (try clear hx27_1); (try clear hx27_2); (try clear hx28_0); (try clear hx28_1); (try clear hx28_2); (try clear hx306_0); (try clear hx306_1); (try clear hx306_2); (try clear hx307_0); (try clear hx307_1); (try clear hx307_2); (try clear hx309_0); (try clear hx309_1); (try clear hx309_2); (try clear hx310_0); (try clear hx310_1); (try clear hx310_2); (try clear hx313_0); (try clear hx313_1); (try clear hx313_2); (try clear hx314_0); (try clear hx314_1); (try clear hx314_2); (try clear hx316_0); (try clear hx316_1); (try clear hx316_2); (try clear hx317_0); (try clear hx317_1); (try clear hx317_2); (try clear hx320_0); (try clear hx320_1); (try clear hx320_2); (try clear hx321_0); (try clear hx321_1); (try clear hx321_2); (try clear hx54_0); (try clear hx54_1); (try clear hx54_2); (try clear hx55_0); (try clear hx55_1); (try clear hx55_2); (try clear p2); (try clear p27)
           (try clear p28); (try clear p3); (try clear p30); (try clear p306); (try clear p307); (try clear p309); (try clear p31); (try clear p310); (try clear p313); (try clear p314); (try clear p316); (try clear p317); (try clear p32); (try clear p320); (try clear p321); (try clear p5); (try clear p54); (try clear p55); (try clear p6); (try clear p64); (try clear q2); (try clear q27); (try clear q28); (try clear q3); (try clear q30); (try clear q306); (try clear q307); (try clear q309); (try clear q31); (try clear q310); (try clear q313); (try clear q314); (try clear q316); (try clear q317); (try clear q32); (try clear q320); (try clear q321); (try clear q5); (try clear q54); (try clear q55); obtain ⟨kq, x0_78, HA, HJ78, HO_0, HK, HB⟩ := hcut; cases kq with
           | zero => exact absurd HA.out (by simp [api_Node_71.j7])
           | succ kj78 =>
            have H := HA.out; clear HA; simp only [api_Node_71.j7] at H
            have HC84 := am H; clear H; go_upto_region 41 with (fail)
            go_cut [199] (fun v199 wc => ∃ (kq : Nat) (x199_83 : Bool), v199 = .bool x199_83 ∧ Aside0 (api_Node_71.j8 kq x0_78 a1 a3 a4 (wrap64 ((IntKind.u64.wrap (wrap64 (a1 + a3))) / 2)) x20_2 (wrap64 ((wrap64 ((wrap64 ((IntKind.u64.wrap (wrap64 (a1 + a3))) / 2)) + a2)) - x20_2)) x199_83 = some r) ∧ Aside0 (kq ≤ kj78) ∧ Aside0 (Kd.R k46 46 wc w0.heap.size (fun k_ => (P0_ k_ ∨ w.heap.size ≤ k_)) u9000_ x0_78) ∧ Aside0 (Kept w wc (fun k_ => P0_ k_)) ∧ Aside0 (Below w0.heap.size w0 wc))
            case first =>
             have H := HC84.out; clear HC84; by_cases c85 : a1 < x20_2
             ·rw [if_pos c85] at H
              have c85b0 : decide (a1 < x20_2) = true := decide_eq_true c85; clear c85; (first | rw [c85b0] | (simp only [i64_w, i32_w]; rw [c85b0]) | skip)
              have H' := am H; clear H; go_wp2
              go_meet; case rel => exact ⟨_, (decide (x20_2 < (wrap64 ((IntKind.u64.wrap (wrap64 (a1 + a3))) / 2)))), (by first | rfl | (simp; done) | (simp [*]; done)), H', ⟨by have := HJ59.out; have := HK2.out; have := HJ76.out; have := HJ78.out; first | omega | exact Nat.le_refl _⟩, ⟨rz HO_0.out⟩, ⟨kz⟩, ⟨bz⟩⟩
             ·rw [if_neg c85] at H
              have c85b0 : decide (a1 < x20_2) = false := decide_eq_false c85; clear c85; (first | rw [c85b0] | (simp only [i64_w, i32_w]; rw [c85b0]) | skip)
              have H' := am H; clear H; go_wp2
              go_meet; case rel => exact ⟨_, (false), (by first | rfl | (simp; done) | (simp [*]; done)), H', ⟨by have := HJ59.out; have := HK2.out; have := HJ76.out; have := HJ78.out; first | omega | exact Nat.le_refl _⟩, ⟨rz HO_0.out⟩, ⟨kz⟩, ⟨bz⟩⟩
            case rest =>
             as_aux_lemma =>
              clear HC84; (try clear c1); (try clear c2); (try clear p2); (try clear q2); (try clear hx2); (try clear c3); (try clear p3); (try clear q3); (try clear hx3); (try clear c4); (try clear c5); (try clear p5); (try clear q5); (try clear hx5); (try clear hf5); (try clear c6); (try clear c6b0); (try clear c6b1); (try clear p6); (try clear c7); (try clear c7b0); (try clear c8); (try clear c9); (try clear c9b0); (try clear c10); (try clear c10b0); (try clear c11); (try clear c11b0); (try clear c12); (try clear c12b0); (try clear c14); (try clear c14b0); (try clear c21); (try clear c21b0); (try clear c23); (try clear c23b0); (try clear c24); (try clear c24b0); (try clear c25); (try clear c25b0); (try clear c26); (try clear c26b0); (try clear c27); (try clear p27); (try clear q27); (try clear hx27); (try clear hf27); (try clear c28); (try clear p28); (try clear q28); (try clear hx28); (try clear hf28); (try clear p30); (try clear q30); (try clear hx30); (try clear c31); (try clear p31); (try clear q31); (try clear hx31); (try clear c32); (try clear p32); (try clear q32); (try clear hx32); (try clear c33); (try clear c33b0); (try clear c33b1); (try clear c34); (try clear c34b0); (try clear c35); (try clear c35b0); (try clear c36); (try clear c36b0); (try clear c38); (try clear c38b0); (try clear c39); (try clear c39b0); (try clear c41); (try clear c41b0); (try clear c48); (try clear c48b0); (try clear c50); (try clear c50b0); (try clear c51); (try clear c51b0); (try clear c52)
              (try clear c52b0); (try clear c53); (try clear c53b0); (try clear c54); (try clear p54); (try clear q54); (try clear hx54); (try clear hf54); (try clear c55); (try clear p55); (try clear q55); (try clear hx55); (try clear hf55); (try clear c58); (try clear c59); (try clear c61); (try clear c61b0); (try clear c62); (try clear c62b0); (try clear c64); (try clear c64b0); (try clear p64); (try clear c65); (try clear c65b0); (try clear c67); (try clear c67b0); (try clear c68); (try clear c68b0); (try clear c70); (try clear c70b0); (try clear c78); (try clear c78b0); (try clear c79); (try clear c80); (try clear c85); (try clear c85b0); (try clear hx27_0); (try clear hx27_1); (try clear hx27_2); (try clear hx28_0); (try clear hx28_1); (try clear hx28_2); (try clear hx306_0); (try clear hx306_1); (try clear hx306_2); (try clear hx307_0); (try clear hx307_1); (try clear hx307_2); (try clear hx309_0); (try clear hx309_1); (try clear hx309_2); (try clear hx310_0); (try clear hx310_1); (try clear hx310_2); (try clear hx313_0); (try clear hx313_1); (try clear hx313_2); (try clear hx314_0); (try clear hx314_1); (try clear hx314_2); (try clear hx316_0); (try clear hx316_1); (try clear hx316_2); (try clear hx317_0); (try clear hx317_1); (try clear hx317_2); (try clear hx320_0); (try clear hx320_1); (try clear hx320_2); (try clear hx321_0); (try clear hx321_1); (try clear hx321_2); (try clear hx54_0); (try clear hx54_1); (try clear hx54_2); (try clear hx55_0); (try clear hx55_1)
              (try clear hx55_2); (try clear p2); (try clear p27); (try clear p28); (try clear p3); (try clear p30); (try clear p306); (try clear p307); (try clear p309); (try clear p31); (try clear p310); (try clear p313); (try clear p314); (try clear p316); (try clear p317); (try clear p32); (try clear p320); (try clear p321); (try clear p5); (try clear p54); (try clear p55); (try clear p6); (try clear p64); (try clear q2); (try clear q27); (try clear q28); (try clear q3); (try clear q30); (try clear q306); (try clear q307); (try clear q309); (try clear q31); (try clear q310); (try clear q313); (try clear q314); (try clear q316); (try clear q317); (try clear q32); (try clear q320); (try clear q321); (try clear q5); (try clear q54); (try clear q55); obtain ⟨kq, x199_83, rfl, HA, HJ83, HO_0, HK, HB⟩ := hcut; cases kq with
              | zero => exact absurd HA.out (by simp [api_Node_71.j8])
              | succ kj83 =>
               have H := HA.out; clear HA; simp only [api_Node_71.j8] at H
               by_cases c86 : x199_83 = true
               ·subst c86
                have H1 : ((api_Node_71.f kj83 x0_78 a1 x20_2 (wrap64 ((IntKind.u64.wrap (wrap64 (a1 + a3))) / 2)) a4).bind fun t324 => (if (wrap64 ((IntKind.u64.wrap (wrap64 (a1 + a3))) / 2)) < (wrap64 ((wrap64 ((wrap64 ((IntKind.u64.wrap (wrap64 (a1 + a3))) / 2)) + a2)) - x20_2)) then (if (wrap64 ((wrap64 ((wrap64 ((IntKind.u64.wrap (wrap64 (a1 + a3))) / 2)) + a2)) - x20_2)) < a3 then ((api_Node_71.f kj83 t324 (wrap64 ((IntKind.u64.wrap (wrap64 (a1 + a3))) / 2)) (wrap64 ((wrap64 ((wrap64 ((IntKind.u64.wrap (wrap64 (a1 + a3))) / 2)) + a2)) - x20_2)) a3 a4).bind fun t325 => (some t325)) else (some t324)) else (some t324))) = some r := by rw [if_pos rfl] at H; exact H
                clear H; have H := H1; clear H1; refine oR H ?_; clear H; intro t324 A87 H; by_cases c88 : (wrap64 ((IntKind.u64.wrap (wrap64 (a1 + a3))) / 2)) < (wrap64 ((wrap64 ((wrap64 ((IntKind.u64.wrap (wrap64 (a1 + a3))) / 2)) + a2)) - x20_2))
                ·rw [if_pos c88] at H
                 have c88b0 : decide ((wrap64 ((IntKind.u64.wrap (wrap64 (a1 + a3))) / 2)) < (wrap64 ((wrap64 ((wrap64 ((IntKind.u64.wrap (wrap64 (a1 + a3))) / 2)) + a2)) - x20_2))) = true := decide_eq_true c88; clear c88; by_cases c89 : (wrap64 ((wrap64 ((wrap64 ((IntKind.u64.wrap (wrap64 (a1 + a3))) / 2)) + a2)) - x20_2)) < a3
                 ·rw [if_pos c89] at H
                  have c89b0 : decide ((wrap64 ((wrap64 ((wrap64 ((IntKind.u64.wrap (wrap64 (a1 + a3))) / 2)) + a2)) - x20_2)) < a3) = true := decide_eq_true c89; clear c89; refine oR H ?_; clear H; intro t325 A90 H; obtain rfl := Option.some.inj H; obtain ⟨Ao91, co91, eo91⟩ := Kd.R_slice HO_0.out; subst eo91; go_wp2_with (first | ((with_reducible refine gate_callee (f := 71) rfl ?_); refine gL (some 205) Tryd.func71 #[.slice Ao91 x0_78.length co91, .int .i64 a1, .int .i64 x20_2, .int .i64 (wrap64 ((IntKind.u64.wrap (wrap64 (a1 + a3))) / 2)), .func (.func 41) #[] #[]] ?_; (with_reducible refine (ih kj83 (by have := HJ59.out; have := HK2.out; have := HJ76.out; have := HJ78.out; have := HJ83.out; omega) (fun k_ => some k_ = (.slice Ao91 x0_78.length co91 : Value).ownBlock) (.slice Ao91 x0_78.length co91) x0_78 a1 x20_2 (wrap64 ((IntKind.u64.wrap (wrap64 (a1 + a3))) / 2)) a4 t324 w0 _ ?side1 ?side2 A87.out).mono ?_); (case side1 => repeat (first | (with_reducible first | exact HB.out | apply bA | apply bN | apply bO) | exact HB.out)); (case side2 => exact Kd.R_tight rfl HO_0.out); rintro e w92 ⟨rfl, hy0, hb, hkp⟩; refine ⟨_, rfl, ?_⟩; replace HK := am (Kept.then_ (S := (fun k_ => P0_ k_)) kz hkp (fun k_ hs_ => (fun e_ => (HO_0.out.1 k_ e_.symm)) hs_)); replace HO_0 := am (Kd.R_reok rfl hy0 (fun k_ e_ => HO_0.out.1 k_ e_)); replace HB := am (hb); (try clear hb); (try clear hkp); (try clear hy0)) | ((with_reducible refine gate_callee (f := 71) rfl ?_); refine gL (some 219) Tryd.func71 #[.slice Ao91 x0_78.length co91, .int .i64 (wrap64 ((IntKind.u64.wrap (wrap64 (a1 + a3))) / 2)), .int .i64 (wrap64 ((wrap64 ((wrap64 ((IntKind.u64.wrap (wrap64 (a1 + a3))) / 2)) + a2)) - x20_2)), .int .i64 a3, .func (.func 41) #[] #[]] ?_; (with_reducible refine (ih kj83 (by have := HJ59.out; have := HK2.out; have := HJ76.out; have := HJ78.out; have := HJ83.out; omega) (fun k_ => some k_ = (.slice Ao91 x0_78.length co91 : Value).ownBlock) (.slice Ao91 x0_78.length co91) t324 (wrap64 ((IntKind.u64.wrap (wrap64 (a1 + a3))) / 2)) (wrap64 ((wrap64 ((wrap64 ((IntKind.u64.wrap (wrap64 (a1 + a3))) / 2)) + a2)) - x20_2)) a3 a4 t325 w0 _ ?side1 ?side2 A90.out).mono ?_); (case side1 => repeat (first | (with_reducible first | exact HB.out | apply bA | apply bN | apply bO) | exact HB.out)); (case side2 => exact Kd.R_tight rfl HO_0.out); rintro e w93 ⟨rfl, hy0, hb, hkp⟩; refine ⟨_, rfl, ?_⟩; replace HK := am (Kept.then_ (S := (fun k_ => P0_ k_)) kz hkp (fun k_ hs_ => (fun e_ => (HO_0.out.1 k_ e_.symm)) hs_)); replace HO_0 := am (Kd.R_reok rfl hy0 (fun k_ e_ => HO_0.out.1 k_ e_)); replace HB := am (hb); (try clear hb); (try clear hkp); (try clear hy0)))
                  first | go_end0 | ((try simp only [Exit.inBlock, Exit.then]); refine bodyPost_ret (results_none rfl _ _ _) rfl ?_)
                  exact ⟨ez, by (with_reducible repeat (first | apply rA | apply rN | apply rD)); exact HO_0.out, by repeat (first | (with_reducible first | exact HB.out | apply bA | apply bN | apply bO) | exact HB.out), kz⟩
                 ·rw [if_neg c89] at H
                  have c89b0 : decide ((wrap64 ((wrap64 ((wrap64 ((IntKind.u64.wrap (wrap64 (a1 + a3))) / 2)) + a2)) - x20_2)) < a3) = false := decide_eq_false c89; clear c89; obtain rfl := Option.some.inj H; obtain ⟨Ao94, co94, eo94⟩ := Kd.R_slice HO_0.out; subst eo94; go_wp2_with (first | ((with_reducible refine gate_callee (f := 71) rfl ?_); refine gL (some 205) Tryd.func71 #[.slice Ao94 x0_78.length co94, .int .i64 a1, .int .i64 x20_2, .int .i64 (wrap64 ((IntKind.u64.wrap (wrap64 (a1 + a3))) / 2)), .func (.func 41) #[] #[]] ?_; (with_reducible refine (ih kj83 (by have := HJ59.out; have := HK2.out; have := HJ76.out; have := HJ78.out; have := HJ83.out; omega) (fun k_ => some k_ = (.slice Ao94 x0_78.length co94 : Value).ownBlock) (.slice Ao94 x0_78.length co94) x0_78 a1 x20_2 (wrap64 ((IntKind.u64.wrap (wrap64 (a1 + a3))) / 2)) a4 t324 w0 _ ?side1 ?side2 A87.out).mono ?_); (case side1 => repeat (first | (with_reducible first | exact HB.out | apply bA | apply bN | apply bO) | exact HB.out)); (case side2 => exact Kd.R_tight rfl HO_0.out); rintro e w95 ⟨rfl, hy0, hb, hkp⟩; refine ⟨_, rfl, ?_⟩; replace HK := am (Kept.then_ (S := (fun k_ => P0_ k_)) kz hkp (fun k_ hs_ => (fun e_ => (HO_0.out.1 k_ e_.symm)) hs_)); replace HO_0 := am (Kd.R_reok rfl hy0 (fun k_ e_ => HO_0.out.1 k_ e_)); replace HB := am (hb); (try clear hb); (try clear hkp); (try clear hy0)))
                  first | go_end0 | ((try simp only [Exit.inBlock, Exit.then]); refine bodyPost_ret (results_none rfl _ _ _) rfl ?_)
                  exact ⟨ez, by (with_reducible repeat (first | apply rA | apply rN | apply rD)); exact HO_0.out, by repeat (first | (with_reducible first | exact HB.out | apply bA | apply bN | apply bO) | exact HB.out), kz⟩
                ·rw [if_neg c88] at H
                 have c88b0 : decide ((wrap64 ((IntKind.u64.wrap (wrap64 (a1 + a3))) / 2)) < (wrap64 ((wrap64 ((wrap64 ((IntKind.u64.wrap (wrap64 (a1 + a3))) / 2)) + a2)) - x20_2))) = false := decide_eq_false c88; clear c88; obtain rfl := Option.some.inj H; obtain ⟨Ao96, co96, eo96⟩ := Kd.R_slice HO_0.out; subst eo96; go_wp2_with (first | ((with_reducible refine gate_callee (f := 71) rfl ?_); refine gL (some 205) Tryd.func71 #[.slice Ao96 x0_78.length co96, .int .i64 a1, .int .i64 x20_2, .int .i64 (wrap64 ((IntKind.u64.wrap (wrap64 (a1 + a3))) / 2)), .func (.func 41) #[] #[]] ?_; (with_reducible refine (ih kj83 (by have := HJ59.out; have := HK2.out; have := HJ76.out; have := HJ78.out; have := HJ83.out; omega) (fun k_ => some k_ = (.slice Ao96 x0_78.length co96 : Value).ownBlock) (.slice Ao96 x0_78.length co96) x0_78 a1 x20_2 (wrap64 ((IntKind.u64.wrap (wrap64 (a1 + a3))) / 2)) a4 t324 w0 _ ?side1 ?side2 A87.out).mono ?_); (case side1 => repeat (first | (with_reducible first | exact HB.out | apply bA | apply bN | apply bO) | exact HB.out)); (case side2 => exact Kd.R_tight rfl HO_0.out); rintro e w97 ⟨rfl, hy0, hb, hkp⟩; refine ⟨_, rfl, ?_⟩; replace HK := am (Kept.then_ (S := (fun k_ => P0_ k_)) kz hkp (fun k_ hs_ => (fun e_ => (HO_0.out.1 k_ e_.symm)) hs_)); replace HO_0 := am (Kd.R_reok rfl hy0 (fun k_ e_ => HO_0.out.1 k_ e_)); replace HB := am (hb); (try clear hb); (try clear hkp); (try clear hy0)))
                 first | go_end0 | ((try simp only [Exit.inBlock, Exit.then]); refine bodyPost_ret (results_none rfl _ _ _) rfl ?_)
                 exact ⟨ez, by (with_reducible repeat (first | apply rA | apply rN | apply rD)); exact HO_0.out, by repeat (first | (with_reducible first | exact HB.out | apply bA | apply bN | apply bO) | exact HB.out), kz⟩
               ·replace c86 := Bool.eq_false_iff.mpr c86
                subst c86; have H1 : (if (wrap64 ((IntKind.u64.wrap (wrap64 (a1 + a3))) / 2)) < (wrap64 ((wrap64 ((wrap64 ((IntKind.u64.wrap (wrap64 (a1 + a3))) / 2)) + a2)) - x20_2)) then (if (wrap64 ((wrap64 ((wrap64 ((IntKind.u64.wrap (wrap64 (a1 + a3))) / 2)) + a2)) - x20_2)) < a3 then ((api_Node_71.f kj83 x0_78 (wrap64 ((IntKind.u64.wrap (wrap64 (a1 + a3))) / 2)) (wrap64 ((wrap64 ((wrap64 ((IntKind.u64.wrap (wrap64 (a1 + a3))) / 2)) + a2)) - x20_2)) a3 a4).bind fun t326 => (some t326)) else (some x0_78)) else (some x0_78)) = some r := by rw [if_neg (show ¬ (false = true) by decide)] at H; exact H
                clear H; have H := H1; clear H1; by_cases c98 : (wrap64 ((IntKind.u64.wrap (wrap64 (a1 + a3))) / 2)) < (wrap64 ((wrap64 ((wrap64 ((IntKind.u64.wrap (wrap64 (a1 + a3))) / 2)) + a2)) - x20_2))
                ·rw [if_pos c98] at H
                 have c98b0 : decide ((wrap64 ((IntKind.u64.wrap (wrap64 (a1 + a3))) / 2)) < (wrap64 ((wrap64 ((wrap64 ((IntKind.u64.wrap (wrap64 (a1 + a3))) / 2)) + a2)) - x20_2))) = true := decide_eq_true c98; clear c98; by_cases c99 : (wrap64 ((wrap64 ((wrap64 ((IntKind.u64.wrap (wrap64 (a1 + a3))) / 2)) + a2)) - x20_2)) < a3
                 ·rw [if_pos c99] at H
                  have c99b0 : decide ((wrap64 ((wrap64 ((wrap64 ((IntKind.u64.wrap (wrap64 (a1 + a3))) / 2)) + a2)) - x20_2)) < a3) = true := decide_eq_true c99; clear c99; refine oR H ?_; clear H; intro t326 A100 H; obtain rfl := Option.some.inj H; obtain ⟨Ao101, co101, eo101⟩ := Kd.R_slice HO_0.out; subst eo101; go_wp2_with (first | ((with_reducible refine gate_callee (f := 71) rfl ?_); refine gL (some 219) Tryd.func71 #[.slice Ao101 x0_78.length co101, .int .i64 (wrap64 ((IntKind.u64.wrap (wrap64 (a1 + a3))) / 2)), .int .i64 (wrap64 ((wrap64 ((wrap64 ((IntKind.u64.wrap (wrap64 (a1 + a3))) / 2)) + a2)) - x20_2)), .int .i64 a3, .func (.func 41) #[] #[]] ?_; (with_reducible refine (ih kj83 (by have := HJ59.out; have := HK2.out; have := HJ76.out; have := HJ78.out; have := HJ83.out; omega) (fun k_ => some k_ = (.slice Ao101 x0_78.length co101 : Value).ownBlock) (.slice Ao101 x0_78.length co101) x0_78 (wrap64 ((IntKind.u64.wrap (wrap64 (a1 + a3))) / 2)) (wrap64 ((wrap64 ((wrap64 ((IntKind.u64.wrap (wrap64 (a1 + a3))) / 2)) + a2)) - x20_2)) a3 a4 t326 w0 _ ?side1 ?side2 A100.out).mono ?_); (case side1 => repeat (first | (with_reducible first | exact HB.out | apply bA | apply bN | apply bO) | exact HB.out)); (case side2 => exact Kd.R_tight rfl HO_0.out); rintro e w102 ⟨rfl, hy0, hb, hkp⟩; refine ⟨_, rfl, ?_⟩; replace HK := am (Kept.then_ (S := (fun k_ => P0_ k_)) kz hkp (fun k_ hs_ => (fun e_ => (HO_0.out.1 k_ e_.symm)) hs_)); replace HO_0 := am (Kd.R_reok rfl hy0 (fun k_ e_ => HO_0.out.1 k_ e_)); replace HB := am (hb); (try clear hb); (try clear hkp); (try clear hy0)))
                  first | go_end0 | ((try simp only [Exit.inBlock, Exit.then]); refine bodyPost_ret (results_none rfl _ _ _) rfl ?_)
                  exact ⟨ez, by (with_reducible repeat (first | apply rA | apply rN | apply rD)); exact HO_0.out, by repeat (first | (with_reducible first | exact HB.out | apply bA | apply bN | apply bO) | exact HB.out), kz⟩
                 ·rw [if_neg c99] at H
                  have c99b0 : decide ((wrap64 ((wrap64 ((wrap64 ((IntKind.u64.wrap (wrap64 (a1 + a3))) / 2)) + a2)) - x20_2)) < a3) = false := decide_eq_false c99; clear c99; obtain rfl := Option.some.inj H; go_wp2
                  first | go_end0 | ((try simp only [Exit.inBlock, Exit.then]); refine bodyPost_ret (results_none rfl _ _ _) rfl ?_)
                  exact ⟨ez, by (with_reducible repeat (first | apply rA | apply rN | apply rD)); exact HO_0.out, by repeat (first | (with_reducible first | exact HB.out | apply bA | apply bN | apply bO) | exact HB.out), kz⟩
                ·rw [if_neg c98] at H
                 have c98b0 : decide ((wrap64 ((IntKind.u64.wrap (wrap64 (a1 + a3))) / 2)) < (wrap64 ((wrap64 ((wrap64 ((IntKind.u64.wrap (wrap64 (a1 + a3))) / 2)) + a2)) - x20_2))) = false := decide_eq_false c98; clear c98; obtain rfl := Option.some.inj H; go_wp2
                 first | go_end0 | ((try simp only [Exit.inBlock, Exit.then]); refine bodyPost_ret (results_none rfl _ _ _) rfl ?_)
                 exact ⟨ez, by (with_reducible repeat (first | apply rA | apply rN | apply rD)); exact HO_0.out, by repeat (first | (with_reducible first | exact HB.out | apply bA | apply bN | apply bO) | exact HB.out), kz⟩

set_option maxHeartbeats 8000000 in
set_option maxRecDepth 100000 in
theorem api_Node_71.calls (k : Nat) : ∀ (P0_ : Nat → Prop) (u9000_ : Value) (l0 : List (S46)) (a1 : Int) (a2 : Int) (a3 : Int) (a4 : Bool) (r : List (S46)) (w0 w : World) (hB : Below w0.heap.size w0 w) (ho0 : Kd.R k46 46 w w0.heap.size P0_ u9000_ l0) (h : api_Node_71.f k l0 a1 a2 a3 a4 = some r),
  Calls Tryd.prog 71 #[u9000_, .int .i64 a1, .int .i64 a2, .int .i64 a3, .func (.func 41) #[] #[]] w fun e w' => e = .returned (.tuple #[]) ∧ Kd.R k46 46 w' w0.heap.size (fun k_ => (P0_ k_ ∨ w.heap.size ≤ k_)) u9000_ r ∧ Below w0.heap.size w0 w' ∧ Kept w w' (fun k_ => P0_ k_) := by
 induction k using Nat.strongRecOn with
 | _ k ih =>
 intro P0_ u9000_ l0 a1 a2 a3 a4 r w0 w hB ho0 h; cases k with
 | zero => exact absurd h (by simp [api_Node_71.f])
 | succ k =>
 by_cases c6 : (wrap64 (a2 - a1)) = 1
 ·exact api_Node_71.calls_A k ih P0_ u9000_ l0 a1 a2 a3 a4 r w0 w hB ho0 h c6
 ·by_cases c33 : (wrap64 (a3 - a2)) = 1
  ·exact api_Node_71.calls_B k ih P0_ u9000_ l0 a1 a2 a3 a4 r w0 w hB ho0 h c6 c33
  ·exact api_Node_71.calls_C k ih P0_ u9000_ l0 a1 a2 a3 a4 r w0 w hB ho0 h c6 c33
end Go.Proofs.YtcijimdogddbeaaDoor.P
