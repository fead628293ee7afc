/- Laid by a program of this session (wip/pr), after the printer of the kit: the functions that a statement reaches as plain Lean functions, and that the calls of the machine come to them. No condition. -/
import Derived.Test.YtkloomnkpfaijaaDoorPx0
import Derived.Test.YtkloomnkpfaijaaDoorPx1
import Derived.Test.YtkloomnkpfaijaaDoorPx2
import Derived.Test.YtkloomnkpfaijaaDoorPx5
import Derived.Test.YtkloomnkpfaijaaDoorPx6
import Derived.Test.YtkloomnkpfaijaaDoorPx7
import Derived.Test.YtkloomnkpfaijaaDoorPx8
import Derived.Test.YtkloomnkpfaijaaDoorPx9
import Derived.Test.YtkloomnkpfaijaaDoorPx15
namespace Go.Proofs.YtkloomnkpfaijaaDoor.P
open Go.RowKit Go.Proofs.YtkloomnkpfaijaaDoorX Go.Proofs.YtkloomnkpfaijaaDoorW.PrintWords Go.Proofs.YtkloomnkpfaijaaDoorW.PrintLast Go.Proofs.YtkloomnkpfaijaaDoorW.PrintMore
attribute [local go_sem] max2_int min2_int max_two min_two
set_option linter.unusedVariables false
set_option linter.unusedSimpArgs false

attribute [local go_sem high] eqA31
/-! ### hogsheadlaw3_FindGrafts: function 6 -/
mutual
def hogsheadlaw3_FindGrafts.j0 : Nat → List (S31) → ByteArray → List (S31) → Int → Bool → Option (Bool)
 | 0, _, _, _, _, _ => none
 | k + 1, x0, x1, x2, x3, x40 => if x40 = true then ((hogsheadlaw3_awake.f k).bind fun t286 => (some t286)) else ((find_Graft.f k x0 x1 x2).bind fun bt287 => (if bt287.2 = true then ((find_Sub.f k bt287.1 x1).bind fun bt292 => (if bt292.2 = true then ((hogsheadlaw0_SameNodes.f k bt292.1 x2).bind fun t296 => (if t296 = true then ((tree_May.f k bt287.1).bind fun t297 => (if t297 = true then (hogsheadlaw3_FindGrafts.j1 k x0 x1 x3 bt287.1 ((bt287.1.length : Int) != (wrap64 ((x0.length : Int) + (x2.length : Int))))) else (hogsheadlaw3_FindGrafts.j1 k x0 x1 x3 bt287.1 true))) else (hogsheadlaw3_FindGrafts.j1 k x0 x1 x3 bt287.1 true))) else (hogsheadlaw3_FindGrafts.j1 k x0 x1 x3 bt287.1 true))) else (if (bt287.1.length : Int) = 0 then ((hogsheadlaw3_awake.f k).bind fun t291 => (some t291)) else (some false))))
def hogsheadlaw3_FindGrafts.j1 : Nat → List (S31) → ByteArray → Int → List (S31) → Bool → Option (Bool)
 | 0, _, _, _, _, _ => none
 | k + 1, x0, x1, x3, x9, x85 => if x85 = true then (some false) else ((hogsheadlaw0_Low.f x3 (x9.length : Int)).bind fun t298 => (if 0 ≤ t298 then (if t298 < (x9.length : Int) then ((find_Lookup.f k x9 ((rd_T31 x9 t298).f0)).bind fun bt300 => ((find_Sub.f k x9 ((rd_T31 x9 t298).f0)).bind fun bt306 => (if bt300.2.2.2 = true then (if (!(bt300.1.toList == (((rd_T31 x9 t298).f0).toList)) || (!(bt300.2.1 == ((rd_T31 x9 t298).f1)) || (!(bt300.2.2.1.toList == (((rd_T31 x9 t298).f2).toList))))) = true then (hogsheadlaw3_FindGrafts.j2 k x0 x1 x9 true) else (if bt306.2 = true then ((tree_May.f k bt306.1).bind fun t311 => (if t311 = true then (if (bt306.1.length : Int) < 1 then (hogsheadlaw3_FindGrafts.j2 k x0 x1 x9 true) else (if 0 < (bt306.1.length : Int) then (hogsheadlaw3_FindGrafts.j2 k x0 x1 x9 (((rd_T31 bt306.1 0).f1) != bt300.2.1)) else (none))) else (hogsheadlaw3_FindGrafts.j2 k x0 x1 x9 true))) else (hogsheadlaw3_FindGrafts.j2 k x0 x1 x9 true))) else (hogsheadlaw3_FindGrafts.j2 k x0 x1 x9 true)))) else (none)) else (none)))
def hogsheadlaw3_FindGrafts.j2 : Nat → List (S31) → ByteArray → List (S31) → Bool → Option (Bool)
 | 0, _, _, _, _ => none
 | k + 1, x0, x1, x9, x142 => if x142 = true then (some false) else (hogsheadlaw3_FindGrafts.l0 k x0 x1 x9 0)
def hogsheadlaw3_FindGrafts.l0 : Nat → List (S31) → ByteArray → List (S31) → Int → Option (Bool)
 | 0, _, _, _, _ => none
 | k + 1, x0, x1, x9, x17 => if x17 < (x0.length : Int) then (if 0 ≤ x17 then ((find_Lookup.f k x9 ((rd_T31 x0 x17).f0)).bind fun bt314 => (if bt314.2.2.2 = true then (if (!(bt314.1.toList == (((rd_T31 x0 x17).f0).toList)) || (!(bt314.2.1 == ((rd_T31 x0 x17).f1)) || (!(bt314.2.2.1.toList == (((rd_T31 x0 x17).f2).toList))))) = true then (hogsheadlaw3_FindGrafts.j4 k x0 x1 x9 x17 true) else ((path_Under.f k ((rd_T31 x0 x17).f0) x1).bind fun t321 => (hogsheadlaw3_FindGrafts.j4 k x0 x1 x9 x17 t321))) else (hogsheadlaw3_FindGrafts.j4 k x0 x1 x9 x17 true))) else (none)) else ((hogsheadlaw3_awake.f k).bind fun t322 => (some t322))
def hogsheadlaw3_FindGrafts.j4 : Nat → List (S31) → ByteArray → List (S31) → Int → Bool → Option (Bool)
 | 0, _, _, _, _, _ => none
 | k + 1, x0, x1, x9, x17, x177 => if x177 = true then (some false) else (hogsheadlaw3_FindGrafts.l0 k x0 x1 x9 (wrap64 (x17 + 1)))
end
def hogsheadlaw3_FindGrafts.f (k : Nat) (l0 : List (S31)) (a1 : ByteArray) (l2 : List (S31)) (a3 : Int) : Option (Bool) := (hogsheadlaw0_GreatNodes.f k l0 40).bind fun t282 => (if t282 = true then (hogsheadlaw3_FindGrafts.j0 k l0 a1 l2 a3 true) else ((hogsheadlaw0_GreatNodes.f k l2 20).bind fun t283 => (if t283 = true then (hogsheadlaw3_FindGrafts.j0 k l0 a1 l2 a3 true) else (if (a1.size : Int) > 200 then (hogsheadlaw3_FindGrafts.j0 k l0 a1 l2 a3 true) else ((tree_May.f k l0).bind fun t284 => (if t284 = true then ((tree_May.f k l2).bind fun t285 => (hogsheadlaw3_FindGrafts.j0 k l0 a1 l2 a3 (!t285))) else (hogsheadlaw3_FindGrafts.j0 k l0 a1 l2 a3 true)))))))
theorem hogsheadlaw3_FindGrafts.mono_l : ∀ k, (∀ y0 y1 y2 y3 y4, LeO (hogsheadlaw3_FindGrafts.j0 k y0 y1 y2 y3 y4) (hogsheadlaw3_FindGrafts.j0 (k + 1) y0 y1 y2 y3 y4)) ∧ (∀ y0 y1 y2 y3 y4, LeO (hogsheadlaw3_FindGrafts.j1 k y0 y1 y2 y3 y4) (hogsheadlaw3_FindGrafts.j1 (k + 1) y0 y1 y2 y3 y4)) ∧ (∀ y0 y1 y2 y3, LeO (hogsheadlaw3_FindGrafts.j2 k y0 y1 y2 y3) (hogsheadlaw3_FindGrafts.j2 (k + 1) y0 y1 y2 y3)) ∧ (∀ y0 y1 y2 y3, LeO (hogsheadlaw3_FindGrafts.l0 k y0 y1 y2 y3) (hogsheadlaw3_FindGrafts.l0 (k + 1) y0 y1 y2 y3)) ∧ (∀ y0 y1 y2 y3 y4, LeO (hogsheadlaw3_FindGrafts.j4 k y0 y1 y2 y3 y4) (hogsheadlaw3_FindGrafts.j4 (k + 1) y0 y1 y2 y3 y4))
 | 0 => ⟨fun _ _ _ _ _ r h => by simp [hogsheadlaw3_FindGrafts.j0] at h, fun _ _ _ _ _ r h => by simp [hogsheadlaw3_FindGrafts.j1] at h, fun _ _ _ _ r h => by simp [hogsheadlaw3_FindGrafts.j2] at h, fun _ _ _ _ r h => by simp [hogsheadlaw3_FindGrafts.l0] at h, fun _ _ _ _ _ r h => by simp [hogsheadlaw3_FindGrafts.j4] at h⟩
 | k + 1 => by
  obtain ⟨ih0, ih1, ih2, ih3, ih4⟩ := hogsheadlaw3_FindGrafts.mono_l k; refine ⟨?_, ?_, ?_, ?_, ?_⟩
  ·intro y0 y1 y2 y3 y4
   unfold hogsheadlaw3_FindGrafts.j0
   repeat' first
   | (with_reducible exact ih0 _ _ _ _ _)
   | (with_reducible exact ih1 _ _ _ _ _)
   | (with_reducible exact ih2 _ _ _ _)
   | (with_reducible exact ih3 _ _ _ _)
   | (with_reducible exact ih4 _ _ _ _ _)
   | (with_reducible exact find_Graft.mono _ _ _ _)
   | (with_reducible exact find_Lookup.mono _ _ _)
   | (with_reducible exact find_Sub.mono _ _ _)
   | (with_reducible exact hogsheadlaw0_GreatNodes.mono _ _ _)
   | (with_reducible exact hogsheadlaw0_SameNodes.mono _ _ _)
   | (with_reducible exact hogsheadlaw3_awake.mono _)
   | (with_reducible exact path_Under.mono _ _ _)
   | (with_reducible exact tree_May.mono _ _)
   | (with_reducible exact LeO.refl _)
   | (with_reducible exact LeO.none _)
   | (with_reducible refine LeO.ite ?_ ?_)
   | (with_reducible refine LeO.bind ?_ (fun _ => ?_))
  ·intro y0 y1 y2 y3 y4
   unfold hogsheadlaw3_FindGrafts.j1
   repeat' first
   | (with_reducible exact ih0 _ _ _ _ _)
   | (with_reducible exact ih1 _ _ _ _ _)
   | (with_reducible exact ih2 _ _ _ _)
   | (with_reducible exact ih3 _ _ _ _)
   | (with_reducible exact ih4 _ _ _ _ _)
   | (with_reducible exact find_Graft.mono _ _ _ _)
   | (with_reducible exact find_Lookup.mono _ _ _)
   | (with_reducible exact find_Sub.mono _ _ _)
   | (with_reducible exact hogsheadlaw0_GreatNodes.mono _ _ _)
   | (with_reducible exact hogsheadlaw0_SameNodes.mono _ _ _)
   | (with_reducible exact hogsheadlaw3_awake.mono _)
   | (with_reducible exact path_Under.mono _ _ _)
   | (with_reducible exact tree_May.mono _ _)
   | (with_reducible exact LeO.refl _)
   | (with_reducible exact LeO.none _)
   | (with_reducible refine LeO.ite ?_ ?_)
   | (with_reducible refine LeO.bind ?_ (fun _ => ?_))
  ·intro y0 y1 y2 y3
   unfold hogsheadlaw3_FindGrafts.j2
   repeat' first
   | (with_reducible exact ih0 _ _ _ _ _)
   | (with_reducible exact ih1 _ _ _ _ _)
   | (with_reducible exact ih2 _ _ _ _)
   | (with_reducible exact ih3 _ _ _ _)
   | (with_reducible exact ih4 _ _ _ _ _)
   | (with_reducible exact find_Graft.mono _ _ _ _)
   | (with_reducible exact find_Lookup.mono _ _ _)
   | (with_reducible exact find_Sub.mono _ _ _)
   | (with_reducible exact hogsheadlaw0_GreatNodes.mono _ _ _)
   | (with_reducible exact hogsheadlaw0_SameNodes.mono _ _ _)
   | (with_reducible exact hogsheadlaw3_awake.mono _)
   | (with_reducible exact path_Under.mono _ _ _)
   | (with_reducible exact tree_May.mono _ _)
   | (with_reducible exact LeO.refl _)
   | (with_reducible exact LeO.none _)
   | (with_reducible refine LeO.ite ?_ ?_)
   | (with_reducible refine LeO.bind ?_ (fun _ => ?_))
  ·intro y0 y1 y2 y3
   unfold hogsheadlaw3_FindGrafts.l0
   repeat' first
   | (with_reducible exact ih0 _ _ _ _ _)
   | (with_reducible exact ih1 _ _ _ _ _)
   | (with_reducible exact ih2 _ _ _ _)
   | (with_reducible exact ih3 _ _ _ _)
   | (with_reducible exact ih4 _ _ _ _ _)
   | (with_reducible exact find_Graft.mono _ _ _ _)
   | (with_reducible exact find_Lookup.mono _ _ _)
   | (with_reducible exact find_Sub.mono _ _ _)
   | (with_reducible exact hogsheadlaw0_GreatNodes.mono _ _ _)
   | (with_reducible exact hogsheadlaw0_SameNodes.mono _ _ _)
   | (with_reducible exact hogsheadlaw3_awake.mono _)
   | (with_reducible exact path_Under.mono _ _ _)
   | (with_reducible exact tree_May.mono _ _)
   | (with_reducible exact LeO.refl _)
   | (with_reducible exact LeO.none _)
   | (with_reducible refine LeO.ite ?_ ?_)
   | (with_reducible refine LeO.bind ?_ (fun _ => ?_))
  ·intro y0 y1 y2 y3 y4
   unfold hogsheadlaw3_FindGrafts.j4
   repeat' first
   | (with_reducible exact ih0 _ _ _ _ _)
   | (with_reducible exact ih1 _ _ _ _ _)
   | (with_reducible exact ih2 _ _ _ _)
   | (with_reducible exact ih3 _ _ _ _)
   | (with_reducible exact ih4 _ _ _ _ _)
   | (with_reducible exact find_Graft.mono _ _ _ _)
   | (with_reducible exact find_Lookup.mono _ _ _)
   | (with_reducible exact find_Sub.mono _ _ _)
   | (with_reducible exact hogsheadlaw0_GreatNodes.mono _ _ _)
   | (with_reducible exact hogsheadlaw0_SameNodes.mono _ _ _)
   | (with_reducible exact hogsheadlaw3_awake.mono _)
   | (with_reducible exact path_Under.mono _ _ _)
   | (with_reducible exact tree_May.mono _ _)
   | (with_reducible exact LeO.refl _)
   | (with_reducible exact LeO.none _)
   | (with_reducible refine LeO.ite ?_ ?_)
   | (with_reducible refine LeO.bind ?_ (fun _ => ?_))
theorem hogsheadlaw3_FindGrafts.mono : ∀ a0 a1 a2 a3 k, LeO (hogsheadlaw3_FindGrafts.f k a0 a1 a2 a3) (hogsheadlaw3_FindGrafts.f (k + 1) a0 a1 a2 a3) := by
 intro a0 a1 a2 a3 k; obtain ⟨ih0, ih1, ih2, ih3, ih4⟩ := hogsheadlaw3_FindGrafts.mono_l k; unfold hogsheadlaw3_FindGrafts.f
 repeat' first
   | (with_reducible exact ih0 _ _ _ _ _)
   | (with_reducible exact ih1 _ _ _ _ _)
   | (with_reducible exact ih2 _ _ _ _)
   | (with_reducible exact ih3 _ _ _ _)
   | (with_reducible exact ih4 _ _ _ _ _)
   | (with_reducible exact find_Graft.mono _ _ _ _)
   | (with_reducible exact find_Lookup.mono _ _ _)
   | (with_reducible exact find_Sub.mono _ _ _)
   | (with_reducible exact hogsheadlaw0_GreatNodes.mono _ _ _)
   | (with_reducible exact hogsheadlaw0_SameNodes.mono _ _ _)
   | (with_reducible exact hogsheadlaw3_awake.mono _)
   | (with_reducible exact path_Under.mono _ _ _)
   | (with_reducible exact tree_May.mono _ _)
   | (with_reducible exact LeO.refl _)
   | (with_reducible exact LeO.none _)
   | (with_reducible refine LeO.ite ?_ ?_)
   | (with_reducible refine LeO.bind ?_ (fun _ => ?_))
def hogsheadlaw3_FindGrafts.T12 : Bool × List (List Nat × List Nat) := (true, [([], []), ([0], [0]), ([1], [1]), ([2], [2]), ([2], [2]), ([2], [2]), ([4, 5, 2], [2, 4, 5]), ([6, 2], [2, 6]), ([3, 7, 2], [2, 3, 7]), ([2, 8], [2, 8]), ([9, 2], [9]), ([10], [10]), ([11, 10], [10, 11]), ([10, 12], [10, 12]), ([13, 10], [13]), ([14], [14]), ([15, 14, 14], [14, 15]), ([16, 14], [14, 16]), ([14, 17], [14, 17]), ([18, 16], [18]), ([19], [19]), ([20, 19], [19, 20]), ([21, 19], [19, 21]), ([19, 22], [19, 22]), ([23, 19], [23]), ([24], [24]), ([25, 24], [24, 25]), ([26, 24], [24, 26]), ([27, 24], [24, 27]), ([24], [24]), ([29, 24], [24, 29]), ([28, 30, 24], [24, 28, 30]), ([24, 31], [24, 31])])
def hogsheadlaw3_FindGrafts.B12 : List Nat := [0, 1, 3, 7, 7, 7, 55, 119, 255, 511, 1023, 2047, 4095, 8191, 16383, 32767, 65535, 131071, 262143, 524287, 1048575, 2097151, 4194303, 8388607, 16777215, 33554431, 67108863, 134217727, 268435455, 33554431, 570425343, 2147483647, 4294967295]
theorem hogsheadlaw3_FindGrafts.tab12 : rtab .any (opsOf Tryd.f6 12) = hogsheadlaw3_FindGrafts.T12 := by kernel_rfl
theorem hogsheadlaw3_FindGrafts.bits12 : waitsOk hogsheadlaw3_FindGrafts.T12.2 hogsheadlaw3_FindGrafts.B12 = true := by kernel_rfl
def hogsheadlaw3_FindGrafts.T18 : Bool × List (List Nat × List Nat) := (true, [([], []), ([0], [0]), ([1], [1]), ([2], [2]), ([2], [2]), ([2], [2]), ([4, 5, 2], [2, 4, 5]), ([6, 2], [2, 6]), ([3, 7, 2], [2, 3, 7]), ([2, 8], [2, 8]), ([9, 2], [9]), ([10], [10]), ([10], [10]), ([11, 12, 10], [10, 11, 12]), ([13, 10], [10, 13]), ([14, 10], [10, 14]), ([10], [10]), ([15, 16, 10, 10], [10, 15, 16]), ([10, 17], [10, 17])])
def hogsheadlaw3_FindGrafts.B18 : List Nat := [0, 1, 3, 7, 7, 7, 55, 119, 255, 511, 1023, 2047, 2047, 8191, 16383, 32767, 2047, 131071, 262143]
theorem hogsheadlaw3_FindGrafts.tab18 : rtab .any (opsOf Tryd.f6 18) = hogsheadlaw3_FindGrafts.T18 := by kernel_rfl
theorem hogsheadlaw3_FindGrafts.bits18 : waitsOk hogsheadlaw3_FindGrafts.T18.2 hogsheadlaw3_FindGrafts.B18 = true := by kernel_rfl
set_option maxHeartbeats 8000000 in
set_option maxRecDepth 100000 in
theorem hogsheadlaw3_FindGrafts.calls (k : Nat) (A0 : Option Addr) (c0 : Nat) (l0 : List (S31)) (a1 : ByteArray) (A2 : Option Addr) (c2 : Nat) (l2 : List (S31)) (a3 : Int) (r : Bool) (w : World) (hr0 : Kd.C k31 w A0 l0.length l0) (hc0 : l0.length ≤ c0) (hr2 : Kd.C k31 w A2 l2.length l2) (hc2 : l2.length ≤ c2) (h : hogsheadlaw3_FindGrafts.f k l0 a1 l2 a3 = some true) :
  Calls Tryd.prog 6 #[.slice A0 l0.length c0, .string a1, .slice A2 l2.length c2, .int .i64 a3] w fun e w' => e = .returned (.bool true) ∧ Below w.heap.size w w' := by
 have hu31 := Tryd.underlying31; have HR0 := am hr0; have HC0 := am hc0; clear hr0 hc0; have HR2 := am hr2; have HC2 := am hc2; clear hr2 hc2; have HB := am (Below.refl w.heap.size w); have H : ((hogsheadlaw0_GreatNodes.f k l0 40).bind fun t282 => (if t282 = true then (hogsheadlaw3_FindGrafts.j0 k l0 a1 l2 a3 true) else ((hogsheadlaw0_GreatNodes.f k l2 20).bind fun t283 => (if t283 = true then (hogsheadlaw3_FindGrafts.j0 k l0 a1 l2 a3 true) else (if (a1.size : Int) > 200 then (hogsheadlaw3_FindGrafts.j0 k l0 a1 l2 a3 true) else ((tree_May.f k l0).bind fun t284 => (if t284 = true then ((tree_May.f k l2).bind fun t285 => (hogsheadlaw3_FindGrafts.j0 k l0 a1 l2 a3 (!t285))) else (hogsheadlaw3_FindGrafts.j0 k l0 a1 l2 a3 true)))))))) = some true := h; clear h; have HC5 := am H; clear H; go_enter Tryd.func6, Tryd.ntmps6; go_upto_region 1 with (fail)
 go_cut [40] (fun v40 wc => ∃ (kq : Nat) (x40_4 : Bool), v40 = .bool x40_4 ∧ Aside0 (hogsheadlaw3_FindGrafts.j0 kq l0 a1 l2 a3 x40_4 = some true) ∧ Aside0 (kq ≤ k) ∧ Aside0 (Below w.heap.size w wc))
 case first =>
  have H := HC5.out; clear HC5; replace H := oB H; obtain ⟨t282, A60, H⟩ := H; replace H : (if t282 = true then (hogsheadlaw3_FindGrafts.j0 k l0 a1 l2 a3 true) else ((hogsheadlaw0_GreatNodes.f k l2 20).bind fun t283 => (if t283 = true then (hogsheadlaw3_FindGrafts.j0 k l0 a1 l2 a3 true) else (if (a1.size : Int) > 200 then (hogsheadlaw3_FindGrafts.j0 k l0 a1 l2 a3 true) else ((tree_May.f k l0).bind fun t284 => (if t284 = true then ((tree_May.f k l2).bind fun t285 => (hogsheadlaw3_FindGrafts.j0 k l0 a1 l2 a3 (!t285))) else (hogsheadlaw3_FindGrafts.j0 k l0 a1 l2 a3 true))))))) = some true := H; have A6 := am A60; clear A60; by_cases c7 : t282 = true
  ·subst c7
   have H1 : (hogsheadlaw3_FindGrafts.j0 k l0 a1 l2 a3 true) = some true := by rw [if_pos rfl] at H; exact H
   clear H; have H := H1; clear H1; have H' := am H; clear H; go_wp2_with (first | ((with_reducible refine gate_callee (f := 7) rfl ?_); refine goesL_ (some 21) rfl rfl Tryd.func7 (by kernel_rfl) rfl #[.slice A0 l0.length c0, .int .i64 40] rfl (by (try simp only [mT, mC, mN]); first | done | rfl | (simp only [lD, lT]; rfl)) ?_; (with_reducible refine (hogsheadlaw0_GreatNodes.calls k _ _ l0 40 true _ ?side1 ?side2 A6.out).mono ?_); (case side1 => repeat (first | exact (Kd.C_below HR0.out HB.out) | (with_reducible refine cA ?_ _) | (with_reducible refine cN ?_ _) | (with_reducible refine cD ?_))); (case side2 => exact HC0.out); rintro e w' ⟨rfl, ⟨nd, rfl⟩⟩; refine ⟨_, rfl, ?_⟩))
   go_meet; case rel => exact ⟨_, (true), (by first | rfl | (simp; done) | (simp [*]; done)), H', ⟨by first | omega | exact Nat.le_refl _⟩, ⟨by repeat (first | (with_reducible first | exact HB.out | apply bA | apply bN | apply bO) | exact HB.out)⟩⟩
  ·replace c7 := Bool.eq_false_iff.mpr c7
   subst c7; have H1 : ((hogsheadlaw0_GreatNodes.f k l2 20).bind fun t283 => (if t283 = true then (hogsheadlaw3_FindGrafts.j0 k l0 a1 l2 a3 true) else (if (a1.size : Int) > 200 then (hogsheadlaw3_FindGrafts.j0 k l0 a1 l2 a3 true) else ((tree_May.f k l0).bind fun t284 => (if t284 = true then ((tree_May.f k l2).bind fun t285 => (hogsheadlaw3_FindGrafts.j0 k l0 a1 l2 a3 (!t285))) else (hogsheadlaw3_FindGrafts.j0 k l0 a1 l2 a3 true)))))) = some true := by rw [if_neg (show ¬ (false = true) by decide)] at H; exact H
   clear H; have H := H1; clear H1; replace H := oB H; obtain ⟨t283, A80, H⟩ := H; replace H : (if t283 = true then (hogsheadlaw3_FindGrafts.j0 k l0 a1 l2 a3 true) else (if (a1.size : Int) > 200 then (hogsheadlaw3_FindGrafts.j0 k l0 a1 l2 a3 true) else ((tree_May.f k l0).bind fun t284 => (if t284 = true then ((tree_May.f k l2).bind fun t285 => (hogsheadlaw3_FindGrafts.j0 k l0 a1 l2 a3 (!t285))) else (hogsheadlaw3_FindGrafts.j0 k l0 a1 l2 a3 true))))) = some true := H; have A8 := am A80; clear A80; by_cases c9 : t283 = true
   ·subst c9
    have H1 : (hogsheadlaw3_FindGrafts.j0 k l0 a1 l2 a3 true) = some true := by rw [if_pos rfl] at H; exact H
    clear H; have H := H1; clear H1; have H' := am H; clear H; go_wp2_with (first | ((with_reducible refine gate_callee (f := 7) rfl ?_); refine goesL_ (some 21) rfl rfl Tryd.func7 (by kernel_rfl) rfl #[.slice A0 l0.length c0, .int .i64 40] rfl (by (try simp only [mT, mC, mN]); first | done | rfl | (simp only [lD, lT]; rfl)) ?_; (with_reducible refine (hogsheadlaw0_GreatNodes.calls k _ _ l0 40 false _ ?side1 ?side2 A6.out).mono ?_); (case side1 => repeat (first | exact (Kd.C_below HR0.out HB.out) | (with_reducible refine cA ?_ _) | (with_reducible refine cN ?_ _) | (with_reducible refine cD ?_))); (case side2 => exact HC0.out); rintro e w' ⟨rfl, ⟨nd, rfl⟩⟩; refine ⟨_, rfl, ?_⟩) | (go_at_call 7; (with_reducible refine (hogsheadlaw0_GreatNodes.calls k _ _ l2 20 true _ ?side1 ?side2 A8.out).mono ?_); (case side1 => repeat (first | exact (Kd.C_below HR2.out (by repeat (first | (with_reducible first | exact HB.out | apply bA | apply bN | apply bO) | exact HB.out))) | (with_reducible refine cA ?_ _) | (with_reducible refine cN ?_ _) | (with_reducible refine cD ?_))); (case side2 => exact HC2.out); rintro e w' ⟨rfl, ⟨nd, rfl⟩⟩))
    go_meet; case rel => exact ⟨_, (true), (by first | rfl | (simp; done) | (simp [*]; done)), H', ⟨by first | omega | exact Nat.le_refl _⟩, ⟨by repeat (first | (with_reducible first | exact HB.out | apply bA | apply bN | apply bO) | exact HB.out)⟩⟩
   ·replace c9 := Bool.eq_false_iff.mpr c9
    subst c9; have H1 : (if (a1.size : Int) > 200 then (hogsheadlaw3_FindGrafts.j0 k l0 a1 l2 a3 true) else ((tree_May.f k l0).bind fun t284 => (if t284 = true then ((tree_May.f k l2).bind fun t285 => (hogsheadlaw3_FindGrafts.j0 k l0 a1 l2 a3 (!t285))) else (hogsheadlaw3_FindGrafts.j0 k l0 a1 l2 a3 true)))) = some true := by rw [if_neg (show ¬ (false = true) by decide)] at H; exact H
    clear H; have H := H1; clear H1; by_cases c10 : (a1.size : Int) > 200
    ·rw [if_pos c10] at H
     have c10b0 : decide (200 < (a1.size : Int)) = true := decide_eq_true c10; have c10b1 : decide (200 < a1.size) = true := decide_eq_true (by omega); clear c10; (first | rw [c10b0] | (simp only [i64_w, i32_w]; rw [c10b0]) | skip)
     have H' := am H; clear H; go_wp2_with (first | ((with_reducible refine gate_callee (f := 7) rfl ?_); refine goesL_ (some 21) rfl rfl Tryd.func7 (by kernel_rfl) rfl #[.slice A0 l0.length c0, .int .i64 40] rfl (by (try simp only [mT, mC, mN]); first | done | rfl | (simp only [lD, lT]; rfl)) ?_; (with_reducible refine (hogsheadlaw0_GreatNodes.calls k _ _ l0 40 false _ ?side1 ?side2 A6.out).mono ?_); (case side1 => repeat (first | exact (Kd.C_below HR0.out HB.out) | (with_reducible refine cA ?_ _) | (with_reducible refine cN ?_ _) | (with_reducible refine cD ?_))); (case side2 => exact HC0.out); rintro e w' ⟨rfl, ⟨nd, rfl⟩⟩; refine ⟨_, rfl, ?_⟩) | (go_at_call 7; (with_reducible refine (hogsheadlaw0_GreatNodes.calls k _ _ l2 20 false _ ?side1 ?side2 A8.out).mono ?_); (case side1 => repeat (first | exact (Kd.C_below HR2.out (by repeat (first | (with_reducible first | exact HB.out | apply bA | apply bN | apply bO) | exact HB.out))) | (with_reducible refine cA ?_ _) | (with_reducible refine cN ?_ _) | (with_reducible refine cD ?_))); (case side2 => exact HC2.out); rintro e w' ⟨rfl, ⟨nd, rfl⟩⟩))
     go_meet; case rel => exact ⟨_, (true), (by first | rfl | (simp; done) | (simp [*]; done)), H', ⟨by first | omega | exact Nat.le_refl _⟩, ⟨by repeat (first | (with_reducible first | exact HB.out | apply bA | apply bN | apply bO) | exact HB.out)⟩⟩
    ·rw [if_neg c10] at H
     have c10b0 : decide (200 < (a1.size : Int)) = false := decide_eq_false c10; have c10b1 : decide (200 < a1.size) = false := decide_eq_false (by omega); clear c10; (first | rw [c10b0] | (simp only [i64_w, i32_w]; rw [c10b0]) | skip)
     replace H := oB H; obtain ⟨t284, A110, H⟩ := H; replace H : (if t284 = true then ((tree_May.f k l2).bind fun t285 => (hogsheadlaw3_FindGrafts.j0 k l0 a1 l2 a3 (!t285))) else (hogsheadlaw3_FindGrafts.j0 k l0 a1 l2 a3 true)) = some true := H; have A11 := am A110; clear A110; by_cases c12 : t284 = true
     ·subst c12
      have H1 : ((tree_May.f k l2).bind fun t285 => (hogsheadlaw3_FindGrafts.j0 k l0 a1 l2 a3 (!t285))) = some true := by rw [if_pos rfl] at H; exact H
      clear H; have H := H1; clear H1; replace H := oB H; obtain ⟨t285, A130, H⟩ := H; replace H : (hogsheadlaw3_FindGrafts.j0 k l0 a1 l2 a3 (!t285)) = some true := H; have A13 := am A130; clear A130; have H' := am H; clear H; go_wp2_with (first | ((with_reducible refine gate_callee (f := 7) rfl ?_); refine goesL_ (some 21) rfl rfl Tryd.func7 (by kernel_rfl) rfl #[.slice A0 l0.length c0, .int .i64 40] rfl (by (try simp only [mT, mC, mN]); first | done | rfl | (simp only [lD, lT]; rfl)) ?_; (with_reducible refine (hogsheadlaw0_GreatNodes.calls k _ _ l0 40 false _ ?side1 ?side2 A6.out).mono ?_); (case side1 => repeat (first | exact (Kd.C_below HR0.out HB.out) | (with_reducible refine cA ?_ _) | (with_reducible refine cN ?_ _) | (with_reducible refine cD ?_))); (case side2 => exact HC0.out); rintro e w' ⟨rfl, ⟨nd, rfl⟩⟩; refine ⟨_, rfl, ?_⟩) | (go_at_call 7; (with_reducible refine (hogsheadlaw0_GreatNodes.calls k _ _ l2 20 false _ ?side1 ?side2 A8.out).mono ?_); (case side1 => repeat (first | exact (Kd.C_below HR2.out (by repeat (first | (with_reducible first | exact HB.out | apply bA | apply bN | apply bO) | exact HB.out))) | (with_reducible refine cA ?_ _) | (with_reducible refine cN ?_ _) | (with_reducible refine cD ?_))); (case side2 => exact HC2.out); rintro e w' ⟨rfl, ⟨nd, rfl⟩⟩) | (go_at_call 8; (with_reducible refine (tree_May.calls k _ _ l0 true _ ?side1 ?side2 A11.out).mono ?_); (case side1 => repeat (first | exact (Kd.C_below HR0.out (by repeat (first | (with_reducible first | exact HB.out | apply bA | apply bN | apply bO) | exact HB.out))) | (with_reducible refine cA ?_ _) | (with_reducible refine cN ?_ _) | (with_reducible refine cD ?_))); (case side2 => exact HC0.out); rintro e w14 ⟨rfl, hb⟩; have n0_ := am (below_step (by repeat (first | (with_reducible first | exact HB.out | apply bA | apply bN | apply bO) | exact HB.out)) hb); clear HB; have HB := n0_; clear n0_) | (go_at_call 8; (with_reducible refine (tree_May.calls k _ _ l2 t285 _ ?side1 ?side2 A13.out).mono ?_); (case side1 => repeat (first | exact (Kd.C_below HR2.out HB.out) | (with_reducible refine cA ?_ _) | (with_reducible refine cN ?_ _) | (with_reducible refine cD ?_))); (case side2 => exact HC2.out); rintro e w15 ⟨rfl, hb⟩; have n0_ := am (below_step (by repeat (first | (with_reducible first | exact HB.out | apply bA | apply bN | apply bO) | exact HB.out)) hb); clear HB; have HB := n0_; clear n0_))
      go_meet; case rel => exact ⟨_, (!t285), (by first | rfl | (simp; done) | (simp [*]; done)), H', ⟨by first | omega | exact Nat.le_refl _⟩, ⟨by repeat (first | (with_reducible first | exact HB.out | apply bA | apply bN | apply bO) | exact HB.out)⟩⟩
     ·replace c12 := Bool.eq_false_iff.mpr c12
      subst c12; have H1 : (hogsheadlaw3_FindGrafts.j0 k l0 a1 l2 a3 true) = some true := by rw [if_neg (show ¬ (false = true) by decide)] at H; exact H
      clear H; have H := H1; clear H1; have H' := am H; clear H; go_wp2_with (first | ((with_reducible refine gate_callee (f := 7) rfl ?_); refine goesL_ (some 21) rfl rfl Tryd.func7 (by kernel_rfl) rfl #[.slice A0 l0.length c0, .int .i64 40] rfl (by (try simp only [mT, mC, mN]); first | done | rfl | (simp only [lD, lT]; rfl)) ?_; (with_reducible refine (hogsheadlaw0_GreatNodes.calls k _ _ l0 40 false _ ?side1 ?side2 A6.out).mono ?_); (case side1 => repeat (first | exact (Kd.C_below HR0.out HB.out) | (with_reducible refine cA ?_ _) | (with_reducible refine cN ?_ _) | (with_reducible refine cD ?_))); (case side2 => exact HC0.out); rintro e w' ⟨rfl, ⟨nd, rfl⟩⟩; refine ⟨_, rfl, ?_⟩) | (go_at_call 7; (with_reducible refine (hogsheadlaw0_GreatNodes.calls k _ _ l2 20 false _ ?side1 ?side2 A8.out).mono ?_); (case side1 => repeat (first | exact (Kd.C_below HR2.out (by repeat (first | (with_reducible first | exact HB.out | apply bA | apply bN | apply bO) | exact HB.out))) | (with_reducible refine cA ?_ _) | (with_reducible refine cN ?_ _) | (with_reducible refine cD ?_))); (case side2 => exact HC2.out); rintro e w' ⟨rfl, ⟨nd, rfl⟩⟩) | (go_at_call 8; (with_reducible refine (tree_May.calls k _ _ l0 false _ ?side1 ?side2 A11.out).mono ?_); (case side1 => repeat (first | exact (Kd.C_below HR0.out (by repeat (first | (with_reducible first | exact HB.out | apply bA | apply bN | apply bO) | exact HB.out))) | (with_reducible refine cA ?_ _) | (with_reducible refine cN ?_ _) | (with_reducible refine cD ?_))); (case side2 => exact HC0.out); rintro e w16 ⟨rfl, hb⟩; have n0_ := am (below_step (by repeat (first | (with_reducible first | exact HB.out | apply bA | apply bN | apply bO) | exact HB.out)) hb); clear HB; have HB := n0_; clear n0_))
      go_meet; case rel => exact ⟨_, (true), (by first | rfl | (simp; done) | (simp [*]; done)), H', ⟨by first | omega | exact Nat.le_refl _⟩, ⟨by repeat (first | (with_reducible first | exact HB.out | apply bA | apply bN | apply bO) | exact HB.out)⟩⟩
 case rest =>
  clear HC5; (try clear c1); (try clear c2); (try clear p2); (try clear c6); (try clear c7); (try clear c9); (try clear c10); (try clear c10b0); (try clear c10b1); (try clear c12); obtain ⟨kq, x40_4, rfl, HA, HJ4, HB⟩ := hcut; cases kq with
  | zero => exact absurd HA.out (by simp [hogsheadlaw3_FindGrafts.j0])
  | succ kj4 =>
   have H := HA.out; clear HA; simp only [hogsheadlaw3_FindGrafts.j0] at H
   by_cases c17 : x40_4 = true
   ·subst c17
    have H1 : ((hogsheadlaw3_awake.f kj4).bind fun t286 => (some t286)) = some true := by rw [if_pos rfl] at H; exact H
    clear H; have H := H1; clear H1; replace H := oB H; obtain ⟨t286, A180, H⟩ := H; replace H : (some t286) = some true := H; have A18 := am A180; clear A180; obtain rfl := Option.some.inj H; go_wp2_with (first | ((with_reducible refine gate_callee (f := 9) rfl ?_); refine goesL_ (some 41) rfl rfl Tryd.func9 (by kernel_rfl) rfl #[] rfl (by (try simp only [mT, mC, mN]); first | done | rfl | (simp only [lD, lT]; rfl)) ?_; (with_reducible refine (hogsheadlaw3_awake.calls kj4  true _ A18.out).mono ?_); rintro e w19 ⟨rfl, hb⟩; refine ⟨_, rfl, ?_⟩; have n0_ := am (below_step (by repeat (first | (with_reducible first | exact HB.out | apply bA | apply bN | apply bO) | exact HB.out)) hb); clear HB; have HB := n0_; clear n0_))
    go_ret; exact ⟨by first | rfl | (simp [eN, eS] <;> rfl) | (simp [*, eN, eS] <;> rfl), by repeat (first | (with_reducible first | exact HB.out | apply bA | apply bN | apply bO) | exact HB.out)⟩
   ·replace c17 := Bool.eq_false_iff.mpr c17
    subst c17; have H1 : ((find_Graft.f kj4 l0 a1 l2).bind fun bt287 => (if bt287.2 = true then ((find_Sub.f kj4 bt287.1 a1).bind fun bt292 => (if bt292.2 = true then ((hogsheadlaw0_SameNodes.f kj4 bt292.1 l2).bind fun t296 => (if t296 = true then ((tree_May.f kj4 bt287.1).bind fun t297 => (if t297 = true then (hogsheadlaw3_FindGrafts.j1 kj4 l0 a1 a3 bt287.1 ((bt287.1.length : Int) != (wrap64 ((l0.length : Int) + (l2.length : Int))))) else (hogsheadlaw3_FindGrafts.j1 kj4 l0 a1 a3 bt287.1 true))) else (hogsheadlaw3_FindGrafts.j1 kj4 l0 a1 a3 bt287.1 true))) else (hogsheadlaw3_FindGrafts.j1 kj4 l0 a1 a3 bt287.1 true))) else (if (bt287.1.length : Int) = 0 then ((hogsheadlaw3_awake.f kj4).bind fun t291 => (some t291)) else (some false)))) = some true := by rw [if_neg (show ¬ (false = true) by decide)] at H; exact H
    clear H; have H := H1; clear H1; replace H := oB H; obtain ⟨⟨t287, t288⟩, A200, H⟩ := H; replace H : (if t288 = true then ((find_Sub.f kj4 t287 a1).bind fun bt292 => (if bt292.2 = true then ((hogsheadlaw0_SameNodes.f kj4 bt292.1 l2).bind fun t296 => (if t296 = true then ((tree_May.f kj4 t287).bind fun t297 => (if t297 = true then (hogsheadlaw3_FindGrafts.j1 kj4 l0 a1 a3 t287 ((t287.length : Int) != (wrap64 ((l0.length : Int) + (l2.length : Int))))) else (hogsheadlaw3_FindGrafts.j1 kj4 l0 a1 a3 t287 true))) else (hogsheadlaw3_FindGrafts.j1 kj4 l0 a1 a3 t287 true))) else (hogsheadlaw3_FindGrafts.j1 kj4 l0 a1 a3 t287 true))) else (if (t287.length : Int) = 0 then ((hogsheadlaw3_awake.f kj4).bind fun t291 => (some t291)) else (some false))) = some true := H; have A20 := am A200; clear A200; by_cases c21 : t288 = true
    ·subst c21
     have H1 : ((find_Sub.f kj4 t287 a1).bind fun bt292 => (if bt292.2 = true then ((hogsheadlaw0_SameNodes.f kj4 bt292.1 l2).bind fun t296 => (if t296 = true then ((tree_May.f kj4 t287).bind fun t297 => (if t297 = true then (hogsheadlaw3_FindGrafts.j1 kj4 l0 a1 a3 t287 ((t287.length : Int) != (wrap64 ((l0.length : Int) + (l2.length : Int))))) else (hogsheadlaw3_FindGrafts.j1 kj4 l0 a1 a3 t287 true))) else (hogsheadlaw3_FindGrafts.j1 kj4 l0 a1 a3 t287 true))) else (hogsheadlaw3_FindGrafts.j1 kj4 l0 a1 a3 t287 true))) = some true := by rw [if_pos rfl] at H; exact H
     clear H; have H := H1; clear H1; replace H := oB H; obtain ⟨⟨t292, t293⟩, A220, H⟩ := H; replace H : (if t293 = true then ((hogsheadlaw0_SameNodes.f kj4 t292 l2).bind fun t296 => (if t296 = true then ((tree_May.f kj4 t287).bind fun t297 => (if t297 = true then (hogsheadlaw3_FindGrafts.j1 kj4 l0 a1 a3 t287 ((t287.length : Int) != (wrap64 ((l0.length : Int) + (l2.length : Int))))) else (hogsheadlaw3_FindGrafts.j1 kj4 l0 a1 a3 t287 true))) else (hogsheadlaw3_FindGrafts.j1 kj4 l0 a1 a3 t287 true))) else (hogsheadlaw3_FindGrafts.j1 kj4 l0 a1 a3 t287 true)) = some true := H; have A22 := am A220; clear A220; have HC23 := am H; clear H; go_upto_region 7 with (first | ((with_reducible refine gate_callee (f := 23) rfl ?_); refine goesL_ (some 46) rfl rfl Tryd.func23 (by kernel_rfl) rfl #[.slice A0 l0.length c0, .string a1, .slice A2 l2.length c2] rfl (by (try simp only [mT, mC, mN]); first | done | rfl | (simp only [lD, lT]; rfl)) ?_; (with_reducible refine (find_Graft.calls kj4 _ _ l0 a1 _ _ l2 t287 true _ ?side1 ?side2 ?side3 ?side4 A20.out).mono ?_); (case side1 => repeat (first | exact (Kd.C_below HR0.out HB.out) | (with_reducible refine cA ?_ _) | (with_reducible refine cN ?_ _) | (with_reducible refine cD ?_))); (case side2 => exact HC0.out); (case side3 => repeat (first | exact (Kd.C_below HR2.out HB.out) | (with_reducible refine cA ?_ _) | (with_reducible refine cN ?_ _) | (with_reducible refine cD ?_))); (case side4 => exact HC2.out); rintro e w24 ⟨v289, rfl, ho0, hb⟩; refine ⟨_, rfl, ?_⟩; have n0_ := am (Kd.R_lower ho0 (below_size (by repeat (first | (with_reducible first | exact HB.out | apply bA | apply bN | apply bO) | exact HB.out)))); have n1_ := am (below_step (by repeat (first | (with_reducible first | exact HB.out | apply bA | apply bN | apply bO) | exact HB.out)) hb); clear HB; have HO290 := n0_; have HB := n1_; clear n0_ n1_; (try clear ho0); obtain ⟨Ao25, co25, eo25⟩ := Kd.R_slice HO290.out; subst eo25) | ((with_reducible refine gate_callee (f := 16) rfl ?_); refine goesL_ (some 60) rfl rfl Tryd.func16 (by kernel_rfl) rfl #[.slice Ao25 t287.length co25, .string a1] rfl (by (try simp only [mT, mC, mN]); first | done | rfl | (simp only [lD, lT]; rfl)) ?_; (with_reducible refine (find_Sub.calls kj4 _ _ t287 a1 t292 t293 _ ?side1 ?side2 A22.out).mono ?_); (case side1 => repeat (first | exact (Kd.R_reads' HO290.out).2.2 | (with_reducible refine cA ?_ _) | (with_reducible refine cN ?_ _) | (with_reducible refine cD ?_))); (case side2 => exact (Kd.R_reads' HO290.out).2.1); rintro e w26 ⟨v294, rfl, ho0, hb⟩; refine ⟨_, rfl, ?_⟩; have n0_ := am (Kd.R_elder' (by (with_reducible repeat (first | apply rA | apply rN | apply rD)); exact HO290.out) (Kd.R_base ho0) hb); have n1_ := am (Kd.R_lower (Kd.R_new' ho0 (Kd.R_lt (by (with_reducible repeat (first | apply rA | apply rN | apply rD)); exact HO290.out))) (below_size (by repeat (first | (with_reducible first | exact HB.out | apply bA | apply bN | apply bO) | exact HB.out)))); have n2_ := am (below_step (by repeat (first | (with_reducible first | exact HB.out | apply bA | apply bN | apply bO) | exact HB.out)) hb); clear HO290; clear HB; have HO290 := n0_; have HO295 := n1_; have HB := n2_; clear n0_ n1_ n2_; (try clear ho0)))
     (try simp only [Act.put, sA, sB, sC])
     go_cut [85] (fun v85 wc => ∃ (kq : Nat) (x85_22 : Bool), v85 = .bool x85_22 ∧ Aside0 (hogsheadlaw3_FindGrafts.j1 kq l0 a1 a3 t287 x85_22 = some true) ∧ Aside0 (kq ≤ kj4) ∧ Aside0 (Kd.R k31 31 wc w.heap.size (fun _ => True) (.slice Ao25 t287.length co25) t287) ∧ Aside0 (Below w.heap.size w wc))
     case first =>
      have H := HC23.out; clear HC23; by_cases c27 : t293 = true
      ·subst c27
       have H1 : ((hogsheadlaw0_SameNodes.f kj4 t292 l2).bind fun t296 => (if t296 = true then ((tree_May.f kj4 t287).bind fun t297 => (if t297 = true then (hogsheadlaw3_FindGrafts.j1 kj4 l0 a1 a3 t287 ((t287.length : Int) != (wrap64 ((l0.length : Int) + (l2.length : Int))))) else (hogsheadlaw3_FindGrafts.j1 kj4 l0 a1 a3 t287 true))) else (hogsheadlaw3_FindGrafts.j1 kj4 l0 a1 a3 t287 true))) = some true := by rw [if_pos rfl] at H; exact H
       clear H; have H := H1; clear H1; replace H := oB H; obtain ⟨t296, A280, H⟩ := H; replace H : (if t296 = true then ((tree_May.f kj4 t287).bind fun t297 => (if t297 = true then (hogsheadlaw3_FindGrafts.j1 kj4 l0 a1 a3 t287 ((t287.length : Int) != (wrap64 ((l0.length : Int) + (l2.length : Int))))) else (hogsheadlaw3_FindGrafts.j1 kj4 l0 a1 a3 t287 true))) else (hogsheadlaw3_FindGrafts.j1 kj4 l0 a1 a3 t287 true)) = some true := H; have A28 := am A280; clear A280; by_cases c29 : t296 = true
       ·subst c29
        have H1 : ((tree_May.f kj4 t287).bind fun t297 => (if t297 = true then (hogsheadlaw3_FindGrafts.j1 kj4 l0 a1 a3 t287 ((t287.length : Int) != (wrap64 ((l0.length : Int) + (l2.length : Int))))) else (hogsheadlaw3_FindGrafts.j1 kj4 l0 a1 a3 t287 true))) = some true := by rw [if_pos rfl] at H; exact H
        clear H; have H := H1; clear H1; replace H := oB H; obtain ⟨t297, A300, H⟩ := H; replace H : (if t297 = true then (hogsheadlaw3_FindGrafts.j1 kj4 l0 a1 a3 t287 ((t287.length : Int) != (wrap64 ((l0.length : Int) + (l2.length : Int))))) else (hogsheadlaw3_FindGrafts.j1 kj4 l0 a1 a3 t287 true)) = some true := H; have A30 := am A300; clear A300; by_cases c31 : t297 = true
        ·subst c31
         have H1 : (hogsheadlaw3_FindGrafts.j1 kj4 l0 a1 a3 t287 ((t287.length : Int) != (wrap64 ((l0.length : Int) + (l2.length : Int))))) = some true := by rw [if_pos rfl] at H; exact H
         clear H; have H := H1; clear H1; have H' := am H; clear H; obtain ⟨Ao32, co32, eo32⟩ := Kd.R_slice HO295.out; subst eo32; go_wp2_with (first | (go_at_call 17; (with_reducible refine (hogsheadlaw0_SameNodes.calls kj4 _ _ t292 _ _ l2 true _ ?side1 ?side2 ?side3 ?side4 A28.out).mono ?_); (case side1 => repeat (first | exact (Kd.R_reads' HO295.out).2.2 | (with_reducible refine cA ?_ _) | (with_reducible refine cN ?_ _) | (with_reducible refine cD ?_))); (case side2 => exact (Kd.R_reads' HO295.out).2.1); (case side3 => repeat (first | exact (Kd.C_below HR2.out HB.out) | (with_reducible refine cA ?_ _) | (with_reducible refine cN ?_ _) | (with_reducible refine cD ?_))); (case side4 => exact HC2.out); rintro e w' ⟨rfl, ⟨nd, rfl⟩⟩) | (go_at_call 8; (with_reducible refine (tree_May.calls kj4 _ _ t287 true _ ?side1 ?side2 A30.out).mono ?_); (case side1 => repeat (first | exact (Kd.R_reads' HO290.out).2.2 | (with_reducible refine cA ?_ _) | (with_reducible refine cN ?_ _) | (with_reducible refine cD ?_))); (case side2 => exact (Kd.R_reads' HO290.out).2.1); rintro e w33 ⟨rfl, hb⟩; have n0_ := am (Kd.R_below (by (with_reducible repeat (first | apply rA | apply rN | apply rD)); exact HO290.out) hb); have n1_ := am (Kd.R_below (by (with_reducible repeat (first | apply rA | apply rN | apply rD)); exact HO295.out) hb); have n2_ := am (below_step (by repeat (first | (with_reducible first | exact HB.out | apply bA | apply bN | apply bO) | exact HB.out)) hb); clear HO290; clear HO295; clear HB; have HO290 := n0_; have HO295 := n1_; have HB := n2_; clear n0_ n1_ n2_))
         go_meet; case rel => exact ⟨_, (((t287.length : Int) != (wrap64 ((l0.length : Int) + (l2.length : Int))))), (by first | rfl | (simp; done) | (simp [*]; done)), H', ⟨by have := HJ4.out; first | omega | exact Nat.le_refl _⟩, ⟨by (with_reducible repeat (first | apply rA | apply rN | apply rD)); exact Kd.R_mono HO290.out (fun _ hk => trivial)⟩, ⟨by repeat (first | (with_reducible first | exact HB.out | apply bA | apply bN | apply bO) | exact HB.out)⟩⟩
        ·replace c31 := Bool.eq_false_iff.mpr c31
         subst c31; have H1 : (hogsheadlaw3_FindGrafts.j1 kj4 l0 a1 a3 t287 true) = some true := by rw [if_neg (show ¬ (false = true) by decide)] at H; exact H
         exact absurd H1 (by cases kj4 <;> simp [hogsheadlaw3_FindGrafts.j1, Option.bind_eq_some_iff])
       ·replace c29 := Bool.eq_false_iff.mpr c29
        subst c29; have H1 : (hogsheadlaw3_FindGrafts.j1 kj4 l0 a1 a3 t287 true) = some true := by rw [if_neg (show ¬ (false = true) by decide)] at H; exact H
        exact absurd H1 (by cases kj4 <;> simp [hogsheadlaw3_FindGrafts.j1, Option.bind_eq_some_iff])
      ·replace c27 := Bool.eq_false_iff.mpr c27
       subst c27; have H1 : (hogsheadlaw3_FindGrafts.j1 kj4 l0 a1 a3 t287 true) = some true := by rw [if_neg (show ¬ (false = true) by decide)] at H; exact H
       exact absurd H1 (by cases kj4 <;> simp [hogsheadlaw3_FindGrafts.j1, Option.bind_eq_some_iff])
     case rest =>
      clear HC23; (try clear c1); (try clear c2); (try clear p2); (try clear c3); (try clear c6); (try clear p6); (try clear c7); (try clear c9); (try clear c10); (try clear c10b0); (try clear c10b1); (try clear c12); (try clear c16); (try clear c17); (try clear c21); (try clear c23); (try clear c27); (try clear c29); (try clear c31); (try clear p2); obtain ⟨kq, x85_22, rfl, HA, HJ22, HO_9, HB⟩ := hcut; cases kq with
      | zero => exact absurd HA.out (by simp [hogsheadlaw3_FindGrafts.j1])
      | succ kj22 =>
       have H := HA.out; clear HA; simp only [hogsheadlaw3_FindGrafts.j1] at H
       by_cases c37 : x85_22 = true
       ·subst c37
        have H1 : (some false) = some true := by rw [if_pos rfl] at H; exact H
        exact absurd H1 (by simp)
       ·replace c37 := Bool.eq_false_iff.mpr c37
        subst c37; have H1 : ((hogsheadlaw0_Low.f a3 (t287.length : Int)).bind fun t298 => (if 0 ≤ t298 then (if t298 < (t287.length : Int) then ((find_Lookup.f kj22 t287 ((rd_T31 t287 t298).f0)).bind fun bt300 => ((find_Sub.f kj22 t287 ((rd_T31 t287 t298).f0)).bind fun bt306 => (if bt300.2.2.2 = true then (if (!(bt300.1.toList == (((rd_T31 t287 t298).f0).toList)) || (!(bt300.2.1 == ((rd_T31 t287 t298).f1)) || (!(bt300.2.2.1.toList == (((rd_T31 t287 t298).f2).toList))))) = true then (hogsheadlaw3_FindGrafts.j2 kj22 l0 a1 t287 true) else (if bt306.2 = true then ((tree_May.f kj22 bt306.1).bind fun t311 => (if t311 = true then (if (bt306.1.length : Int) < 1 then (hogsheadlaw3_FindGrafts.j2 kj22 l0 a1 t287 true) else (if 0 < (bt306.1.length : Int) then (hogsheadlaw3_FindGrafts.j2 kj22 l0 a1 t287 (((rd_T31 bt306.1 0).f1) != bt300.2.1)) else (none))) else (hogsheadlaw3_FindGrafts.j2 kj22 l0 a1 t287 true))) else (hogsheadlaw3_FindGrafts.j2 kj22 l0 a1 t287 true))) else (hogsheadlaw3_FindGrafts.j2 kj22 l0 a1 t287 true)))) else (none)) else (none))) = some true := by rw [if_neg (show ¬ (false = true) by decide)] at H; exact H
        clear H; have H := H1; clear H1; replace H := oB H; obtain ⟨t298, A380, H⟩ := H; replace H : (if 0 ≤ t298 then (if t298 < (t287.length : Int) then ((find_Lookup.f kj22 t287 ((rd_T31 t287 t298).f0)).bind fun bt300 => ((find_Sub.f kj22 t287 ((rd_T31 t287 t298).f0)).bind fun bt306 => (if bt300.2.2.2 = true then (if (!(bt300.1.toList == (((rd_T31 t287 t298).f0).toList)) || (!(bt300.2.1 == ((rd_T31 t287 t298).f1)) || (!(bt300.2.2.1.toList == (((rd_T31 t287 t298).f2).toList))))) = true then (hogsheadlaw3_FindGrafts.j2 kj22 l0 a1 t287 true) else (if bt306.2 = true then ((tree_May.f kj22 bt306.1).bind fun t311 => (if t311 = true then (if (bt306.1.length : Int) < 1 then (hogsheadlaw3_FindGrafts.j2 kj22 l0 a1 t287 true) else (if 0 < (bt306.1.length : Int) then (hogsheadlaw3_FindGrafts.j2 kj22 l0 a1 t287 (((rd_T31 bt306.1 0).f1) != bt300.2.1)) else (none))) else (hogsheadlaw3_FindGrafts.j2 kj22 l0 a1 t287 true))) else (hogsheadlaw3_FindGrafts.j2 kj22 l0 a1 t287 true))) else (hogsheadlaw3_FindGrafts.j2 kj22 l0 a1 t287 true)))) else (none)) else (none)) = some true := H; have A38 := am A380; clear A380; by_cases c39 : 0 ≤ t298
        ·rw [if_pos c39] at H
         have c39b0 : decide (0 ≤ t298) = true := decide_eq_true c39; clear c39; by_cases c40 : t298 < (t287.length : Int)
         ·rw [if_pos c40] at H
          have c40b0 : decide (t298 < (t287.length : Int)) = true := decide_eq_true c40; clear c40; replace H := oB H; obtain ⟨⟨t300, t301, t302, t303⟩, A410, H⟩ := H; replace H : ((find_Sub.f kj22 t287 ((rd_T31 t287 t298).f0)).bind fun bt306 => (if t303 = true then (if (!(t300.toList == (((rd_T31 t287 t298).f0).toList)) || (!(t301 == ((rd_T31 t287 t298).f1)) || (!(t302.toList == (((rd_T31 t287 t298).f2).toList))))) = true then (hogsheadlaw3_FindGrafts.j2 kj22 l0 a1 t287 true) else (if bt306.2 = true then ((tree_May.f kj22 bt306.1).bind fun t311 => (if t311 = true then (if (bt306.1.length : Int) < 1 then (hogsheadlaw3_FindGrafts.j2 kj22 l0 a1 t287 true) else (if 0 < (bt306.1.length : Int) then (hogsheadlaw3_FindGrafts.j2 kj22 l0 a1 t287 (((rd_T31 bt306.1 0).f1) != t301)) else (none))) else (hogsheadlaw3_FindGrafts.j2 kj22 l0 a1 t287 true))) else (hogsheadlaw3_FindGrafts.j2 kj22 l0 a1 t287 true))) else (hogsheadlaw3_FindGrafts.j2 kj22 l0 a1 t287 true))) = some true := H; have A41 := am A410; clear A410; replace H := oB H; obtain ⟨⟨t306, t307⟩, A420, H⟩ := H; replace H : (if t303 = true then (if (!(t300.toList == (((rd_T31 t287 t298).f0).toList)) || (!(t301 == ((rd_T31 t287 t298).f1)) || (!(t302.toList == (((rd_T31 t287 t298).f2).toList))))) = true then (hogsheadlaw3_FindGrafts.j2 kj22 l0 a1 t287 true) else (if t307 = true then ((tree_May.f kj22 t306).bind fun t311 => (if t311 = true then (if (t306.length : Int) < 1 then (hogsheadlaw3_FindGrafts.j2 kj22 l0 a1 t287 true) else (if 0 < (t306.length : Int) then (hogsheadlaw3_FindGrafts.j2 kj22 l0 a1 t287 (((rd_T31 t306 0).f1) != t301)) else (none))) else (hogsheadlaw3_FindGrafts.j2 kj22 l0 a1 t287 true))) else (hogsheadlaw3_FindGrafts.j2 kj22 l0 a1 t287 true))) else (hogsheadlaw3_FindGrafts.j2 kj22 l0 a1 t287 true)) = some true := H
          have A42 := am A420; clear A420; have HC43 := am H; clear H; go_upto_region 12 with (first | ((with_reducible refine gate_callee (f := 10) rfl ?_); refine goesL_ (some 89) rfl rfl Tryd.func10 (by kernel_rfl) rfl #[.int .i64 a3, .int .i64 (t287.length : Int)] rfl (by (try simp only [mT, mC, mN]); first | done | rfl | (simp only [lD, lT]; rfl)) ?_; (with_reducible refine (hogsheadlaw0_Low.calls a3 (t287.length : Int) t298 _ A38.out).mono ?_); rintro e w' ⟨rfl, ⟨nd, rfl⟩⟩; refine ⟨_, rfl, ?_⟩; (try (rw [drewN_self wc]; generalize hq_ : World.drewN wc _ = wc; have n0_ : Aside0 (Kd.R k31 31 wc w.heap.size (fun _ => True) (.slice Ao25 t287.length co25) t287) := ⟨by rw [← hq_]; exact (by (with_reducible repeat (first | apply rA | apply rN | apply rD)); exact HO_9.out)⟩; have n1_ : Aside0 (Below w.heap.size w wc) := ⟨by rw [← hq_]; exact (by repeat (first | (with_reducible first | exact HB.out | apply bA | apply bN | apply bO) | exact HB.out))⟩; clear HO_9 HB hq_; have HO_9 := n0_; have HB := n1_; clear n0_ n1_)); have p299 : 0 ≤ (t298 : Int) := of_decide_eq_true (by assumption); have q299 : t298 < (t287.length : Int) := of_decide_eq_true (by assumption); obtain ⟨ad299, e299, hx299_0, hx299_1, hx299_2⟩ := at_T31 (Kd.R_reads' HO_9.out).2.2 t298 p299 q299; cases e299; replace p299 := eq_true p299; replace q299 := eq_true q299) | ((with_reducible refine gate_callee (f := 15) rfl ?_); refine goesL_ (some 97) rfl rfl Tryd.func15 (by kernel_rfl) rfl #[.slice (some ad299) t287.length co25, .string ((rd_T31 t287 t298).f0)] rfl (by (try simp only [mT, mC, mN]); first | done | rfl | (simp only [lD, lT]; rfl)) ?_; (with_reducible refine (find_Lookup.calls kj22 _ _ t287 ((rd_T31 t287 t298).f0) t300 t301 t302 t303 _ ?side1 ?side2 A41.out).mono ?_); (case side1 => repeat (first | exact (Kd.R_reads' HO_9.out).2.2 | (with_reducible refine cA ?_ _) | (with_reducible refine cN ?_ _) | (with_reducible refine cD ?_))); (case side2 => exact (Kd.R_reads' HO_9.out).2.1); rintro e w44 ⟨rfl, hb⟩; refine ⟨_, rfl, ?_⟩; have n0_ := am (Kd.R_below (by (with_reducible repeat (first | apply rA | apply rN | apply rD)); exact HO_9.out) hb); have n1_ := am (below_step (by repeat (first | (with_reducible first | exact HB.out | apply bA | apply bN | apply bO) | exact HB.out)) hb); clear HO_9; clear HB; have HO_9 := n0_; have HB := n1_; clear n0_ n1_) | ((with_reducible refine gate_dst (N := 13) rfl ?_); (try (refine gate_guard (by rfl) ?_; dsimp only)); refine box_event ?hg (N := 13) ?hd (cs := #[.string (⟨#[]⟩ : ByteArray), .int .i64 0, .string (⟨#[]⟩ : ByteArray)]) (t := 31) ?hr ?_; (case hd => rfl); (case hg => rfl); (case hr => first | (go_simp; done) | (go_simp; rfl)); intro gb304 hg w45 hbox hb; have n0_ := am (Kd.R_below (Kd.R_elderB (by (with_reducible repeat (first | apply rA | apply rN | apply rD)); exact HO_9.out) gb304 (Nat.le_of_eq hg.symm)) hb); have n1_ := am (below_step (by repeat (first | (with_reducible first | exact HB.out | apply bA | apply bN | apply bO) | exact HB.out)) hb); have n2_ := am (hbox); have n3_ := am ((by rw [hg]; exact (below_size (by repeat (first | (with_reducible first | exact HB.out | apply bA | apply bN | apply bO) | exact HB.out))) : w.heap.size ≤ gb304)); have n4_ := am ((by rw [hg]; exact (below_size (by repeat (first | (with_reducible first | exact HB.out | apply bA | apply bN | apply bO) | exact HB.out))) : w.heap.size ≤ gb304)); clear HO_9; clear HB; have HO_9 := n0_; have HB := n1_; have BK304 := n2_; have GW304 := n3_; have GE304 := n4_; clear n0_ n1_ n2_ n3_ n4_; clear hb hbox hg; have hcz46_0 : w45.cell? ⟨gb304, 0, none⟩ = some (.string (⟨#[]⟩ : ByteArray)) := (blk_cell BK304.out 0).trans rfl; have hcz46_1 : w45.cell? ⟨gb304, 1, none⟩ = some (.int .i64 0) := (blk_cell BK304.out 1).trans rfl; have hcz46_2 : w45.cell? ⟨gb304, 2, none⟩ = some (.string (⟨#[]⟩ : ByteArray)) := (blk_cell BK304.out 2).trans rfl; have hfz46_0 := blk_frozen BK304.out 0; have hfz46_1 := blk_frozen BK304.out 1; have hfz46_2 := blk_frozen BK304.out 2; have p305 : 0 ≤ (t298 : Int) := of_decide_eq_true (by assumption); have q305 : t298 < (t287.length : Int) := of_decide_eq_true (by assumption); obtain ⟨ad305, e305, hx305_0, hx305_1, hx305_2⟩ := at_T31 (Kd.R_reads' HO_9.out).2.2 t298 p305 q305; obtain rfl : ad299 = ad305 := (by injection e305); have hn305_0 : ad299.block ≠ gb304 := (by first | exact Kd.own_blk (Kd.R_ne HO_9.out BK304.out (by decide)) | exact HO_9.out.1 _ rfl | exact (HO_9.out.1 _ rfl).1 | exact (HO_9.out.1 _ rfl).2); have hn305_1 : ad299.block ≠ gb304 := (by first | exact Kd.own_blk (Kd.R_ne HO_9.out BK304.out (by decide)) | exact HO_9.out.1 _ rfl | exact (HO_9.out.1 _ rfl).1 | exact (HO_9.out.1 _ rfl).2); have hn305_2 : ad299.block ≠ gb304 := (by first | exact Kd.own_blk (Kd.R_ne HO_9.out BK304.out (by decide)) | exact HO_9.out.1 _ rfl | exact (HO_9.out.1 _ rfl).1 | exact (HO_9.out.1 _ rfl).2); replace hx305_0 := (cell_far (p := ⟨gb304, 0, none⟩) (by first | (rw [add_block]; exact hn305_0) | (show (Addr.add _ _).block ≠ _; rw [add_block]; exact hn305_0) | exact hn305_0) (.string t300)).trans hx305_0; replace hx305_1 := (cell_far (p := ⟨gb304, 0, none⟩) (by first | (rw [add_block]; exact hn305_0) | (show (Addr.add _ _).block ≠ _; rw [add_block]; exact hn305_0) | exact hn305_0) (.string t300)).trans hx305_1; replace hx305_2 := (cell_far (p := ⟨gb304, 0, none⟩) (by first | (rw [add_block]; exact hn305_0) | (show (Addr.add _ _).block ≠ _; rw [add_block]; exact hn305_0) | exact hn305_0) (.string t300)).trans hx305_2; replace hx305_0 := (cell_far (p := ⟨gb304, 1, none⟩) (by first | (rw [add_block]; exact hn305_1) | (show (Addr.add _ _).block ≠ _; rw [add_block]; exact hn305_1) | exact hn305_1) (.int .i64 t301)).trans hx305_0; replace hx305_1 := (cell_far (p := ⟨gb304, 1, none⟩) (by first | (rw [add_block]; exact hn305_1) | (show (Addr.add _ _).block ≠ _; rw [add_block]; exact hn305_1) | exact hn305_1) (.int .i64 t301)).trans hx305_1; replace hx305_2 := (cell_far (p := ⟨gb304, 1, none⟩) (by first | (rw [add_block]; exact hn305_1) | (show (Addr.add _ _).block ≠ _; rw [add_block]; exact hn305_1) | exact hn305_1) (.int .i64 t301)).trans hx305_2; replace hx305_0 := (cell_far (p := ⟨gb304, 2, none⟩) (by first | (rw [add_block]; exact hn305_2) | (show (Addr.add _ _).block ≠ _; rw [add_block]; exact hn305_2) | exact hn305_2) (.string t302)).trans hx305_0; replace hx305_1 := (cell_far (p := ⟨gb304, 2, none⟩) (by first | (rw [add_block]; exact hn305_2) | (show (Addr.add _ _).block ≠ _; rw [add_block]; exact hn305_2) | exact hn305_2) (.string t302)).trans hx305_1; replace hx305_2 := (cell_far (p := ⟨gb304, 2, none⟩) (by first | (rw [add_block]; exact hn305_2) | (show (Addr.add _ _).block ≠ _; rw [add_block]; exact hn305_2) | exact hn305_2) (.string t302)).trans hx305_2; clear hn305_0; clear hn305_1; clear hn305_2; replace p305 := eq_true p305; replace q305 := eq_true q305) | ((with_reducible refine gate_callee (f := 16) rfl ?_); refine goesL_ (some 107) rfl rfl Tryd.func16 (by kernel_rfl) rfl #[.slice (some ad299) t287.length co25, .string ((rd_T31 t287 t298).f0)] rfl (by (try simp only [mT, mC, mN]); first | done | rfl | (simp only [lD, lT]; rfl)) ?_; (with_reducible refine (find_Sub.calls kj22 _ _ t287 ((rd_T31 t287 t298).f0) t306 t307 _ ?side1 ?side2 A42.out).mono ?_); (case side1 => refine (Kd.R_reads' (e := 31) (base := w.heap.size) (ok := fun k_ => (True ∧ k_ ≠ gb304)) (n := t287.length) (c := co25) ?_).2.2; exact (by (with_reducible repeat (first | apply rA | apply rN | apply rD)); exact (Kd.R_mono (Kd.R_far (p := ⟨gb304, 2, none⟩) (Kd.R_far (p := ⟨gb304, 1, none⟩) (Kd.R_far (p := ⟨gb304, 0, none⟩) (Kd.R_mono HO_9.out (fun k_ hk => (⟨hk, hk.2⟩ : _ ∧ k_ ≠ gb304))) (fun _ hk => hk.2) (.string t300)) (fun _ hk => hk.2) (.int .i64 t301)) (fun _ hk => hk.2) (.string t302)) (fun _ h_ => h_.1)))); (case side2 => exact (Kd.R_reads' HO_9.out).2.1); rintro e w47 ⟨v308, rfl, ho0, hb⟩; refine ⟨_, rfl, ?_⟩; have n0_ := am (Kd.R_elder' (by (with_reducible repeat (first | apply rA | apply rN | apply rD)); exact (Kd.R_mono (Kd.R_far (p := ⟨gb304, 2, none⟩) (Kd.R_far (p := ⟨gb304, 1, none⟩) (Kd.R_far (p := ⟨gb304, 0, none⟩) (Kd.R_mono HO_9.out (fun k_ hk => (⟨hk, hk.2⟩ : _ ∧ k_ ≠ gb304))) (fun _ hk => hk.2) (.string t300)) (fun _ hk => hk.2) (.int .i64 t301)) (fun _ hk => hk.2) (.string t302)) (fun _ h_ => h_.1))) (Kd.R_base ho0) hb); have n1_ := am (Kd.R_lower (Kd.R_newB (Kd.R_new' ho0 (Kd.R_lt (by (with_reducible repeat (first | apply rA | apply rN | apply rD)); exact (Kd.R_mono (Kd.R_far (p := ⟨gb304, 2, none⟩) (Kd.R_far (p := ⟨gb304, 1, none⟩) (Kd.R_far (p := ⟨gb304, 0, none⟩) (Kd.R_mono HO_9.out (fun k_ hk => (⟨hk, hk.2⟩ : _ ∧ k_ ≠ gb304))) (fun _ hk => hk.2) (.string t300)) (fun _ hk => hk.2) (.int .i64 t301)) (fun _ hk => hk.2) (.string t302)) (fun _ h_ => h_.1))))) (g := gb304) (o := .cells #[.string t300, .int .i64 t301, .string t302] 31 (0, 0)) (by (with_reducible repeat (first | refine kN ?_ _ | refine kD ?_ | refine kA ?_ _)); refine blk_put (cs := #[.string t300, .int .i64 t301, .string (⟨#[]⟩ : ByteArray)]) ?_ 2 _ rfl; (with_reducible repeat (first | refine kN ?_ _ | refine kD ?_ | refine kA ?_ _)); refine blk_put (cs := #[.string t300, .int .i64 0, .string (⟨#[]⟩ : ByteArray)]) ?_ 1 _ rfl; (with_reducible repeat (first | refine kN ?_ _ | refine kD ?_ | refine kA ?_ _)); refine blk_put (cs := #[.string (⟨#[]⟩ : ByteArray), .int .i64 0, .string (⟨#[]⟩ : ByteArray)]) ?_ 0 _ rfl; (with_reducible repeat (first | refine kN ?_ _ | refine kD ?_ | refine kA ?_ _)); exact BK304.out)) (below_size (by repeat (first | (with_reducible first | exact HB.out | apply bA | apply bN | apply bO | refine below_set ?_ GE304.out) | exact HB.out)))); have n2_ := am (blk_below (g := gb304) (o := .cells #[.string t300, .int .i64 t301, .string t302] 31 (0, 0)) (by (with_reducible repeat (first | refine kN ?_ _ | refine kD ?_ | refine kA ?_ _)); refine blk_put (cs := #[.string t300, .int .i64 t301, .string (⟨#[]⟩ : ByteArray)]) ?_ 2 _ rfl; (with_reducible repeat (first | refine kN ?_ _ | refine kD ?_ | refine kA ?_ _)); refine blk_put (cs := #[.string t300, .int .i64 0, .string (⟨#[]⟩ : ByteArray)]) ?_ 1 _ rfl; (with_reducible repeat (first | refine kN ?_ _ | refine kD ?_ | refine kA ?_ _)); refine blk_put (cs := #[.string (⟨#[]⟩ : ByteArray), .int .i64 0, .string (⟨#[]⟩ : ByteArray)]) ?_ 0 _ rfl; (with_reducible repeat (first | refine kN ?_ _ | refine kD ?_ | refine kA ?_ _)); exact BK304.out) hb); have n3_ := am (below_step (by repeat (first | (with_reducible first | exact HB.out | apply bA | apply bN | apply bO | refine below_set ?_ GE304.out) | exact HB.out)) hb); clear HO_9; clear BK304; clear HB; have HO_9 := n0_; have HO309 := n1_; have BK304 := n2_; have HB := n3_; clear n0_ n1_ n2_ n3_; (try clear ho0)))
          (try simp only [Act.put, sA, sB, sC])
          go_cut [142] (fun v142 wc => ∃ (kq : Nat) (x142_42 : Bool), v142 = .bool x142_42 ∧ Aside0 (hogsheadlaw3_FindGrafts.j2 kq l0 a1 t287 x142_42 = some true) ∧ Aside0 (kq ≤ kj22) ∧ Aside0 (Kd.R k31 31 wc w.heap.size (fun k_ => k_ ≠ gb304) (.slice (some ad299) t287.length co25) t287) ∧ Aside0 (wc.heap[gb304]? = some (.cells #[.string t300, .int .i64 t301, .string t302] 31 (0, 0))) ∧ Aside0 (Below w.heap.size w wc))
          case first =>
           have H := HC43.out; clear HC43; by_cases c48 : t303 = true
           ·subst c48
            have H1 : (if (!(t300.toList == (((rd_T31 t287 t298).f0).toList)) || (!(t301 == ((rd_T31 t287 t298).f1)) || (!(t302.toList == (((rd_T31 t287 t298).f2).toList))))) = true then (hogsheadlaw3_FindGrafts.j2 kj22 l0 a1 t287 true) else (if t307 = true then ((tree_May.f kj22 t306).bind fun t311 => (if t311 = true then (if (t306.length : Int) < 1 then (hogsheadlaw3_FindGrafts.j2 kj22 l0 a1 t287 true) else (if 0 < (t306.length : Int) then (hogsheadlaw3_FindGrafts.j2 kj22 l0 a1 t287 (((rd_T31 t306 0).f1) != t301)) else (none))) else (hogsheadlaw3_FindGrafts.j2 kj22 l0 a1 t287 true))) else (hogsheadlaw3_FindGrafts.j2 kj22 l0 a1 t287 true))) = some true := by rw [if_pos rfl] at H; exact H
            clear H; have H := H1; clear H1; by_cases c49 : (!(t300.toList == (((rd_T31 t287 t298).f0).toList)) || (!(t301 == ((rd_T31 t287 t298).f1)) || (!(t302.toList == (((rd_T31 t287 t298).f2).toList))))) = true
            ·rw [if_pos c49] at H
             exact absurd H (by cases kj22 <;> simp [hogsheadlaw3_FindGrafts.j2, Option.bind_eq_some_iff])
            ·rw [if_neg c49] at H
             have c49b0 : (!(t300.toList == (((rd_T31 t287 t298).f0).toList)) || (!(t301 == ((rd_T31 t287 t298).f1)) || (!(t302.toList == (((rd_T31 t287 t298).f2).toList))))) = false := by simpa using c49
             clear c49; (first | rw [c49b0] | (simp only [i64_w, i32_w]; rw [c49b0]) | skip)
             by_cases c51 : t307 = true
             ·subst c51
              have H1 : ((tree_May.f kj22 t306).bind fun t311 => (if t311 = true then (if (t306.length : Int) < 1 then (hogsheadlaw3_FindGrafts.j2 kj22 l0 a1 t287 true) else (if 0 < (t306.length : Int) then (hogsheadlaw3_FindGrafts.j2 kj22 l0 a1 t287 (((rd_T31 t306 0).f1) != t301)) else (none))) else (hogsheadlaw3_FindGrafts.j2 kj22 l0 a1 t287 true))) = some true := by rw [if_pos rfl] at H; exact H
              clear H; have H := H1; clear H1; replace H := oB H; obtain ⟨t311, A520, H⟩ := H; replace H : (if t311 = true then (if (t306.length : Int) < 1 then (hogsheadlaw3_FindGrafts.j2 kj22 l0 a1 t287 true) else (if 0 < (t306.length : Int) then (hogsheadlaw3_FindGrafts.j2 kj22 l0 a1 t287 (((rd_T31 t306 0).f1) != t301)) else (none))) else (hogsheadlaw3_FindGrafts.j2 kj22 l0 a1 t287 true)) = some true := H; have A52 := am A520; clear A520; by_cases c53 : t311 = true
              ·subst c53
               have H1 : (if (t306.length : Int) < 1 then (hogsheadlaw3_FindGrafts.j2 kj22 l0 a1 t287 true) else (if 0 < (t306.length : Int) then (hogsheadlaw3_FindGrafts.j2 kj22 l0 a1 t287 (((rd_T31 t306 0).f1) != t301)) else (none))) = some true := by rw [if_pos rfl] at H; exact H
               clear H; have H := H1; clear H1; by_cases c54 : (t306.length : Int) < 1
               ·rw [if_pos c54] at H
                exact absurd H (by cases kj22 <;> simp [hogsheadlaw3_FindGrafts.j2, Option.bind_eq_some_iff])
               ·rw [if_neg c54] at H
                have c54b0 : decide ((t306.length : Int) < 1) = false := decide_eq_false c54; have c54b1 : decide (t306.length < 1) = false := decide_eq_false (by omega); clear c54; by_cases c58 : 0 < (t306.length : Int)
                ·rw [if_pos c58] at H
                 have c58b0 : decide (0 < (t306.length : Int)) = true := decide_eq_true c58; have c58b1 : decide (0 < t306.length) = true := decide_eq_true (by omega); clear c58; have H' := am H; clear H; try go_wp2
                 have n0_ := am (rD HO_9.out); have n1_ := am (rD HO309.out); have n2_ := am (kD BK304.out); have n3_ := am (bO HB.out); clear HO_9; clear HO309; clear BK304; clear HB; have HO_9 := n0_; have HO309 := n1_; have BK304 := n2_; have HB := n3_; clear n0_ n1_ n2_ n3_; have p310 : 0 ≤ (t298 : Int) := of_decide_eq_true (by assumption); have q310 : t298 < (t287.length : Int) := of_decide_eq_true (by assumption); obtain ⟨ad310, e310, hx310_0, hx310_1, hx310_2⟩ := at_T31 (Kd.R_reads' HO_9.out).2.2 t298 p310 q310; obtain rfl : ad299 = ad310 := (by injection e310); replace p310 := eq_true p310; replace q310 := eq_true q310; obtain ⟨Ao60, co60, eo60⟩ := Kd.R_slice HO309.out; (first | subst eo60 | (injection eo60 with f1_ f2_ f3_; have f4_ := f1_.symm; have f5_ := f3_.symm; clear f1_ f2_ f3_; subst f4_; subst f5_))
                 have p312 : 0 ≤ (0 : Int) := (by omega); have q312 : 0 < (t306.length : Int) := of_decide_eq_true (by assumption); obtain ⟨ad312, e312, hx312_0, hx312_1, hx312_2⟩ := at_T31 (Kd.R_reads' HO309.out).2.2 0 p312 q312; cases e312; have qi312 : (0 < t306.length) = True := eq_true (by omega); (try rw [show ((0 : Int)).toNat = 0 from rfl] at hx312_0)
                 (try rw [show 0 * 3 = 0 from rfl] at hx312_0)
                 (try rw [Addr.add_zero'] at hx312_0)
                 (try rw [show ((0 : Int)).toNat = 0 from rfl] at hx312_1)
                 (try rw [show 0 * 3 = 0 from rfl] at hx312_1)
                 (try rw [Addr.add_zero'] at hx312_1)
                 (try rw [show ((0 : Int)).toNat = 0 from rfl] at hx312_2)
                 (try rw [show 0 * 3 = 0 from rfl] at hx312_2)
                 (try rw [Addr.add_zero'] at hx312_2)
                 replace p312 := eq_true p312; replace q312 := eq_true q312; refine start_ (n := 33) (S := fun w' => w'.cell? ⟨gb304, 0, none⟩ = some (.string t300) ∧ w'.cell? ⟨gb304, 1, none⟩ = some (.int .i64 t301) ∧ w'.cell? ⟨gb304, 2, none⟩ = some (.string t302) ∧ w'.cell? (ad299.add ((t298).toNat * 3)) = some (.string ((rd_T31 t287 t298).f0)) ∧ w'.cell? ⟨(ad299.add ((t298).toNat * 3)).block, (ad299.add ((t298).toNat * 3)).off + 1, none⟩ = some (.int .i64 ((rd_T31 t287 t298).f1)) ∧ w'.cell? ⟨(ad299.add ((t298).toNat * 3)).block, (ad299.add ((t298).toNat * 3)).off + 2, none⟩ = some (.string ((rd_T31 t287 t298).f2)) ∧ w'.cell? ad312 = some (.string ((rd_T31 t306 0).f0)) ∧ w'.cell? ⟨ad312.block, ad312.off + 1, none⟩ = some (.int .i64 ((rd_T31 t306 0).f1)) ∧ w'.cell? ⟨ad312.block, ad312.off + 2, none⟩ = some (.string ((rd_T31 t306 0).f2))) (ds := []) #[fF,fF,fF,fF,fF,fF,fF,fF,fF,fF,fF,fF,fF,fF,fF,fF,fF,fF,fF,fF,fF,fF,fF,fF,fF,fF,fF,fF,fF,fF,fF,fF,fF] (by kernel_rfl) rfl rfl ⟨(blk_cell BK304.out 0).trans rfl, (blk_cell BK304.out 1).trans rfl, (blk_cell BK304.out 2).trans rfl, hx310_0, hx310_1, hx310_2, hx312_0, hx312_1, hx312_2⟩ (fun hHeld => ?_); refine with_tabW hogsheadlaw3_FindGrafts.tab12 hogsheadlaw3_FindGrafts.bits12 (fun HT_ HW_ => ?_)
                 generalize w47.drew = w59 at HO_9 HO309 BK304 HB hx310_0 hx310_1 hx310_2 hx312_0 hx312_1 hx312_2 hHeld ⊢
                 refine pure_ (i := 0) (N := some 110) (v := ?_) (a' := ?_) #[tT,fF,fF,fF,fF,fF,fF,fF,fF,fF,fF,fF,fF,fF,fF,fF,fF,fF,fF,fF,fF,fF,fF,fF,fF,fF,fF,fF,fF,fF,fF,fF,fF] rfl rfl (any_of HT_.out (by kernel_rfl)) (fun _ _ _ h => h) (Or.inl ⟨by rfl, ?_⟩) ?_ ?_
                 rotate_left
                 ·intro w'
                  go_simp
                  with_reducible rfl
                 rotate_left
                 ·simp only [Act.put, sA, sB, sC, i64_w, i32_w]
                  rfl
                 refine pure_ (i := 1) (N := some 111) (v := ?_) (a' := ?_) #[tT,tT,fF,fF,fF,fF,fF,fF,fF,fF,fF,fF,fF,fF,fF,fF,fF,fF,fF,fF,fF,fF,fF,fF,fF,fF,fF,fF,fF,fF,fF,fF,fF] rfl rfl (any_of HT_.out (by kernel_rfl)) (fun _ _ _ h => h) (Or.inl ⟨by rfl, ?_⟩) ?_ ?_
                 rotate_left
                 ·intro w'
                  go_simp
                  with_reducible rfl
                 rotate_left
                 ·simp only [Act.put, sA, sB, sC, i64_w, i32_w]
                  rfl
                 refine pure_ (i := 2) (N := some 112) (v := ?_) (a' := ?_) #[tT,tT,tT,fF,fF,fF,fF,fF,fF,fF,fF,fF,fF,fF,fF,fF,fF,fF,fF,fF,fF,fF,fF,fF,fF,fF,fF,fF,fF,fF,fF,fF,fF] rfl rfl (any_of HT_.out (by kernel_rfl)) (fun _ _ _ h => h) (Or.inl ⟨by rfl, ?_⟩) ?_ ?_
                 rotate_left
                 ·intro w'
                  go_simp
                  with_reducible rfl
                 rotate_left
                 ·simp only [Act.put, sA, sB, sC, i64_w, i32_w]
                  rfl
                 refine pure_ (i := 4) (N := some 114) (v := ?_) (a' := ?_) #[tT,tT,tT,fF,tT,fF,fF,fF,fF,fF,fF,fF,fF,fF,fF,fF,fF,fF,fF,fF,fF,fF,fF,fF,fF,fF,fF,fF,fF,fF,fF,fF,fF] rfl rfl (any_of HT_.out (by kernel_rfl)) (fun _ _ _ h => h) (Or.inl ⟨by rfl, ?_⟩) ?_ ?_
                 rotate_left
                 ·intro w'
                  go_simp
                  with_reducible rfl
                 rotate_left
                 ·simp only [Act.put, sA, sB, sC, i64_w, i32_w]
                  rfl
                 refine pure_ (i := 5) (N := some 115) (v := ?_) (a' := ?_) #[tT,tT,tT,fF,tT,tT,fF,fF,fF,fF,fF,fF,fF,fF,fF,fF,fF,fF,fF,fF,fF,fF,fF,fF,fF,fF,fF,fF,fF,fF,fF,fF,fF] rfl rfl (any_of HT_.out (by kernel_rfl)) (fun _ _ _ h => h) (Or.inl ⟨by rfl, ?_⟩) ?_ ?_
                 rotate_left
                 ·intro w'
                  go_simp
                  with_reducible rfl
                 rotate_left
                 ·simp only [Act.put, sA, sB, sC, i64_w, i32_w]
                  rfl
                 refine pure_ (i := 6) (N := some 116) (v := ?_) (a' := ?_) #[tT,tT,tT,fF,tT,tT,tT,fF,fF,fF,fF,fF,fF,fF,fF,fF,fF,fF,fF,fF,fF,fF,fF,fF,fF,fF,fF,fF,fF,fF,fF,fF,fF] rfl rfl (any_of HT_.out (by kernel_rfl)) (fun _ _ _ h => h) (Or.inl ⟨by rfl, ?_⟩) ?_ ?_
                 rotate_left
                 ·intro w'
                  go_simp
                  with_reducible rfl
                 rotate_left
                 ·simp only [Act.put, sA, sB, sC, i64_w, i32_w]
                  rfl
                 refine take_ (i := 3) (N := some 113) (v := ?_) (a' := ?_) #[tT,tT,tT,tT,tT,tT,tT,fF,fF,fF,fF,fF,fF,fF,fF,fF,fF,fF,fF,fF,fF,fF,fF,fF,fF,fF,fF,fF,fF,fF,fF,fF,fF] rfl rfl (take_ofW HT_.out HW_.out (by kernel_rfl)) (fun _ _ _ h => h) (Or.inl ⟨by rfl, ?_⟩) hHeld ?_ ?_
                 rotate_left
                 ·rintro w' ⟨s0, s1, s2, s3, s4, s5, s6, s7, s8⟩
                  go_simp
                  with_reducible rfl
                 rotate_left
                 ·simp only [Act.put, sA, sB, sC, i64_w, i32_w]
                  rfl
                 refine take_ (i := 7) (N := some 117) (v := ?_) (a' := ?_) #[tT,tT,tT,tT,tT,tT,tT,tT,fF,fF,fF,fF,fF,fF,fF,fF,fF,fF,fF,fF,fF,fF,fF,fF,fF,fF,fF,fF,fF,fF,fF,fF,fF] rfl rfl (take_ofW HT_.out HW_.out (by kernel_rfl)) (fun _ _ _ h => h) (Or.inl ⟨by rfl, ?_⟩) hHeld ?_ ?_
                 rotate_left
                 ·rintro w' ⟨s0, s1, s2, s3, s4, s5, s6, s7, s8⟩
                  go_simp
                  with_reducible rfl
                 rotate_left
                 ·simp only [Act.put, sA, sB, sC, i64_w, i32_w]
                  rfl
                 refine pure_ (i := 8) (N := some 118) (v := ?_) (a' := ?_) #[tT,tT,tT,tT,tT,tT,tT,tT,tT,fF,fF,fF,fF,fF,fF,fF,fF,fF,fF,fF,fF,fF,fF,fF,fF,fF,fF,fF,fF,fF,fF,fF,fF] rfl rfl (any_of HT_.out (by kernel_rfl)) (fun _ _ _ h => h) (Or.inl ⟨by rfl, ?_⟩) ?_ ?_
                 rotate_left
                 ·intro w'
                  go_simp
                  with_reducible rfl
                 rotate_left
                 ·simp only [Act.put, sA, sB, sC, i64_w, i32_w]
                  rfl
                 refine pure_ (i := 9) (N := some 119) (v := ?_) (a' := ?_) #[tT,tT,tT,tT,tT,tT,tT,tT,tT,tT,fF,fF,fF,fF,fF,fF,fF,fF,fF,fF,fF,fF,fF,fF,fF,fF,fF,fF,fF,fF,fF,fF,fF] rfl rfl (any_of HT_.out (by kernel_rfl)) (fun _ _ _ h => h) (Or.inl ⟨by rfl, ?_⟩) ?_ ?_
                 rotate_left
                 ·intro w'
                  go_simp
                  with_reducible rfl
                 rotate_left
                 ·simp only [Act.put, sA, sB, sC, i64_w, i32_w]
                  rfl
                 refine pure_ (i := 10) (N := some 120) (v := ?_) (a' := ?_) #[tT,tT,tT,tT,tT,tT,tT,tT,tT,tT,tT,fF,fF,fF,fF,fF,fF,fF,fF,fF,fF,fF,fF,fF,fF,fF,fF,fF,fF,fF,fF,fF,fF] rfl rfl (any_of HT_.out (by kernel_rfl)) (fun _ _ _ h => h) (Or.inl ⟨by rfl, ?_⟩) ?_ ?_
                 rotate_left
                 ·intro w'
                  go_simp
                  with_reducible rfl
                 rotate_left
                 ·simp only [Act.put, sA, sB, sC, i64_w, i32_w]
                  rfl
                 refine pure_ (i := 11) (N := some 121) (v := ?_) (a' := ?_) #[tT,tT,tT,tT,tT,tT,tT,tT,tT,tT,tT,tT,fF,fF,fF,fF,fF,fF,fF,fF,fF,fF,fF,fF,fF,fF,fF,fF,fF,fF,fF,fF,fF] rfl rfl (any_of HT_.out (by kernel_rfl)) (fun _ _ _ h => h) (Or.inl ⟨by rfl, ?_⟩) ?_ ?_
                 rotate_left
                 ·intro w'
                  go_simp
                  with_reducible rfl
                 rotate_left
                 ·simp only [Act.put, sA, sB, sC, i64_w, i32_w]
                  rfl
                 refine pure_ (i := 12) (N := some 122) (v := ?_) (a' := ?_) #[tT,tT,tT,tT,tT,tT,tT,tT,tT,tT,tT,tT,tT,fF,fF,fF,fF,fF,fF,fF,fF,fF,fF,fF,fF,fF,fF,fF,fF,fF,fF,fF,fF] rfl rfl (any_of HT_.out (by kernel_rfl)) (fun _ _ _ h => h) (Or.inl ⟨by rfl, ?_⟩) ?_ ?_
                 rotate_left
                 ·intro w'
                  go_simp
                  with_reducible rfl
                 rotate_left
                 ·simp only [Act.put, sA, sB, sC, i64_w, i32_w]
                  rfl
                 refine pure_ (i := 13) (N := some 123) (v := ?_) (a' := ?_) #[tT,tT,tT,tT,tT,tT,tT,tT,tT,tT,tT,tT,tT,tT,fF,fF,fF,fF,fF,fF,fF,fF,fF,fF,fF,fF,fF,fF,fF,fF,fF,fF,fF] rfl rfl (any_of HT_.out (by kernel_rfl)) (fun _ _ _ h => h) (Or.inl ⟨by rfl, ?_⟩) ?_ ?_
                 rotate_left
                 ·intro w'
                  go_simp
                  with_reducible rfl
                 rotate_left
                 ·simp only [Act.put, sA, sB, sC, i64_w, i32_w]
                  rfl
                 refine pure_ (i := 14) (N := some 124) (v := ?_) (a' := ?_) #[tT,tT,tT,tT,tT,tT,tT,tT,tT,tT,tT,tT,tT,tT,tT,fF,fF,fF,fF,fF,fF,fF,fF,fF,fF,fF,fF,fF,fF,fF,fF,fF,fF] rfl rfl (any_of HT_.out (by kernel_rfl)) (fun _ _ _ h => h) (Or.inl ⟨by rfl, ?_⟩) ?_ ?_
                 rotate_left
                 ·intro w'
                  go_simp
                  with_reducible rfl
                 rotate_left
                 ·simp only [Act.put, sA, sB, sC, i64_w, i32_w]
                  rfl
                 refine pure_ (i := 15) (N := some 125) (v := ?_) (a' := ?_) #[tT,tT,tT,tT,tT,tT,tT,tT,tT,tT,tT,tT,tT,tT,tT,tT,fF,fF,fF,fF,fF,fF,fF,fF,fF,fF,fF,fF,fF,fF,fF,fF,fF] rfl rfl (any_of HT_.out (by kernel_rfl)) (fun _ _ _ h => h) (Or.inl ⟨by rfl, ?_⟩) ?_ ?_
                 rotate_left
                 ·intro w'
                  go_simp
                  with_reducible rfl
                 rotate_left
                 ·simp only [Act.put, sA, sB, sC, i64_w, i32_w]
                  rfl
                 refine one_ (i := 16) (N := some 126) #[tT,tT,tT,tT,tT,tT,tT,tT,tT,tT,tT,tT,tT,tT,tT,tT,tT,fF,fF,fF,fF,fF,fF,fF,fF,fF,fF,fF,fF,fF,fF,fF,fF] rfl rfl (one_of HT_.out (by kernel_rfl)) (by decide) (fun K hK => ?_)
                 refine goes_ Tryd.func8 (by kernel_rfl) rfl #[.slice (some ad312) t306.length co60] (by rfl) rfl rfl (by (try simp only [mT, mC, mN]); first | done | rfl | (simp only [lD, lT]; rfl)) ?_
                 with_reducible refine (tree_May.calls kj22 _ _ t306 true _ ?side1 ?side2 A52.out).mono ?_
                 (case side1 => repeat (first | exact (Kd.R_reads' HO309.out).2.2 | (with_reducible refine cA ?_ _) | (with_reducible refine cN ?_ _) | (with_reducible refine cD ?_)))
                 (case side2 => exact (Kd.R_reads' HO309.out).2.1)
                 rintro e w61 ⟨rfl, hb⟩; have HS3_ := (hb.cell (wB _ _ (hHeld.2.2.2.1))).trans (hHeld.2.2.2.1); have HS4_ := (hb.cell (wB _ _ (hHeld.2.2.2.2.1))).trans (hHeld.2.2.2.2.1); have HS5_ := (hb.cell (wB _ _ (hHeld.2.2.2.2.2.1))).trans (hHeld.2.2.2.2.2.1); have HS6_ := (hb.cell (wB _ _ (hHeld.2.2.2.2.2.2.1))).trans (hHeld.2.2.2.2.2.2.1); have HS7_ := (hb.cell (wB _ _ (hHeld.2.2.2.2.2.2.2.1))).trans (hHeld.2.2.2.2.2.2.2.1); have HS8_ := (hb.cell (wB _ _ (hHeld.2.2.2.2.2.2.2.2))).trans (hHeld.2.2.2.2.2.2.2.2); refine ⟨_, rfl, ?_⟩
                 have n0_ := am (Kd.R_below (by (with_reducible repeat (first | apply rA | apply rN | apply rD)); exact HO_9.out) hb); have n1_ := am (Kd.R_below (by (with_reducible repeat (first | apply rA | apply rN | apply rD)); exact HO309.out) hb); have n2_ := am (blk_below (g := gb304) (o := .cells #[.string t300, .int .i64 t301, .string t302] 31 (0, 0)) (by (with_reducible repeat (first | refine kN ?_ _ | refine kD ?_ | refine kA ?_ _)); exact BK304.out) hb); have n3_ := am (below_step (by repeat (first | (with_reducible first | exact HB.out | apply bA | apply bN | apply bO | refine below_set ?_ GE304.out) | exact HB.out)) hb); clear HO_9; clear HO309; clear BK304; clear HB; have HO_9 := n0_; have HO309 := n1_; have BK304 := n2_; have HB := n3_; clear n0_ n1_ n2_ n3_; refine hK.out _ _ ⟨(blk_cell BK304.out 0).trans rfl, (blk_cell BK304.out 1).trans rfl, (blk_cell BK304.out 2).trans rfl, HS3_, HS4_, HS5_, HS6_, HS7_, HS8_⟩ (fun hHeld => ?_)
                 clear hK K; refine norm_ (a' := ?_) ?_ ?_
                 rotate_left
                 ·show Act.put _ (some 126) _ = _
                  simp only [Act.put, sA, sB, sC, i64_w, i32_w]
                  rfl
                 refine pure_ (i := 17) (N := some 127) (v := ?_) (a' := ?_) #[tT,tT,tT,tT,tT,tT,tT,tT,tT,tT,tT,tT,tT,tT,tT,tT,tT,tT,fF,fF,fF,fF,fF,fF,fF,fF,fF,fF,fF,fF,fF,fF,fF] rfl rfl (any_of HT_.out (by kernel_rfl)) (fun _ _ _ h => h) (Or.inl ⟨by rfl, ?_⟩) ?_ ?_
                 rotate_left
                 ·intro w'
                  go_simp
                  with_reducible rfl
                 rotate_left
                 ·simp only [Act.put, sA, sB, sC, i64_w, i32_w]
                  rfl
                 refine pure_ (i := 18) (N := some 128) (v := ?_) (a' := ?_) #[tT,tT,tT,tT,tT,tT,tT,tT,tT,tT,tT,tT,tT,tT,tT,tT,tT,tT,tT,fF,fF,fF,fF,fF,fF,fF,fF,fF,fF,fF,fF,fF,fF] rfl rfl (any_of HT_.out (by kernel_rfl)) (fun _ _ _ h => h) (Or.inl ⟨by rfl, ?_⟩) ?_ ?_
                 rotate_left
                 ·intro w'
                  go_simp
                  with_reducible rfl
                 rotate_left
                 ·simp only [Act.put, sA, sB, sC, i64_w, i32_w]
                  rfl
                 refine pure_ (i := 19) (N := some 129) (v := ?_) (a' := ?_) #[tT,tT,tT,tT,tT,tT,tT,tT,tT,tT,tT,tT,tT,tT,tT,tT,tT,tT,tT,tT,fF,fF,fF,fF,fF,fF,fF,fF,fF,fF,fF,fF,fF] rfl rfl (any_of HT_.out (by kernel_rfl)) (fun _ _ _ h => h) (Or.inl ⟨by rfl, ?_⟩) ?_ ?_
                 rotate_left
                 ·intro w'
                  go_simp
                  with_reducible rfl
                 rotate_left
                 ·simp only [Act.put, sA, sB, sC, i64_w, i32_w]
                  rfl
                 refine pure_ (i := 20) (N := some 130) (v := ?_) (a' := ?_) #[tT,tT,tT,tT,tT,tT,tT,tT,tT,tT,tT,tT,tT,tT,tT,tT,tT,tT,tT,tT,tT,fF,fF,fF,fF,fF,fF,fF,fF,fF,fF,fF,fF] rfl rfl (any_of HT_.out (by kernel_rfl)) (fun _ _ _ h => h) (Or.inl ⟨by rfl, ?_⟩) ?_ ?_
                 rotate_left
                 ·intro w'
                  go_simp
                  with_reducible rfl
                 rotate_left
                 ·simp only [Act.put, sA, sB, sC, i64_w, i32_w]
                  rfl
                 refine pure_ (i := 21) (N := some 131) (v := ?_) (a' := ?_) #[tT,tT,tT,tT,tT,tT,tT,tT,tT,tT,tT,tT,tT,tT,tT,tT,tT,tT,tT,tT,tT,tT,fF,fF,fF,fF,fF,fF,fF,fF,fF,fF,fF] rfl rfl (any_of HT_.out (by kernel_rfl)) (fun _ _ _ h => h) (Or.inl ⟨by rfl, ?_⟩) ?_ ?_
                 rotate_left
                 ·intro w'
                  go_simp
                  with_reducible rfl
                 rotate_left
                 ·simp only [Act.put, sA, sB, sC, i64_w, i32_w]
                  rfl
                 refine pure_ (i := 22) (N := some 132) (v := ?_) (a' := ?_) #[tT,tT,tT,tT,tT,tT,tT,tT,tT,tT,tT,tT,tT,tT,tT,tT,tT,tT,tT,tT,tT,tT,tT,fF,fF,fF,fF,fF,fF,fF,fF,fF,fF] rfl rfl (any_of HT_.out (by kernel_rfl)) (fun _ _ _ h => h) (Or.inl ⟨by rfl, ?_⟩) ?_ ?_
                 rotate_left
                 ·intro w'
                  go_simp
                  with_reducible rfl
                 rotate_left
                 ·simp only [Act.put, sA, sB, sC, i64_w, i32_w]
                  rfl
                 refine pure_ (i := 23) (N := some 133) (v := ?_) (a' := ?_) #[tT,tT,tT,tT,tT,tT,tT,tT,tT,tT,tT,tT,tT,tT,tT,tT,tT,tT,tT,tT,tT,tT,tT,tT,fF,fF,fF,fF,fF,fF,fF,fF,fF] rfl rfl (any_of HT_.out (by kernel_rfl)) (fun _ _ _ h => h) (Or.inl ⟨by rfl, ?_⟩) ?_ ?_
                 rotate_left
                 ·intro w'
                  go_simp
                  with_reducible rfl
                 rotate_left
                 ·simp only [Act.put, sA, sB, sC, i64_w, i32_w]
                  rfl
                 refine pure_ (i := 24) (N := some 134) (v := ?_) (a' := ?_) #[tT,tT,tT,tT,tT,tT,tT,tT,tT,tT,tT,tT,tT,tT,tT,tT,tT,tT,tT,tT,tT,tT,tT,tT,tT,fF,fF,fF,fF,fF,fF,fF,fF] rfl rfl (any_of HT_.out (by kernel_rfl)) (fun _ _ _ h => h) (Or.inl ⟨by rfl, ?_⟩) ?_ ?_
                 rotate_left
                 ·intro w'
                  go_simp
                  with_reducible rfl
                 rotate_left
                 ·simp only [Act.put, sA, sB, sC, i64_w, i32_w]
                  rfl
                 refine pure_ (i := 25) (N := some 135) (v := ?_) (a' := ?_) #[tT,tT,tT,tT,tT,tT,tT,tT,tT,tT,tT,tT,tT,tT,tT,tT,tT,tT,tT,tT,tT,tT,tT,tT,tT,tT,fF,fF,fF,fF,fF,fF,fF] rfl rfl (any_of HT_.out (by kernel_rfl)) (fun _ _ _ h => h) (Or.inl ⟨by rfl, ?_⟩) ?_ ?_
                 rotate_left
                 ·intro w'
                  go_simp
                  with_reducible rfl
                 rotate_left
                 ·simp only [Act.put, sA, sB, sC, i64_w, i32_w]
                  rfl
                 refine pure_ (i := 26) (N := some 136) (v := ?_) (a' := ?_) #[tT,tT,tT,tT,tT,tT,tT,tT,tT,tT,tT,tT,tT,tT,tT,tT,tT,tT,tT,tT,tT,tT,tT,tT,tT,tT,tT,fF,fF,fF,fF,fF,fF] rfl rfl (any_of HT_.out (by kernel_rfl)) (fun _ _ _ h => h) (Or.inl ⟨by rfl, ?_⟩) ?_ ?_
                 rotate_left
                 ·intro w'
                  go_simp
                  with_reducible rfl
                 rotate_left
                 ·simp only [Act.put, sA, sB, sC, i64_w, i32_w]
                  rfl
                 refine pure_ (i := 27) (N := some 137) (v := ?_) (a' := ?_) #[tT,tT,tT,tT,tT,tT,tT,tT,tT,tT,tT,tT,tT,tT,tT,tT,tT,tT,tT,tT,tT,tT,tT,tT,tT,tT,tT,tT,fF,fF,fF,fF,fF] rfl rfl (any_of HT_.out (by kernel_rfl)) (fun _ _ _ h => h) (Or.inl ⟨by rfl, ?_⟩) ?_ ?_
                 rotate_left
                 ·intro w'
                  go_simp
                  with_reducible rfl
                 rotate_left
                 ·simp only [Act.put, sA, sB, sC, i64_w, i32_w]
                  rfl
                 refine pure_ (i := 29) (N := some 139) (v := ?_) (a' := ?_) #[tT,tT,tT,tT,tT,tT,tT,tT,tT,tT,tT,tT,tT,tT,tT,tT,tT,tT,tT,tT,tT,tT,tT,tT,tT,tT,tT,tT,fF,tT,fF,fF,fF] rfl rfl (any_of HT_.out (by kernel_rfl)) (fun _ _ _ h => h) (Or.inl ⟨by rfl, ?_⟩) ?_ ?_
                 rotate_left
                 ·intro w'
                  go_simp
                  with_reducible rfl
                 rotate_left
                 ·simp only [Act.put, sA, sB, sC, i64_w, i32_w]
                  rfl
                 refine take_ (i := 28) (N := some 138) (v := ?_) (a' := ?_) #[tT,tT,tT,tT,tT,tT,tT,tT,tT,tT,tT,tT,tT,tT,tT,tT,tT,tT,tT,tT,tT,tT,tT,tT,tT,tT,tT,tT,tT,tT,fF,fF,fF] rfl rfl (take_ofW HT_.out HW_.out (by kernel_rfl)) (fun _ _ _ h => h) (Or.inl ⟨by rfl, ?_⟩) hHeld ?_ ?_
                 rotate_left
                 ·rintro w' ⟨s0, s1, s2, s3, s4, s5, s6, s7, s8⟩
                  go_simp
                  with_reducible rfl
                 rotate_left
                 ·simp only [Act.put, sA, sB, sC, i64_w, i32_w]
                  rfl
                 refine take_ (i := 30) (N := some 140) (v := ?_) (a' := ?_) #[tT,tT,tT,tT,tT,tT,tT,tT,tT,tT,tT,tT,tT,tT,tT,tT,tT,tT,tT,tT,tT,tT,tT,tT,tT,tT,tT,tT,tT,tT,tT,fF,fF] rfl rfl (take_ofW HT_.out HW_.out (by kernel_rfl)) (fun _ _ _ h => h) (Or.inl ⟨by rfl, ?_⟩) hHeld ?_ ?_
                 rotate_left
                 ·rintro w' ⟨s0, s1, s2, s3, s4, s5, s6, s7, s8⟩
                  go_simp
                  with_reducible rfl
                 rotate_left
                 ·simp only [Act.put, sA, sB, sC, i64_w, i32_w]
                  rfl
                 refine pure_ (i := 31) (N := some 141) (v := ?_) (a' := ?_) #[tT,tT,tT,tT,tT,tT,tT,tT,tT,tT,tT,tT,tT,tT,tT,tT,tT,tT,tT,tT,tT,tT,tT,tT,tT,tT,tT,tT,tT,tT,tT,tT,fF] rfl rfl (any_of HT_.out (by kernel_rfl)) (fun _ _ _ h => h) (Or.inl ⟨by rfl, ?_⟩) ?_ ?_
                 rotate_left
                 ·intro w'
                  go_simp
                  with_reducible rfl
                 rotate_left
                 ·simp only [Act.put, sA, sB, sC, i64_w, i32_w]
                  rfl
                 refine pure_ (i := 32) (N := some 142) (v := ?_) (a' := ?_) #[tT,tT,tT,tT,tT,tT,tT,tT,tT,tT,tT,tT,tT,tT,tT,tT,tT,tT,tT,tT,tT,tT,tT,tT,tT,tT,tT,tT,tT,tT,tT,tT,tT] rfl rfl (any_of HT_.out (by kernel_rfl)) (fun _ _ _ h => h) (Or.inl ⟨by rfl, ?_⟩) ?_ ?_
                 rotate_left
                 ·intro w'
                  go_simp
                  with_reducible rfl
                 rotate_left
                 ·simp only [Act.put, sA, sB, sC, i64_w, i32_w]
                  rfl
                 refine done_ (done_of HT_.out (by kernel_rfl)) ?_
                 try go_wp2
                 go_meet; case rel => exact ⟨_, ((((rd_T31 t306 0).f1) != t301)), (by first | rfl | (simp; done) | (simp [*]; done)), H', ⟨by have := HJ4.out; have := HJ22.out; first | omega | exact Nat.le_refl _⟩, ⟨by (with_reducible repeat (first | apply rA | apply rN | apply rD)); exact Kd.R_mono HO_9.out (fun _ hk => hk.1.2)⟩, ⟨by (with_reducible repeat (first | refine kN ?_ _ | refine kD ?_ | refine kA ?_ _)); exact BK304.out⟩, ⟨by repeat (first | (with_reducible first | exact HB.out | apply bA | apply bN | apply bO | refine below_set ?_ GE304.out) | exact HB.out)⟩⟩
                ·rw [if_neg c58] at H
                 exact absurd H (by simp)
              ·replace c53 := Bool.eq_false_iff.mpr c53
               subst c53; have H1 : (hogsheadlaw3_FindGrafts.j2 kj22 l0 a1 t287 true) = some true := by rw [if_neg (show ¬ (false = true) by decide)] at H; exact H
               exact absurd H1 (by cases kj22 <;> simp [hogsheadlaw3_FindGrafts.j2, Option.bind_eq_some_iff])
             ·replace c51 := Bool.eq_false_iff.mpr c51
              subst c51; have H1 : (hogsheadlaw3_FindGrafts.j2 kj22 l0 a1 t287 true) = some true := by rw [if_neg (show ¬ (false = true) by decide)] at H; exact H
              exact absurd H1 (by cases kj22 <;> simp [hogsheadlaw3_FindGrafts.j2, Option.bind_eq_some_iff])
           ·replace c48 := Bool.eq_false_iff.mpr c48
            subst c48; have H1 : (hogsheadlaw3_FindGrafts.j2 kj22 l0 a1 t287 true) = some true := by rw [if_neg (show ¬ (false = true) by decide)] at H; exact H
            exact absurd H1 (by cases kj22 <;> simp [hogsheadlaw3_FindGrafts.j2, Option.bind_eq_some_iff])
          case rest =>
           clear HC43; (try clear p2); (try clear p3); (try clear q3); (try clear hx3); (try clear c4); (try clear c5); (try clear c8); (try clear p31); (try clear q31); (try clear hx31); (try clear c48); (try clear c51); (try clear hx310_0); (try clear hx310_1); (try clear hx310_2); (try clear p310); (try clear q310); obtain ⟨kq, x142_42, rfl, HA, HJ42, HO_9, BK304, HB⟩ := hcut; cases kq with
           | zero => exact absurd HA.out (by simp [hogsheadlaw3_FindGrafts.j2])
           | succ kj42 =>
            have H := HA.out; clear HA; simp only [hogsheadlaw3_FindGrafts.j2] at H
            by_cases c67 : x142_42 = true
            ·subst c67
             have H1 : (some false) = some true := by rw [if_pos rfl] at H; exact H
             exact absurd H1 (by simp)
            ·replace c67 := Bool.eq_false_iff.mpr c67
             subst c67; have H1 : (hogsheadlaw3_FindGrafts.l0 kj42 l0 a1 t287 0) = some true := by rw [if_neg (show ¬ (false = true) by decide)] at H; exact H
             clear H; have H := H1; clear H1; have H' := am H; clear H; go_wp2
             go_loopg [17] kj42 (fun kq v17 w' => ∃ (x17_4 : Int), v17 = .int .i64 x17_4 ∧ Aside0 (hogsheadlaw3_FindGrafts.l0 kq l0 a1 t287 x17_4 = some true) ∧ Aside0 (kq ≤ kj42) ∧ Aside0 (Kd.R k31 31 w' w.heap.size (fun k_ => k_ ≠ gb304) (.slice (some ad299) t287.length co25) t287) ∧ Aside0 (w'.heap[gb304]? = some (.cells #[.string t300, .int .i64 t301, .string t302] 31 (0, 0))) ∧ Aside0 (Below w.heap.size w w'))
             case atStart => exact ⟨(0), (by first | rfl | (simp; done) | (simp [*]; done)), H', ⟨Nat.le_refl _⟩, ⟨by (with_reducible repeat (first | apply rA | apply rN | apply rD)); exact HO_9.out⟩, ⟨by (with_reducible repeat (first | refine kN ?_ _ | refine kD ?_ | refine kA ?_ _)); exact BK304.out⟩, ⟨by repeat (first | (with_reducible first | exact HB.out | apply bA | apply bN | apply bO | refine below_set ?_ GE304.out) | exact HB.out)⟩⟩
             case round =>
              clear H'; (try clear p2); (try clear p3); (try clear q3); (try clear hx3); (try clear c4); (try clear c5); (try clear c6); (try clear c8); (try clear p31); (try clear q31); (try clear hx31); (try clear c48); (try clear c51); (try clear c67); (try clear hx310_0); (try clear hx310_1); (try clear hx310_2); (try clear p2); (try clear p3); (try clear p31); (try clear p310); (try clear q3); (try clear q31); (try clear q310); obtain ⟨x17_4, rfl, HA, HK4, HO_9, BK304, HB⟩ := hrel; cases gk with
              | zero => exact absurd HA.out (by simp [hogsheadlaw3_FindGrafts.l0])
              | succ k4 =>
               have H := HA.out; clear HA; simp only [hogsheadlaw3_FindGrafts.l0] at H
               by_cases c68 : x17_4 < (l0.length : Int)
               ·rw [if_pos c68] at H
                have c68b0 : decide (x17_4 < (l0.length : Int)) = true := decide_eq_true c68; clear c68; by_cases c69 : 0 ≤ x17_4
                ·rw [if_pos c69] at H
                 have c69b0 : decide (0 ≤ x17_4) = true := decide_eq_true c69; clear c69; replace H := oB H; obtain ⟨⟨t314, t315, t316, t317⟩, A700, H⟩ := H; replace H : (if t317 = true then (if (!(t314.toList == (((rd_T31 l0 x17_4).f0).toList)) || (!(t315 == ((rd_T31 l0 x17_4).f1)) || (!(t316.toList == (((rd_T31 l0 x17_4).f2).toList))))) = true then (hogsheadlaw3_FindGrafts.j4 k4 l0 a1 t287 x17_4 true) else ((path_Under.f k4 ((rd_T31 l0 x17_4).f0) a1).bind fun t321 => (hogsheadlaw3_FindGrafts.j4 k4 l0 a1 t287 x17_4 t321))) else (hogsheadlaw3_FindGrafts.j4 k4 l0 a1 t287 x17_4 true)) = some true := H; have A70 := am A700; clear A700; have HC71 := am H; clear H; have p313 : 0 ≤ (x17_4 : Int) := of_decide_eq_true (by assumption); have q313 : x17_4 < (l0.length : Int) := of_decide_eq_true (by assumption); obtain ⟨ad313, e313, hx313_0, hx313_1, hx313_2⟩ := at_T31 HR0.out x17_4 p313 q313; cases e313; replace hx313_0 := (HB.out.cell (wB w _ hx313_0)).trans hx313_0; replace hx313_1 := (HB.out.cell (wB w _ hx313_1)).trans hx313_1; replace hx313_2 := (HB.out.cell (wB w _ hx313_2)).trans hx313_2; replace p313 := eq_true p313; replace q313 := eq_true q313; go_upto_region 18 with (first | ((with_reducible refine gate_callee (f := 15) rfl ?_); refine goesL_ (some 156) rfl rfl Tryd.func15 (by kernel_rfl) rfl #[.slice (some ad299) t287.length co25, .string ((rd_T31 l0 x17_4).f0)] rfl (by (try simp only [mT, mC, mN]); first | done | rfl | (simp only [lD, lT]; rfl)) ?_; (with_reducible refine (find_Lookup.calls k4 _ _ t287 ((rd_T31 l0 x17_4).f0) t314 t315 t316 t317 _ ?side1 ?side2 A70.out).mono ?_); (case side1 => repeat (first | exact (Kd.R_reads' HO_9.out).2.2 | (with_reducible refine cA ?_ _) | (with_reducible refine cN ?_ _) | (with_reducible refine cD ?_))); (case side2 => exact (Kd.R_reads' HO_9.out).2.1); rintro e w72 ⟨rfl, hb⟩; refine ⟨_, rfl, ?_⟩; have n0_ := am (Kd.R_below (by (with_reducible repeat (first | apply rA | apply rN | apply rD)); exact HO_9.out) hb); have n1_ := am (blk_below (g := gb304) (o := .cells #[.string t300, .int .i64 t301, .string t302] 31 (0, 0)) (by (with_reducible repeat (first | refine kN ?_ _ | refine kD ?_ | refine kA ?_ _)); exact BK304.out) hb); have n2_ := am (below_step (by repeat (first | (with_reducible first | exact HB.out | apply bA | apply bN | apply bO | refine below_set ?_ GE304.out) | exact HB.out)) hb); clear HO_9; clear BK304; clear HB; have HO_9 := n0_; have BK304 := n1_; have HB := n2_; clear n0_ n1_ n2_) | ((with_reducible refine gate_dst (N := 18) rfl ?_); (try (refine gate_guard (by rfl) ?_; dsimp only)); refine box_event ?hg (N := 18) ?hd (cs := #[.string (⟨#[]⟩ : ByteArray), .int .i64 0, .string (⟨#[]⟩ : ByteArray)]) (t := 31) ?hr ?_; (case hd => rfl); (case hg => rfl); (case hr => first | (go_simp; done) | (go_simp; rfl)); intro gb318 hg w73 hbox hb; have n0_ := am (Kd.R_below (Kd.R_elderB (by (with_reducible repeat (first | apply rA | apply rN | apply rD)); exact HO_9.out) gb318 (Nat.le_of_eq hg.symm)) hb); have n1_ := am (blk_below (g := gb304) (o := .cells #[.string t300, .int .i64 t301, .string t302] 31 (0, 0)) (by (with_reducible repeat (first | refine kN ?_ _ | refine kD ?_ | refine kA ?_ _)); exact BK304.out) hb); have n2_ := am (below_step (by repeat (first | (with_reducible first | exact HB.out | apply bA | apply bN | apply bO | refine below_set ?_ GE304.out) | exact HB.out)) hb); have n3_ := am (hbox); have n4_ := am ((by rw [hg]; exact (below_size (by repeat (first | (with_reducible first | exact HB.out | apply bA | apply bN | apply bO | refine below_set ?_ GE304.out) | exact HB.out))) : w.heap.size ≤ gb318)); have n5_ := am ((by rw [hg]; exact (below_size (by repeat (first | (with_reducible first | exact HB.out | apply bA | apply bN | apply bO | refine below_set ?_ GE304.out) | exact HB.out))) : w.heap.size ≤ gb318)); have n6_ := am ((by rw [hg]; exact Nat.ne_of_lt (blk_lt (g := gb304) (o := .cells #[.string t300, .int .i64 t301, .string t302] 31 (0, 0)) (by (with_reducible repeat (first | refine kN ?_ _ | refine kD ?_ | refine kA ?_ _)); exact BK304.out)) : gb304 ≠ gb318)); have n7_ := am ((by rw [hg]; exact Nat.ne_of_gt (blk_lt (g := gb304) (o := .cells #[.string t300, .int .i64 t301, .string t302] 31 (0, 0)) (by (with_reducible repeat (first | refine kN ?_ _ | refine kD ?_ | refine kA ?_ _)); exact BK304.out)) : gb318 ≠ gb304)); clear HO_9; clear BK304; clear HB; have HO_9 := n0_; have BK304 := n1_; have HB := n2_; have BK318 := n3_; have GW318 := n4_; have GE318 := n5_; have NB304_318 := n6_; have NB318_304 := n7_; clear n0_ n1_ n2_ n3_ n4_ n5_ n6_ n7_; clear hb hbox hg; have hnb74 := NB318_304.out; have hnc74 := NB304_318.out; have hcz75_0 : w73.cell? ⟨gb318, 0, none⟩ = some (.string (⟨#[]⟩ : ByteArray)) := (blk_cell BK318.out 0).trans rfl; have hcz75_1 : w73.cell? ⟨gb318, 1, none⟩ = some (.int .i64 0) := (blk_cell BK318.out 1).trans rfl; have hcz75_2 : w73.cell? ⟨gb318, 2, none⟩ = some (.string (⟨#[]⟩ : ByteArray)) := (blk_cell BK318.out 2).trans rfl; have hfz75_0 := blk_frozen BK318.out 0; have hfz75_1 := blk_frozen BK318.out 1; have hfz75_2 := blk_frozen BK318.out 2))
                 (try simp only [Act.put, sA, sB, sC])
                 go_cut [177] (fun v177 wc => ∃ (kq : Nat) (x177_70 : Bool), v177 = .bool x177_70 ∧ Aside0 (hogsheadlaw3_FindGrafts.j4 kq l0 a1 t287 x17_4 x177_70 = some true) ∧ Aside0 (kq ≤ k4) ∧ Aside0 (Kd.R k31 31 wc w.heap.size (fun k_ => k_ ≠ gb304 ∧ k_ ≠ gb318) (.slice (some ad299) t287.length co25) t287) ∧ Aside0 (wc.heap[gb304]? = some (.cells #[.string t300, .int .i64 t301, .string t302] 31 (0, 0))) ∧ Aside0 (wc.heap[gb318]? = some (.cells #[.string t314, .int .i64 t315, .string t316] 31 (0, 0))) ∧ Aside0 (Below w.heap.size w wc))
                 case first =>
                  have H := HC71.out; clear HC71; by_cases c76 : t317 = true
                  ·subst c76
                   have H1 : (if (!(t314.toList == (((rd_T31 l0 x17_4).f0).toList)) || (!(t315 == ((rd_T31 l0 x17_4).f1)) || (!(t316.toList == (((rd_T31 l0 x17_4).f2).toList))))) = true then (hogsheadlaw3_FindGrafts.j4 k4 l0 a1 t287 x17_4 true) else ((path_Under.f k4 ((rd_T31 l0 x17_4).f0) a1).bind fun t321 => (hogsheadlaw3_FindGrafts.j4 k4 l0 a1 t287 x17_4 t321))) = some true := by rw [if_pos rfl] at H; exact H
                   clear H; have H := H1; clear H1; by_cases c77 : (!(t314.toList == (((rd_T31 l0 x17_4).f0).toList)) || (!(t315 == ((rd_T31 l0 x17_4).f1)) || (!(t316.toList == (((rd_T31 l0 x17_4).f2).toList))))) = true
                   ·rw [if_pos c77] at H
                    exact absurd H (by cases k4 <;> simp [hogsheadlaw3_FindGrafts.j4, Option.bind_eq_some_iff])
                   ·rw [if_neg c77] at H
                    have c77b0 : (!(t314.toList == (((rd_T31 l0 x17_4).f0).toList)) || (!(t315 == ((rd_T31 l0 x17_4).f1)) || (!(t316.toList == (((rd_T31 l0 x17_4).f2).toList))))) = false := by simpa using c77
                    clear c77; (first | rw [c77b0] | (simp only [i64_w, i32_w]; rw [c77b0]) | skip)
                    replace H := oB H; obtain ⟨t321, A800, H⟩ := H; replace H : (hogsheadlaw3_FindGrafts.j4 k4 l0 a1 t287 x17_4 t321) = some true := H; have A80 := am A800; clear A800; have H' := am H; clear H; try go_wp2
                    have n0_ : Aside0 (Kd.R k31 31 (((w73.setCell ⟨gb318, 0, none⟩ (.string t314)).setCell ⟨gb318, 1, none⟩ (.int .i64 t315)).setCell ⟨gb318, 2, none⟩ (.string t316)) w.heap.size (fun k_ => k_ ≠ gb304 ∧ k_ ≠ gb318) (.slice (some ad299) t287.length co25) t287) := ⟨by (with_reducible repeat (first | apply rA | apply rN | apply rD)); exact Kd.R_mono (Kd.R_far (p := ⟨gb318, 2, none⟩) (Kd.R_far (p := ⟨gb318, 1, none⟩) (Kd.R_far (p := ⟨gb318, 0, none⟩) (Kd.R_mono HO_9.out (fun k_ hk => (⟨hk, hk.2⟩ : _ ∧ k_ ≠ gb318))) (fun _ hk => hk.2) (.string t314)) (fun _ hk => hk.2) (.int .i64 t315)) (fun _ hk => hk.2) (.string t316)) (fun _ hk => ⟨hk.1.1, hk.1.2⟩)⟩; have n1_ : Aside0 ((((w73.setCell ⟨gb318, 0, none⟩ (.string t314)).setCell ⟨gb318, 1, none⟩ (.int .i64 t315)).setCell ⟨gb318, 2, none⟩ (.string t316)).heap[gb304]? = some (.cells #[.string t300, .int .i64 t301, .string t302] 31 (0, 0))) := ⟨by (with_reducible repeat (first | refine kN ?_ _ | refine kD ?_ | refine kA ?_ _)); refine blk_far ?_ NB304_318.out _; (with_reducible repeat (first | refine kN ?_ _ | refine kD ?_ | refine kA ?_ _)); refine blk_far ?_ NB304_318.out _; (with_reducible repeat (first | refine kN ?_ _ | refine kD ?_ | refine kA ?_ _)); refine blk_far ?_ NB304_318.out _; (with_reducible repeat (first | refine kN ?_ _ | refine kD ?_ | refine kA ?_ _)); exact BK304.out⟩; have n2_ : Aside0 ((((w73.setCell ⟨gb318, 0, none⟩ (.string t314)).setCell ⟨gb318, 1, none⟩ (.int .i64 t315)).setCell ⟨gb318, 2, none⟩ (.string t316)).heap[gb318]? = some (.cells #[.string t314, .int .i64 t315, .string t316] 31 (0, 0))) := ⟨by (with_reducible repeat (first | refine kN ?_ _ | refine kD ?_ | refine kA ?_ _)); refine blk_put (cs := #[.string t314, .int .i64 t315, .string (⟨#[]⟩ : ByteArray)]) ?_ 2 _ rfl; (with_reducible repeat (first | refine kN ?_ _ | refine kD ?_ | refine kA ?_ _)); refine blk_put (cs := #[.string t314, .int .i64 0, .string (⟨#[]⟩ : ByteArray)]) ?_ 1 _ rfl; (with_reducible repeat (first | refine kN ?_ _ | refine kD ?_ | refine kA ?_ _)); refine blk_put (cs := #[.string (⟨#[]⟩ : ByteArray), .int .i64 0, .string (⟨#[]⟩ : ByteArray)]) ?_ 0 _ rfl; (with_reducible repeat (first | refine kN ?_ _ | refine kD ?_ | refine kA ?_ _)); exact BK318.out⟩
                    have n3_ : Aside0 (Below w.heap.size w (((w73.setCell ⟨gb318, 0, none⟩ (.string t314)).setCell ⟨gb318, 1, none⟩ (.int .i64 t315)).setCell ⟨gb318, 2, none⟩ (.string t316))) := ⟨by repeat (first | (with_reducible first | exact HB.out | apply bA | apply bN | apply bO | refine below_set ?_ GE304.out | refine below_set ?_ GE318.out) | exact HB.out)⟩; (try clear HO_9); (try clear BK304); (try clear BK318); (try clear HB); generalize (((w73.setCell ⟨gb318, 0, none⟩ (.string t314)).setCell ⟨gb318, 1, none⟩ (.int .i64 t315)).setCell ⟨gb318, 2, none⟩ (.string t316)) = w81 at n0_ n1_ n2_ n3_ ⊢
                    have HO_9 := n0_; have BK304 := n1_; have BK318 := n2_; have HB := n3_; clear n0_ n1_ n2_ n3_; have n0_ := am (rD HO_9.out); have n1_ := am (kD BK304.out); have n2_ := am (kD BK318.out); have n3_ := am (bO HB.out); clear HO_9; clear BK304; clear BK318; clear HB; have HO_9 := n0_; have BK304 := n1_; have BK318 := n2_; have HB := n3_; clear n0_ n1_ n2_ n3_; have p319 : 0 ≤ (x17_4 : Int) := of_decide_eq_true (by assumption); have q319 : x17_4 < (l0.length : Int) := of_decide_eq_true (by assumption); obtain ⟨ad319, e319, hx319_0, hx319_1, hx319_2⟩ := at_T31 HR0.out x17_4 p319 q319; have hw319_2 := hx319_2; have hw319_1 := hx319_1; have hw319_0 := hx319_0; obtain rfl : ad313 = ad319 := (by injection e319); replace hx319_0 := (HB.out.cell (wB w _ hx319_0)).trans hx319_0; replace hx319_1 := (HB.out.cell (wB w _ hx319_1)).trans hx319_1; replace hx319_2 := (HB.out.cell (wB w _ hx319_2)).trans hx319_2; replace p319 := eq_true p319; replace q319 := eq_true q319; have p320 : 0 ≤ (x17_4 : Int) := of_decide_eq_true (by assumption); have q320 : x17_4 < (l0.length : Int) := of_decide_eq_true (by assumption); obtain ⟨ad320, e320, hx320_0, hx320_1, hx320_2⟩ := at_T31 HR0.out x17_4 p320 q320; have hw320_2 := hx320_2
                    have hw320_1 := hx320_1; have hw320_0 := hx320_0; obtain rfl : ad313 = ad320 := (by injection e320); replace hx320_0 := (HB.out.cell (wB w _ hx320_0)).trans hx320_0; replace hx320_1 := (HB.out.cell (wB w _ hx320_1)).trans hx320_1; replace hx320_2 := (HB.out.cell (wB w _ hx320_2)).trans hx320_2; replace p320 := eq_true p320; replace q320 := eq_true q320; refine start_ (n := 19) (S := fun w' => w'.cell? ⟨gb318, 0, none⟩ = some (.string t314) ∧ w'.cell? ⟨gb318, 1, none⟩ = some (.int .i64 t315) ∧ w'.cell? ⟨gb318, 2, none⟩ = some (.string t316) ∧ w'.cell? (ad313.add ((x17_4).toNat * 3)) = some (.string ((rd_T31 l0 x17_4).f0)) ∧ w'.cell? ⟨(ad313.add ((x17_4).toNat * 3)).block, (ad313.add ((x17_4).toNat * 3)).off + 1, none⟩ = some (.int .i64 ((rd_T31 l0 x17_4).f1)) ∧ w'.cell? ⟨(ad313.add ((x17_4).toNat * 3)).block, (ad313.add ((x17_4).toNat * 3)).off + 2, none⟩ = some (.string ((rd_T31 l0 x17_4).f2)) ∧ w'.cell? (ad313.add ((x17_4).toNat * 3)) = some (.string ((rd_T31 l0 x17_4).f0)) ∧ w'.cell? ⟨(ad313.add ((x17_4).toNat * 3)).block, (ad313.add ((x17_4).toNat * 3)).off + 1, none⟩ = some (.int .i64 ((rd_T31 l0 x17_4).f1)) ∧ w'.cell? ⟨(ad313.add ((x17_4).toNat * 3)).block, (ad313.add ((x17_4).toNat * 3)).off + 2, none⟩ = some (.string ((rd_T31 l0 x17_4).f2))) (ds := []) #[fF,fF,fF,fF,fF,fF,fF,fF,fF,fF,fF,fF,fF,fF,fF,fF,fF,fF,fF] (by kernel_rfl) rfl rfl ⟨(blk_cell BK318.out 0).trans rfl, (blk_cell BK318.out 1).trans rfl, (blk_cell BK318.out 2).trans rfl, ((HB.out.cell (wB w _ hw319_0)).trans hw319_0), ((HB.out.cell (wB w _ hw319_1)).trans hw319_1), ((HB.out.cell (wB w _ hw319_2)).trans hw319_2), ((HB.out.cell (wB w _ hw320_0)).trans hw320_0), ((HB.out.cell (wB w _ hw320_1)).trans hw320_1), ((HB.out.cell (wB w _ hw320_2)).trans hw320_2)⟩ (fun hHeld => ?_); refine with_tabW hogsheadlaw3_FindGrafts.tab18 hogsheadlaw3_FindGrafts.bits18 (fun HT_ HW_ => ?_)
                    generalize w81.drew = w82 at HO_9 BK304 BK318 HB hx319_0 hx319_1 hx319_2 hx320_0 hx320_1 hx320_2 hHeld ⊢
                    refine pure_ (i := 0) (N := some 159) (v := ?_) (a' := ?_) #[tT,fF,fF,fF,fF,fF,fF,fF,fF,fF,fF,fF,fF,fF,fF,fF,fF,fF,fF] rfl rfl (any_of HT_.out (by kernel_rfl)) (fun _ _ _ h => h) (Or.inl ⟨by rfl, ?_⟩) ?_ ?_
                    rotate_left
                    ·intro w'
                     go_simp
                     with_reducible rfl
                    rotate_left
                    ·simp only [Act.put, sA, sB, sC, i64_w, i32_w]
                     rfl
                    refine pure_ (i := 1) (N := some 160) (v := ?_) (a' := ?_) #[tT,tT,fF,fF,fF,fF,fF,fF,fF,fF,fF,fF,fF,fF,fF,fF,fF,fF,fF] rfl rfl (any_of HT_.out (by kernel_rfl)) (fun _ _ _ h => h) (Or.inl ⟨by rfl, ?_⟩) ?_ ?_
                    rotate_left
                    ·intro w'
                     go_simp
                     with_reducible rfl
                    rotate_left
                    ·simp only [Act.put, sA, sB, sC, i64_w, i32_w]
                     rfl
                    refine pure_ (i := 2) (N := some 161) (v := ?_) (a' := ?_) #[tT,tT,tT,fF,fF,fF,fF,fF,fF,fF,fF,fF,fF,fF,fF,fF,fF,fF,fF] rfl rfl (any_of HT_.out (by kernel_rfl)) (fun _ _ _ h => h) (Or.inl ⟨by rfl, ?_⟩) ?_ ?_
                    rotate_left
                    ·intro w'
                     go_simp
                     with_reducible rfl
                    rotate_left
                    ·simp only [Act.put, sA, sB, sC, i64_w, i32_w]
                     rfl
                    refine pure_ (i := 4) (N := some 163) (v := ?_) (a' := ?_) #[tT,tT,tT,fF,tT,fF,fF,fF,fF,fF,fF,fF,fF,fF,fF,fF,fF,fF,fF] rfl rfl (any_of HT_.out (by kernel_rfl)) (fun _ _ _ h => h) (Or.inl ⟨by rfl, ?_⟩) ?_ ?_
                    rotate_left
                    ·intro w'
                     go_simp
                     with_reducible rfl
                    rotate_left
                    ·simp only [Act.put, sA, sB, sC, i64_w, i32_w]
                     rfl
                    refine pure_ (i := 5) (N := some 164) (v := ?_) (a' := ?_) #[tT,tT,tT,fF,tT,tT,fF,fF,fF,fF,fF,fF,fF,fF,fF,fF,fF,fF,fF] rfl rfl (any_of HT_.out (by kernel_rfl)) (fun _ _ _ h => h) (Or.inl ⟨by rfl, ?_⟩) ?_ ?_
                    rotate_left
                    ·intro w'
                     go_simp
                     with_reducible rfl
                    rotate_left
                    ·simp only [Act.put, sA, sB, sC, i64_w, i32_w]
                     rfl
                    refine pure_ (i := 6) (N := some 165) (v := ?_) (a' := ?_) #[tT,tT,tT,fF,tT,tT,tT,fF,fF,fF,fF,fF,fF,fF,fF,fF,fF,fF,fF] rfl rfl (any_of HT_.out (by kernel_rfl)) (fun _ _ _ h => h) (Or.inl ⟨by rfl, ?_⟩) ?_ ?_
                    rotate_left
                    ·intro w'
                     go_simp
                     with_reducible rfl
                    rotate_left
                    ·simp only [Act.put, sA, sB, sC, i64_w, i32_w]
                     rfl
                    refine take_ (i := 3) (N := some 162) (v := ?_) (a' := ?_) #[tT,tT,tT,tT,tT,tT,tT,fF,fF,fF,fF,fF,fF,fF,fF,fF,fF,fF,fF] rfl rfl (take_ofW HT_.out HW_.out (by kernel_rfl)) (fun _ _ _ h => h) (Or.inl ⟨by rfl, ?_⟩) hHeld ?_ ?_
                    rotate_left
                    ·rintro w' ⟨s0, s1, s2, s3, s4, s5, s6, s7, s8⟩
                     go_simp
                     with_reducible rfl
                    rotate_left
                    ·simp only [Act.put, sA, sB, sC, i64_w, i32_w]
                     rfl
                    refine take_ (i := 7) (N := some 166) (v := ?_) (a' := ?_) #[tT,tT,tT,tT,tT,tT,tT,tT,fF,fF,fF,fF,fF,fF,fF,fF,fF,fF,fF] rfl rfl (take_ofW HT_.out HW_.out (by kernel_rfl)) (fun _ _ _ h => h) (Or.inl ⟨by rfl, ?_⟩) hHeld ?_ ?_
                    rotate_left
                    ·rintro w' ⟨s0, s1, s2, s3, s4, s5, s6, s7, s8⟩
                     go_simp
                     with_reducible rfl
                    rotate_left
                    ·simp only [Act.put, sA, sB, sC, i64_w, i32_w]
                     rfl
                    refine pure_ (i := 8) (N := some 167) (v := ?_) (a' := ?_) #[tT,tT,tT,tT,tT,tT,tT,tT,tT,fF,fF,fF,fF,fF,fF,fF,fF,fF,fF] rfl rfl (any_of HT_.out (by kernel_rfl)) (fun _ _ _ h => h) (Or.inl ⟨by rfl, ?_⟩) ?_ ?_
                    rotate_left
                    ·intro w'
                     go_simp
                     with_reducible rfl
                    rotate_left
                    ·simp only [Act.put, sA, sB, sC, i64_w, i32_w]
                     rfl
                    refine pure_ (i := 9) (N := some 168) (v := ?_) (a' := ?_) #[tT,tT,tT,tT,tT,tT,tT,tT,tT,tT,fF,fF,fF,fF,fF,fF,fF,fF,fF] rfl rfl (any_of HT_.out (by kernel_rfl)) (fun _ _ _ h => h) (Or.inl ⟨by rfl, ?_⟩) ?_ ?_
                    rotate_left
                    ·intro w'
                     go_simp
                     with_reducible rfl
                    rotate_left
                    ·simp only [Act.put, sA, sB, sC, i64_w, i32_w]
                     rfl
                    refine pure_ (i := 10) (N := some 169) (v := ?_) (a' := ?_) #[tT,tT,tT,tT,tT,tT,tT,tT,tT,tT,tT,fF,fF,fF,fF,fF,fF,fF,fF] rfl rfl (any_of HT_.out (by kernel_rfl)) (fun _ _ _ h => h) (Or.inl ⟨by rfl, ?_⟩) ?_ ?_
                    rotate_left
                    ·intro w'
                     go_simp
                     with_reducible rfl
                    rotate_left
                    ·simp only [Act.put, sA, sB, sC, i64_w, i32_w]
                     rfl
                    refine pure_ (i := 11) (N := some 170) (v := ?_) (a' := ?_) #[tT,tT,tT,tT,tT,tT,tT,tT,tT,tT,tT,tT,fF,fF,fF,fF,fF,fF,fF] rfl rfl (any_of HT_.out (by kernel_rfl)) (fun _ _ _ h => h) (Or.inl ⟨by rfl, ?_⟩) ?_ ?_
                    rotate_left
                    ·intro w'
                     go_simp
                     with_reducible rfl
                    rotate_left
                    ·simp only [Act.put, sA, sB, sC, i64_w, i32_w]
                     rfl
                    refine pure_ (i := 12) (N := some 171) (v := ?_) (a' := ?_) #[tT,tT,tT,tT,tT,tT,tT,tT,tT,tT,tT,tT,tT,fF,fF,fF,fF,fF,fF] rfl rfl (any_of HT_.out (by kernel_rfl)) (fun _ _ _ h => h) (Or.inl ⟨by rfl, ?_⟩) ?_ ?_
                    rotate_left
                    ·intro w'
                     go_simp
                     with_reducible rfl
                    rotate_left
                    ·simp only [Act.put, sA, sB, sC, i64_w, i32_w]
                     rfl
                    refine pure_ (i := 13) (N := some 172) (v := ?_) (a' := ?_) #[tT,tT,tT,tT,tT,tT,tT,tT,tT,tT,tT,tT,tT,tT,fF,fF,fF,fF,fF] rfl rfl (any_of HT_.out (by kernel_rfl)) (fun _ _ _ h => h) (Or.inl ⟨by rfl, ?_⟩) ?_ ?_
                    rotate_left
                    ·intro w'
                     go_simp
                     with_reducible rfl
                    rotate_left
                    ·simp only [Act.put, sA, sB, sC, i64_w, i32_w]
                     rfl
                    refine pure_ (i := 14) (N := some 173) (v := ?_) (a' := ?_) #[tT,tT,tT,tT,tT,tT,tT,tT,tT,tT,tT,tT,tT,tT,tT,fF,fF,fF,fF] rfl rfl (any_of HT_.out (by kernel_rfl)) (fun _ _ _ h => h) (Or.inl ⟨by rfl, ?_⟩) ?_ ?_
                    rotate_left
                    ·intro w'
                     go_simp
                     with_reducible rfl
                    rotate_left
                    ·simp only [Act.put, sA, sB, sC, i64_w, i32_w]
                     rfl
                    refine pure_ (i := 16) (N := some 175) (v := ?_) (a' := ?_) #[tT,tT,tT,tT,tT,tT,tT,tT,tT,tT,tT,tT,tT,tT,tT,fF,tT,fF,fF] rfl rfl (any_of HT_.out (by kernel_rfl)) (fun _ _ _ h => h) (Or.inl ⟨by rfl, ?_⟩) ?_ ?_
                    rotate_left
                    ·intro w'
                     go_simp
                     with_reducible rfl
                    rotate_left
                    ·simp only [Act.put, sA, sB, sC, i64_w, i32_w]
                     rfl
                    refine take_ (i := 15) (N := some 174) (v := ?_) (a' := ?_) #[tT,tT,tT,tT,tT,tT,tT,tT,tT,tT,tT,tT,tT,tT,tT,tT,tT,fF,fF] rfl rfl (take_ofW HT_.out HW_.out (by kernel_rfl)) (fun _ _ _ h => h) (Or.inl ⟨by rfl, ?_⟩) hHeld ?_ ?_
                    rotate_left
                    ·rintro w' ⟨s0, s1, s2, s3, s4, s5, s6, s7, s8⟩
                     go_simp
                     with_reducible rfl
                    rotate_left
                    ·simp only [Act.put, sA, sB, sC, i64_w, i32_w]
                     rfl
                    refine one_ (i := 17) (N := some 176) #[tT,tT,tT,tT,tT,tT,tT,tT,tT,tT,tT,tT,tT,tT,tT,tT,tT,tT,fF] rfl rfl (one_of HT_.out (by kernel_rfl)) (by decide) (fun K hK => ?_)
                    refine goes_ Tryd.func28 (by kernel_rfl) rfl #[.string ((rd_T31 l0 x17_4).f0), .string a1] (by rfl) rfl rfl (by (try simp only [mT, mC, mN]); first | done | rfl | (simp only [lD, lT]; rfl)) ?_
                    with_reducible refine (path_Under.calls k4 ((rd_T31 l0 x17_4).f0) a1 t321 _ A80.out).mono ?_
                    rintro e w83 ⟨rfl, hb⟩; refine ⟨_, rfl, ?_⟩
                    have n0_ := am (Kd.R_below (by (with_reducible repeat (first | apply rA | apply rN | apply rD)); exact HO_9.out) hb); have n1_ := am (blk_below (g := gb304) (o := .cells #[.string t300, .int .i64 t301, .string t302] 31 (0, 0)) (by (with_reducible repeat (first | refine kN ?_ _ | refine kD ?_ | refine kA ?_ _)); exact BK304.out) hb); have n2_ := am (blk_below (g := gb318) (o := .cells #[.string t314, .int .i64 t315, .string t316] 31 (0, 0)) (by (with_reducible repeat (first | refine kN ?_ _ | refine kD ?_ | refine kA ?_ _)); exact BK318.out) hb); have n3_ := am (below_step (by repeat (first | (with_reducible first | exact HB.out | apply bA | apply bN | apply bO | refine below_set ?_ GE304.out | refine below_set ?_ GE318.out) | exact HB.out)) hb); clear HO_9; clear BK304; clear BK318; clear HB; have HO_9 := n0_; have BK304 := n1_; have BK318 := n2_; have HB := n3_; clear n0_ n1_ n2_ n3_; refine hK.out _ _ ⟨(blk_cell BK318.out 0).trans rfl, (blk_cell BK318.out 1).trans rfl, (blk_cell BK318.out 2).trans rfl, ((HB.out.cell (wB w _ hw319_0)).trans hw319_0), ((HB.out.cell (wB w _ hw319_1)).trans hw319_1), ((HB.out.cell (wB w _ hw319_2)).trans hw319_2), ((HB.out.cell (wB w _ hw320_0)).trans hw320_0), ((HB.out.cell (wB w _ hw320_1)).trans hw320_1), ((HB.out.cell (wB w _ hw320_2)).trans hw320_2)⟩ (fun hHeld => ?_)
                    clear hK K; refine norm_ (a' := ?_) ?_ ?_
                    rotate_left
                    ·show Act.put _ (some 176) _ = _
                     simp only [Act.put, sA, sB, sC, i64_w, i32_w]
                     rfl
                    refine pure_ (i := 18) (N := some 177) (v := ?_) (a' := ?_) #[tT,tT,tT,tT,tT,tT,tT,tT,tT,tT,tT,tT,tT,tT,tT,tT,tT,tT,tT] rfl rfl (any_of HT_.out (by kernel_rfl)) (fun _ _ _ h => h) (Or.inl ⟨by rfl, ?_⟩) ?_ ?_
                    rotate_left
                    ·intro w'
                     go_simp
                     with_reducible rfl
                    rotate_left
                    ·simp only [Act.put, sA, sB, sC, i64_w, i32_w]
                     rfl
                    refine done_ (done_of HT_.out (by kernel_rfl)) ?_
                    try go_wp2
                    go_meet; case rel => exact ⟨_, (t321), (by first | rfl | (simp; done) | (simp [*]; done)), H', ⟨by have := HJ4.out; have := HJ22.out; have := HJ42.out; have := HK4.out; first | omega | exact Nat.le_refl _⟩, ⟨by (with_reducible repeat (first | apply rA | apply rN | apply rD)); exact HO_9.out⟩, ⟨by (with_reducible repeat (first | refine kN ?_ _ | refine kD ?_ | refine kA ?_ _)); exact BK304.out⟩, ⟨by (with_reducible repeat (first | refine kN ?_ _ | refine kD ?_ | refine kA ?_ _)); exact BK318.out⟩, ⟨by repeat (first | (with_reducible first | exact HB.out | apply bA | apply bN | apply bO | refine below_set ?_ GE304.out | refine below_set ?_ GE318.out) | exact HB.out)⟩⟩
                  ·replace c76 := Bool.eq_false_iff.mpr c76
                   subst c76; have H1 : (hogsheadlaw3_FindGrafts.j4 k4 l0 a1 t287 x17_4 true) = some true := by rw [if_neg (show ¬ (false = true) by decide)] at H; exact H
                   exact absurd H1 (by cases k4 <;> simp [hogsheadlaw3_FindGrafts.j4, Option.bind_eq_some_iff])
                 case rest =>
                  clear HC71; (try clear c1); (try clear c2); (try clear p2); (try clear p3); (try clear q3); (try clear hx3); (try clear c6); (try clear c7); (try clear c15); (try clear c28); (try clear p31); (try clear q31); (try clear hx31); (try clear p32); (try clear q32); (try clear hx32); (try clear c68); (try clear c68b0); (try clear c69); (try clear c69b0); (try clear c74); (try clear c76); (try clear c77); (try clear c77b0); (try clear hcz75_0); (try clear hcz75_1); (try clear hcz75_2); (try clear hfz75_0); (try clear hfz75_1); (try clear hfz75_2); (try clear hx313_0); (try clear hx313_1); (try clear hx313_2); (try clear hx319_0); (try clear hx319_1); (try clear hx319_2); (try clear hx320_0); (try clear hx320_1); (try clear hx320_2); (try clear p313); (try clear p319); (try clear p320); (try clear q313); (try clear q319); (try clear q320); obtain ⟨kq, x177_70, rfl, HA, HJ70, HO_9, BK304, BK318, HB⟩ := hcut; cases kq with
                  | zero => exact absurd HA.out (by simp [hogsheadlaw3_FindGrafts.j4])
                  | succ kj70 =>
                   have H := HA.out; clear HA; simp only [hogsheadlaw3_FindGrafts.j4] at H
                   by_cases c86 : x177_70 = true
                   ·subst c86
                    have H1 : (some false) = some true := by rw [if_pos rfl] at H; exact H
                    exact absurd H1 (by simp)
                   ·replace c86 := Bool.eq_false_iff.mpr c86
                    subst c86; have H1 : (hogsheadlaw3_FindGrafts.l0 kj70 l0 a1 t287 (wrap64 (x17_4 + 1))) = some true := by rw [if_neg (show ¬ (false = true) by decide)] at H; exact H
                    clear H; have H := H1; clear H1; have H' := am H; clear H; go_wp2
                    go_roundg kj70
                    case measure => have := HJ4.out; have := HJ22.out; have := HJ42.out; have := HK4.out; have := HJ70.out; omega
                    case rel => exact ⟨(wrap64 (x17_4 + 1)), (by first | rfl | (simp; done) | (simp [*]; done)), H', ⟨by have := HJ4.out; have := HJ22.out; have := HJ42.out; have := HK4.out; have := HJ70.out; omega⟩, ⟨by (with_reducible repeat (first | apply rA | apply rN | apply rD)); exact Kd.R_mono HO_9.out (fun _ hk => hk.1)⟩, ⟨by (with_reducible repeat (first | refine kN ?_ _ | refine kD ?_ | refine kA ?_ _)); exact BK304.out⟩, ⟨by repeat (first | (with_reducible first | exact HB.out | apply bA | apply bN | apply bO | refine below_set ?_ GE304.out | refine below_set ?_ GE318.out) | exact HB.out)⟩⟩
                ·rw [if_neg c69] at H
                 exact absurd H (by simp)
               ·rw [if_neg c68] at H
                have c68b0 : decide (x17_4 < (l0.length : Int)) = false := decide_eq_false c68; clear c68; replace H := oB H; obtain ⟨t322, A870, H⟩ := H; replace H : (some t322) = some true := H; have A87 := am A870; clear A870; obtain rfl := Option.some.inj H; go_wp2_with (first | ((with_reducible refine gate_callee (f := 9) rfl ?_); refine goesL_ (some 178) rfl rfl Tryd.func9 (by kernel_rfl) rfl #[] rfl (by (try simp only [mT, mC, mN]); first | done | rfl | (simp only [lD, lT]; rfl)) ?_; (with_reducible refine (hogsheadlaw3_awake.calls k4  true _ A87.out).mono ?_); rintro e w88 ⟨rfl, hb⟩; refine ⟨_, rfl, ?_⟩; have n0_ := am (Kd.R_below (by (with_reducible repeat (first | apply rA | apply rN | apply rD)); exact HO_9.out) hb); have n1_ := am (blk_below (g := gb304) (o := .cells #[.string t300, .int .i64 t301, .string t302] 31 (0, 0)) (by (with_reducible repeat (first | refine kN ?_ _ | refine kD ?_ | refine kA ?_ _)); exact BK304.out) hb); have n2_ := am (below_step (by repeat (first | (with_reducible first | exact HB.out | apply bA | apply bN | apply bO | refine below_set ?_ GE304.out) | exact HB.out)) hb); clear HO_9; clear BK304; clear HB; have HO_9 := n0_; have BK304 := n1_; have HB := n2_; clear n0_ n1_ n2_))
                go_ret; exact ⟨by first | rfl | (simp [eN, eS] <;> rfl) | (simp [*, eN, eS] <;> rfl), by repeat (first | (with_reducible first | exact HB.out | apply bA | apply bN | apply bO | refine below_set ?_ GE304.out) | exact HB.out)⟩
         ·rw [if_neg c40] at H
          exact absurd H (by simp)
        ·rw [if_neg c39] at H
         exact absurd H (by simp)
    ·replace c21 := Bool.eq_false_iff.mpr c21
     subst c21; have H1 : (if (t287.length : Int) = 0 then ((hogsheadlaw3_awake.f kj4).bind fun t291 => (some t291)) else (some false)) = some true := by rw [if_neg (show ¬ (false = true) by decide)] at H; exact H
     clear H; have H := H1; clear H1; by_cases c89 : (t287.length : Int) = 0
     ·rw [if_pos c89] at H
      have c89b0 : ((t287.length : Int) == 0) = true := beq_iff_eq.mpr c89; have c89b1 : ((t287.length : Int) != 0) = false := bne_eq_false_iff_eq.mpr c89; clear c89; replace H := oB H; obtain ⟨t291, A900, H⟩ := H; replace H : (some t291) = some true := H; have A90 := am A900; clear A900; obtain rfl := Option.some.inj H; go_wp2_with (first | ((with_reducible refine gate_callee (f := 23) rfl ?_); refine goesL_ (some 46) rfl rfl Tryd.func23 (by kernel_rfl) rfl #[.slice A0 l0.length c0, .string a1, .slice A2 l2.length c2] rfl (by (try simp only [mT, mC, mN]); first | done | rfl | (simp only [lD, lT]; rfl)) ?_; (with_reducible refine (find_Graft.calls kj4 _ _ l0 a1 _ _ l2 t287 false _ ?side1 ?side2 ?side3 ?side4 A20.out).mono ?_); (case side1 => repeat (first | exact (Kd.C_below HR0.out HB.out) | (with_reducible refine cA ?_ _) | (with_reducible refine cN ?_ _) | (with_reducible refine cD ?_))); (case side2 => exact HC0.out); (case side3 => repeat (first | exact (Kd.C_below HR2.out HB.out) | (with_reducible refine cA ?_ _) | (with_reducible refine cN ?_ _) | (with_reducible refine cD ?_))); (case side4 => exact HC2.out); rintro e w91 ⟨v289, rfl, ho0, hb⟩; refine ⟨_, rfl, ?_⟩; have n0_ := am (Kd.R_lower ho0 (below_size (by repeat (first | (with_reducible first | exact HB.out | apply bA | apply bN | apply bO) | exact HB.out)))); have n1_ := am (below_step (by repeat (first | (with_reducible first | exact HB.out | apply bA | apply bN | apply bO) | exact HB.out)) hb); clear HB; have HO290 := n0_; have HB := n1_; clear n0_ n1_; (try clear ho0); obtain ⟨Ao92, co92, eo92⟩ := Kd.R_slice HO290.out; subst eo92) | (go_at_call 9; (with_reducible refine (hogsheadlaw3_awake.calls kj4  true _ A90.out).mono ?_); rintro e w93 ⟨rfl, hb⟩; have n0_ := am (Kd.R_below (by (with_reducible repeat (first | apply rA | apply rN | apply rD)); exact HO290.out) hb); have n1_ := am (below_step (by repeat (first | (with_reducible first | exact HB.out | apply bA | apply bN | apply bO) | exact HB.out)) hb); clear HO290; clear HB; have HO290 := n0_; have HB := n1_; clear n0_ n1_))
      go_ret; exact ⟨by first | rfl | (simp [eN, eS] <;> rfl) | (simp [*, eN, eS] <;> rfl), by repeat (first | (with_reducible first | exact HB.out | apply bA | apply bN | apply bO) | exact HB.out)⟩
     ·rw [if_neg c89] at H
      exact absurd H (by simp)
/-- The one plain statement of hogsheadlaw3_FindGrafts. -/
def hogsheadlaw3_FindGrafts.Pure : Prop := ∀ (l0 : List (S31)) (a1 : ByteArray) (l2 : List (S31)) (a3 : Int), (l0.length ≤ maxLen ∧ ∀ y1 ∈ l0, (y1.f0.size ≤ maxLen) ∧ ((Lit.int .i64 y1.f1).wf = true) ∧ (y1.f2.size ≤ maxLen)) → a1.size ≤ 140737488351232 → (l2.length ≤ maxLen ∧ ∀ y1 ∈ l2, (y1.f0.size ≤ maxLen) ∧ ((Lit.int .i64 y1.f1).wf = true) ∧ (y1.f2.size ≤ maxLen)) → (Lit.int .i64 a3).wf = true → ∃ k, hogsheadlaw3_FindGrafts.f k l0 a1 l2 a3 = some true

end Go.Proofs.YtkloomnkpfaijaaDoor.P
