/- Laid by a program of this session (wip/pr), after the printer of the kit: the functions that a statement reaches as plain Lean functions, and that the calls of the machine come to them. No condition. -/
import Derived.Test.YtckoggeojokpeaaDoorPx0
import Derived.Test.YtckoggeojokpeaaDoorPx2
import Derived.Test.YtckoggeojokpeaaDoorPx4
import Derived.Test.YtckoggeojokpeaaDoorPx5
import Derived.Test.YtckoggeojokpeaaDoorPx6
import Derived.Test.YtckoggeojokpeaaDoorPx7
import Derived.Test.YtckoggeojokpeaaDoorPx12
import Derived.Test.YtckoggeojokpeaaDoorPx13
import Derived.Test.YtckoggeojokpeaaDoorPx16
import Derived.Test.YtckoggeojokpeaaDoorPx19
import Derived.Test.YtckoggeojokpeaaDoorPx20
namespace Go.Proofs.YtckoggeojokpeaaDoor.P
open Go.RowKit Go.Proofs.YtckoggeojokpeaaDoorX Go.Proofs.YtckoggeojokpeaaDoorW.PrintWords Go.Proofs.YtckoggeojokpeaaDoorW.PrintLast Go.Proofs.YtckoggeojokpeaaDoorW.PrintMore
attribute [local go_sem] max2_int min2_int max_two min_two
set_option linter.unusedVariables false
set_option linter.unusedSimpArgs false

/-! ### hogsheadlaw2_TreeTells: function 5 -/
mutual
def hogsheadlaw2_TreeTells.j0 : Nat → List (S32) → List (S32) → Bool → ByteArray → Int → ByteArray → Option (Bool)
 | 0, _, _, _, _, _, _ => none
 | k + 1, x0, x1, x27, x289000, x289001, x289002 => if x27 = true then ((hogsheadlaw2_awake.f k).bind fun t291 => (some t291)) else ((hogsheadlaw0_LendNodes.f x0).bind fun t292 => ((tree_Sort.f k t292).bind fun t295 => ((hogsheadref2_Sort.f k x0).bind fun t298 => ((hogsheadlaw0_SameNodes.f k t295 t298).bind fun t301 => (if t301 = true then ((tree_Good.f k x289000 x289001 x289002).bind fun t302 => ((hogsheadref2_Good.f k x289000 x289001 x289002).bind fun t303 => (if (t302 == t303) = true then ((tree_Bad.f k t292).bind fun t304 => ((hogsheadref2_Bad.f k x0).bind fun t305 => (if t304 = t305 then ((tree_May.f k t292).bind fun t306 => ((hogsheadref2_May.f k x0).bind fun t307 => (if (t306 == t307) = true then ((tree_Same.f k t292 x1).bind fun t308 => ((hogsheadref2_Same.f k x0 x1).bind fun t309 => (if (t308 == t309) = true then ((tree_Size.f k t292).bind fun t310 => ((hogsheadref2_Size.f k x0).bind fun t311 => (hogsheadlaw2_TreeTells.j1 k x0 t292 t295 (t310 == t311)))) else (hogsheadlaw2_TreeTells.j1 k x0 t292 t295 false)))) else (hogsheadlaw2_TreeTells.j1 k x0 t292 t295 false)))) else (hogsheadlaw2_TreeTells.j1 k x0 t292 t295 false)))) else (hogsheadlaw2_TreeTells.j1 k x0 t292 t295 false)))) else (hogsheadlaw2_TreeTells.j1 k x0 t292 t295 false))))))
def hogsheadlaw2_TreeTells.j1 : Nat → List (S32) → List (S32) → List (S32) → Bool → Option (Bool)
 | 0, _, _, _, _ => none
 | k + 1, x0, x7, x8, x9 => (hogsheadlaw0_OverNodes.f k x8).bind fun _ => (if x9 = true then ((hogsheadlaw0_KeptNodes.f k x7 x0).bind fun t312 => (if t312 = true then ((hogsheadlaw2_awake.f k).bind fun t313 => (some t313)) else (some false))) else (some false))
end
def hogsheadlaw2_TreeTells.f (k : Nat) (l0 : List (S32)) (l1 : List (S32)) (a2_0 : ByteArray) (a2_1 : Int) (a2_2 : ByteArray) : Option (Bool) := (hogsheadlaw0_GreatNodes.f k l0 60).bind fun t289 => (if t289 = true then (hogsheadlaw2_TreeTells.j0 k l0 l1 true a2_0 a2_1 a2_2) else ((hogsheadlaw0_GreatNodes.f k l1 60).bind fun t290 => (if t290 = true then (hogsheadlaw2_TreeTells.j0 k l0 l1 true a2_0 a2_1 a2_2) else (if (a2_0.size : Int) > 300 then (hogsheadlaw2_TreeTells.j0 k l0 l1 true a2_0 a2_1 a2_2) else (hogsheadlaw2_TreeTells.j0 k l0 l1 (decide ((a2_2.size : Int) > 500)) a2_0 a2_1 a2_2)))))
theorem hogsheadlaw2_TreeTells.mono_l : ∀ k, (∀ y0 y1 y2 y3 y4 y5, LeO (hogsheadlaw2_TreeTells.j0 k y0 y1 y2 y3 y4 y5) (hogsheadlaw2_TreeTells.j0 (k + 1) y0 y1 y2 y3 y4 y5)) ∧ (∀ y0 y1 y2 y3, LeO (hogsheadlaw2_TreeTells.j1 k y0 y1 y2 y3) (hogsheadlaw2_TreeTells.j1 (k + 1) y0 y1 y2 y3))
 | 0 => ⟨fun _ _ _ _ _ _ r h => by simp [hogsheadlaw2_TreeTells.j0] at h, fun _ _ _ _ r h => by simp [hogsheadlaw2_TreeTells.j1] at h⟩
 | k + 1 => by
  obtain ⟨ih0, ih1⟩ := hogsheadlaw2_TreeTells.mono_l k; refine ⟨?_, ?_⟩
  ·intro y0 y1 y2 y3 y4 y5
   unfold hogsheadlaw2_TreeTells.j0
   repeat' first
   | (with_reducible exact ih0 _ _ _ _ _ _)
   | (with_reducible exact ih1 _ _ _ _)
   | (with_reducible exact hogsheadlaw0_GreatNodes.mono _ _ _)
   | (with_reducible exact hogsheadlaw0_KeptNodes.mono _ _ _)
   | (with_reducible exact hogsheadlaw0_OverNodes.mono _ _)
   | (with_reducible exact hogsheadlaw0_SameNodes.mono _ _ _)
   | (with_reducible exact hogsheadlaw2_awake.mono _)
   | (with_reducible exact hogsheadref2_Bad.mono _ _)
   | (with_reducible exact hogsheadref2_Good.mono _ _ _ _)
   | (with_reducible exact hogsheadref2_May.mono _ _)
   | (with_reducible exact hogsheadref2_Same.mono _ _ _)
   | (with_reducible exact hogsheadref2_Size.mono _ _)
   | (with_reducible exact hogsheadref2_Sort.mono _ _)
   | (with_reducible exact tree_Bad.mono _ _)
   | (with_reducible exact tree_Good.mono _ _ _ _)
   | (with_reducible exact tree_May.mono _ _)
   | (with_reducible exact tree_Same.mono _ _ _)
   | (with_reducible exact tree_Size.mono _ _)
   | (with_reducible exact tree_Sort.mono _ _)
   | (with_reducible exact LeO.refl _)
   | (with_reducible exact LeO.none _)
   | (with_reducible refine LeO.ite ?_ ?_)
   | (with_reducible refine LeO.bind ?_ (fun _ => ?_))
  ·intro y0 y1 y2 y3
   unfold hogsheadlaw2_TreeTells.j1
   repeat' first
   | (with_reducible exact ih0 _ _ _ _ _ _)
   | (with_reducible exact ih1 _ _ _ _)
   | (with_reducible exact hogsheadlaw0_GreatNodes.mono _ _ _)
   | (with_reducible exact hogsheadlaw0_KeptNodes.mono _ _ _)
   | (with_reducible exact hogsheadlaw0_OverNodes.mono _ _)
   | (with_reducible exact hogsheadlaw0_SameNodes.mono _ _ _)
   | (with_reducible exact hogsheadlaw2_awake.mono _)
   | (with_reducible exact hogsheadref2_Bad.mono _ _)
   | (with_reducible exact hogsheadref2_Good.mono _ _ _ _)
   | (with_reducible exact hogsheadref2_May.mono _ _)
   | (with_reducible exact hogsheadref2_Same.mono _ _ _)
   | (with_reducible exact hogsheadref2_Size.mono _ _)
   | (with_reducible exact hogsheadref2_Sort.mono _ _)
   | (with_reducible exact tree_Bad.mono _ _)
   | (with_reducible exact tree_Good.mono _ _ _ _)
   | (with_reducible exact tree_May.mono _ _)
   | (with_reducible exact tree_Same.mono _ _ _)
   | (with_reducible exact tree_Size.mono _ _)
   | (with_reducible exact tree_Sort.mono _ _)
   | (with_reducible exact LeO.refl _)
   | (with_reducible exact LeO.none _)
   | (with_reducible refine LeO.ite ?_ ?_)
   | (with_reducible refine LeO.bind ?_ (fun _ => ?_))
theorem hogsheadlaw2_TreeTells.mono : ∀ a0 a1 a2 a3 a4 k, LeO (hogsheadlaw2_TreeTells.f k a0 a1 a2 a3 a4) (hogsheadlaw2_TreeTells.f (k + 1) a0 a1 a2 a3 a4) := by
 intro a0 a1 a2 a3 a4 k; obtain ⟨ih0, ih1⟩ := hogsheadlaw2_TreeTells.mono_l k; unfold hogsheadlaw2_TreeTells.f
 repeat' first
   | (with_reducible exact ih0 _ _ _ _ _ _)
   | (with_reducible exact ih1 _ _ _ _)
   | (with_reducible exact hogsheadlaw0_GreatNodes.mono _ _ _)
   | (with_reducible exact hogsheadlaw0_KeptNodes.mono _ _ _)
   | (with_reducible exact hogsheadlaw0_OverNodes.mono _ _)
   | (with_reducible exact hogsheadlaw0_SameNodes.mono _ _ _)
   | (with_reducible exact hogsheadlaw2_awake.mono _)
   | (with_reducible exact hogsheadref2_Bad.mono _ _)
   | (with_reducible exact hogsheadref2_Good.mono _ _ _ _)
   | (with_reducible exact hogsheadref2_May.mono _ _)
   | (with_reducible exact hogsheadref2_Same.mono _ _ _)
   | (with_reducible exact hogsheadref2_Size.mono _ _)
   | (with_reducible exact hogsheadref2_Sort.mono _ _)
   | (with_reducible exact tree_Bad.mono _ _)
   | (with_reducible exact tree_Good.mono _ _ _ _)
   | (with_reducible exact tree_May.mono _ _)
   | (with_reducible exact tree_Same.mono _ _ _)
   | (with_reducible exact tree_Size.mono _ _)
   | (with_reducible exact tree_Sort.mono _ _)
   | (with_reducible exact LeO.refl _)
   | (with_reducible exact LeO.none _)
   | (with_reducible refine LeO.ite ?_ ?_)
   | (with_reducible refine LeO.bind ?_ (fun _ => ?_))
def hogsheadlaw2_TreeTells.T5 : Bool × List (List Nat × List Nat) := (true, [([], []), ([], []), ([1], [1]), ([0, 2, 2], [0, 2]), ([3, 3], [3]), ([4], [4]), ([5, 4, 4], [4, 5]), ([4], [4]), ([7, 6, 4], [4, 7]), ([6, 8, 4], [4, 6, 8]), ([4, 9], [4, 9]), ([10, 8], [10]), ([11], [11]), ([12, 11, 11], [11, 12]), ([11], [11]), ([14, 13, 11], [11, 14]), ([13, 15, 11], [11, 13, 15]), ([11, 16], [11, 16]), ([17, 15], [17]), ([18], [18]), ([19, 18, 18], [18, 19]), ([18], [18]), ([21, 20, 18], [18, 21]), ([20, 22, 18], [18, 20, 22]), ([18, 23], [18, 23]), ([24, 22], [24]), ([25], [25]), ([25], [25]), ([26, 27, 25, 25], [25, 26, 27]), ([25], [25]), ([25], [25]), ([29, 30, 28, 25], [25, 29, 30]), ([28, 31, 25], [25, 28, 31]), ([25, 32], [25, 32]), ([33, 31], [33]), ([34], [34]), ([35, 34, 34], [34, 35]), ([34], [34]), ([37, 36, 34], [34, 37]), ([36, 38, 34], [34, 36, 38]), ([34, 39], [34, 39]), ([40, 38, 0, 1, 2, 3, 4, 5, 6, 7, 8, 9, 10, 11, 12, 13, 14, 15, 16, 17, 18, 19, 20, 21, 22, 23, 24, 25, 26, 27, 28, 29, 30, 31, 32, 33, 34, 35, 36, 37, 38, 39, 40], [40])])
def hogsheadlaw2_TreeTells.B5 : List Nat := [0, 0, 2, 7, 15, 31, 63, 31, 255, 511, 1023, 2047, 4095, 8191, 4095, 32767, 65535, 131071, 262143, 524287, 1048575, 524287, 4194303, 8388607, 16777215, 33554431, 67108863, 67108863, 268435455, 67108863, 67108863, 2147483647, 4294967295, 8589934591, 17179869183, 34359738367, 68719476735, 34359738367, 274877906943, 549755813887, 1099511627775, 2199023255551]
theorem hogsheadlaw2_TreeTells.tab5 : rtab .any (opsOf Tryd.f5 5) = hogsheadlaw2_TreeTells.T5 := by kernel_rfl
theorem hogsheadlaw2_TreeTells.bits5 : waitsOk hogsheadlaw2_TreeTells.T5.2 hogsheadlaw2_TreeTells.B5 = true := by kernel_rfl
/-- What is one's own stays as it was where none of its blocks is changed. -/
theorem Kd.R_keptB {α : Type} {d : Kd α} {e : Nat} {W W2 : World} {base : Nat} {ok S : Nat → Prop} {v : Value} {xs : List α} (h : d.R e W base ok v xs) (hk : Kept W W2 S) (hne : ∀ k, ok k → ¬ S k) : d.R e W2 base (fun k => ok k ∧ (¬ S k ∧ k < W.heap.size)) v xs := by
  have h1 := Kd.R_mono (Kd.R_bound h) (fun k hb => (⟨hb.1, hne k hb.1, hb.2.2.1⟩ : ok k ∧ (¬ S k ∧ k < W.heap.size)))
  exact Kd.R_kept h1 hk (fun k hb => hb.2.1)
set_option maxHeartbeats 8000000 in
set_option maxRecDepth 100000 in
theorem hogsheadlaw2_TreeTells.calls (k : Nat) (A0 : Option Addr) (c0 : Nat) (l0 : List (S32)) (A1 : Option Addr) (c1 : Nat) (l1 : List (S32)) (a2_0 : ByteArray) (a2_1 : Int) (a2_2 : ByteArray) (r : Bool) (w : World) (hr0 : Kd.C k32 w A0 l0.length l0) (hc0 : l0.length ≤ c0) (hr1 : Kd.C k32 w A1 l1.length l1) (hc1 : l1.length ≤ c1) (h : hogsheadlaw2_TreeTells.f k l0 l1 a2_0 a2_1 a2_2 = some true) :
  Calls Tryd.prog 5 #[.slice A0 l0.length c0, .slice A1 l1.length c1, .agg #[.string a2_0, .int .i64 a2_1, .string a2_2]] w fun e w' => e = .returned (.bool true) ∧ Below w.heap.size w w' := by
 have hu32 := Tryd.underlying32; have HR0 := am hr0; have HC0 := am hc0; clear hr0 hc0; have HR1 := am hr1; have HC1 := am hc1; clear hr1 hc1; have HB := am (Below.refl w.heap.size w); have H : ((hogsheadlaw0_GreatNodes.f k l0 60).bind fun t289 => (if t289 = true then (hogsheadlaw2_TreeTells.j0 k l0 l1 true a2_0 a2_1 a2_2) else ((hogsheadlaw0_GreatNodes.f k l1 60).bind fun t290 => (if t290 = true then (hogsheadlaw2_TreeTells.j0 k l0 l1 true a2_0 a2_1 a2_2) else (if (a2_0.size : Int) > 300 then (hogsheadlaw2_TreeTells.j0 k l0 l1 true a2_0 a2_1 a2_2) else (hogsheadlaw2_TreeTells.j0 k l0 l1 (decide ((a2_2.size : Int) > 500)) a2_0 a2_1 a2_2)))))) = some true := h; clear h; have HC4 := am H; clear H; go_enter Tryd.func5, Tryd.ntmps5; go_upto_region 1 with (first | ((with_reducible refine gate_dst (N := 5) rfl ?_); (try (refine gate_guard (by rfl) ?_; dsimp only)); refine box_event ?hg (N := 5) ?hd (cs := #[.string a2_0, .int .i64 a2_1, .string a2_2]) (t := 32) ?hr ?_; (case hd => rfl); (case hg => rfl); (case hr => first | (go_simp; done) | (go_simp; rfl)); intro gb288 hg w5 hbox hb; have n0_ := am (below_step (by repeat (first | (with_reducible first | exact HB.out | apply bA | apply bN | apply bO) | exact HB.out)) hb); have n1_ := am (hbox); have n2_ := am ((by rw [hg]; exact (below_size (by repeat (first | (with_reducible first | exact HB.out | apply bA | apply bN | apply bO) | exact HB.out))) : w.heap.size ≤ gb288)); have n3_ := am ((by rw [hg]; exact (below_size (by repeat (first | (with_reducible first | exact HB.out | apply bA | apply bN | apply bO) | exact HB.out))) : w.heap.size ≤ gb288)); clear HB; have HB := n0_; have BK288 := n1_; have GW288 := n2_; have GE288 := n3_; clear n0_ n1_ n2_ n3_; clear hb hbox hg))
 (try simp only [Act.put, sA, sB, sC])
 go_cut [27] (fun v27 wc => ∃ (kq : Nat) (x27_3 : Bool), v27 = .bool x27_3 ∧ Aside0 (hogsheadlaw2_TreeTells.j0 kq l0 l1 x27_3 a2_0 a2_1 a2_2 = some true) ∧ Aside0 (kq ≤ k) ∧ Aside0 (wc.heap[gb288]? = some (.cells #[.string a2_0, .int .i64 a2_1, .string a2_2] 32 (0, 0))) ∧ Aside0 (Below w.heap.size w wc))
 case first =>
  have H := HC4.out; clear HC4; replace H := oB H; obtain ⟨t289, A60, H⟩ := H; replace H : (if t289 = true then (hogsheadlaw2_TreeTells.j0 k l0 l1 true a2_0 a2_1 a2_2) else ((hogsheadlaw0_GreatNodes.f k l1 60).bind fun t290 => (if t290 = true then (hogsheadlaw2_TreeTells.j0 k l0 l1 true a2_0 a2_1 a2_2) else (if (a2_0.size : Int) > 300 then (hogsheadlaw2_TreeTells.j0 k l0 l1 true a2_0 a2_1 a2_2) else (hogsheadlaw2_TreeTells.j0 k l0 l1 (decide ((a2_2.size : Int) > 500)) a2_0 a2_1 a2_2))))) = some true := H; have A6 := am A60; clear A60; by_cases c7 : t289 = true
  ·subst c7
   have H1 : (hogsheadlaw2_TreeTells.j0 k l0 l1 true a2_0 a2_1 a2_2) = some true := by rw [if_pos rfl] at H; exact H
   clear H; have H := H1; clear H1; have H' := am H; clear H; go_wp2_with (first | ((with_reducible refine gate_callee (f := 6) rfl ?_); refine goesL_ (some 11) rfl rfl Tryd.func6 (by kernel_rfl) rfl #[.slice A0 l0.length c0, .int .i64 60] rfl (by (try simp only [mT, mC, mN]); first | done | rfl | (simp only [lD, lT]; rfl)) ?_; (with_reducible refine (hogsheadlaw0_GreatNodes.calls k _ _ l0 60 true _ ?side1 ?side2 A6.out).mono ?_); (case side1 => repeat (first | exact (Kd.C_below HR0.out HB.out) | (with_reducible refine cA ?_ _) | (with_reducible refine cN ?_ _) | (with_reducible refine cD ?_))); (case side2 => exact HC0.out); rintro e w' ⟨rfl, ⟨nd, rfl⟩⟩; refine ⟨_, rfl, ?_⟩))
   go_meet; case rel => exact ⟨_, (true), (by first | rfl | (simp; done) | (simp [*]; done)), H', ⟨by first | omega | exact Nat.le_refl _⟩, ⟨by (with_reducible repeat (first | refine kN ?_ _ | refine kD ?_ | refine kA ?_ _)); exact BK288.out⟩, ⟨by repeat (first | (with_reducible first | exact HB.out | apply bA | apply bN | apply bO | refine below_set ?_ GE288.out) | exact HB.out)⟩⟩
  ·replace c7 := Bool.eq_false_iff.mpr c7
   subst c7; have H1 : ((hogsheadlaw0_GreatNodes.f k l1 60).bind fun t290 => (if t290 = true then (hogsheadlaw2_TreeTells.j0 k l0 l1 true a2_0 a2_1 a2_2) else (if (a2_0.size : Int) > 300 then (hogsheadlaw2_TreeTells.j0 k l0 l1 true a2_0 a2_1 a2_2) else (hogsheadlaw2_TreeTells.j0 k l0 l1 (decide ((a2_2.size : Int) > 500)) a2_0 a2_1 a2_2)))) = some true := by rw [if_neg (show ¬ (false = true) by decide)] at H; exact H
   clear H; have H := H1; clear H1; replace H := oB H; obtain ⟨t290, A80, H⟩ := H; replace H : (if t290 = true then (hogsheadlaw2_TreeTells.j0 k l0 l1 true a2_0 a2_1 a2_2) else (if (a2_0.size : Int) > 300 then (hogsheadlaw2_TreeTells.j0 k l0 l1 true a2_0 a2_1 a2_2) else (hogsheadlaw2_TreeTells.j0 k l0 l1 (decide ((a2_2.size : Int) > 500)) a2_0 a2_1 a2_2))) = some true := H; have A8 := am A80; clear A80; by_cases c9 : t290 = true
   ·subst c9
    have H1 : (hogsheadlaw2_TreeTells.j0 k l0 l1 true a2_0 a2_1 a2_2) = some true := by rw [if_pos rfl] at H; exact H
    clear H; have H := H1; clear H1; have H' := am H; clear H; go_wp2_with (first | ((with_reducible refine gate_callee (f := 6) rfl ?_); refine goesL_ (some 11) rfl rfl Tryd.func6 (by kernel_rfl) rfl #[.slice A0 l0.length c0, .int .i64 60] rfl (by (try simp only [mT, mC, mN]); first | done | rfl | (simp only [lD, lT]; rfl)) ?_; (with_reducible refine (hogsheadlaw0_GreatNodes.calls k _ _ l0 60 false _ ?side1 ?side2 A6.out).mono ?_); (case side1 => repeat (first | exact (Kd.C_below HR0.out HB.out) | (with_reducible refine cA ?_ _) | (with_reducible refine cN ?_ _) | (with_reducible refine cD ?_))); (case side2 => exact HC0.out); rintro e w' ⟨rfl, ⟨nd, rfl⟩⟩; refine ⟨_, rfl, ?_⟩) | (go_at_call 6; (with_reducible refine (hogsheadlaw0_GreatNodes.calls k _ _ l1 60 true _ ?side1 ?side2 A8.out).mono ?_); (case side1 => repeat (first | exact (Kd.C_below HR1.out (by repeat (first | (with_reducible first | exact HB.out | apply bA | apply bN | apply bO | refine below_set ?_ GE288.out) | exact HB.out))) | (with_reducible refine cA ?_ _) | (with_reducible refine cN ?_ _) | (with_reducible refine cD ?_))); (case side2 => exact HC1.out); rintro e w' ⟨rfl, ⟨nd, rfl⟩⟩))
    go_meet; case rel => exact ⟨_, (true), (by first | rfl | (simp; done) | (simp [*]; done)), H', ⟨by first | omega | exact Nat.le_refl _⟩, ⟨by (with_reducible repeat (first | refine kN ?_ _ | refine kD ?_ | refine kA ?_ _)); exact BK288.out⟩, ⟨by repeat (first | (with_reducible first | exact HB.out | apply bA | apply bN | apply bO | refine below_set ?_ GE288.out) | exact HB.out)⟩⟩
   ·replace c9 := Bool.eq_false_iff.mpr c9
    subst c9; have H1 : (if (a2_0.size : Int) > 300 then (hogsheadlaw2_TreeTells.j0 k l0 l1 true a2_0 a2_1 a2_2) else (hogsheadlaw2_TreeTells.j0 k l0 l1 (decide ((a2_2.size : Int) > 500)) a2_0 a2_1 a2_2)) = some true := by rw [if_neg (show ¬ (false = true) by decide)] at H; exact H
    clear H; have H := H1; clear H1; by_cases c10 : (a2_0.size : Int) > 300
    ·rw [if_pos c10] at H
     have c10b0 : decide (300 < (a2_0.size : Int)) = true := decide_eq_true c10; have c10b1 : decide (300 < a2_0.size) = true := decide_eq_true (by omega); clear c10; (first | rw [c10b0] | (simp only [i64_w, i32_w]; rw [c10b0]) | skip)
     have H' := am H; clear H; go_wp2_with (first | ((with_reducible refine gate_callee (f := 6) rfl ?_); refine goesL_ (some 11) rfl rfl Tryd.func6 (by kernel_rfl) rfl #[.slice A0 l0.length c0, .int .i64 60] rfl (by (try simp only [mT, mC, mN]); first | done | rfl | (simp only [lD, lT]; rfl)) ?_; (with_reducible refine (hogsheadlaw0_GreatNodes.calls k _ _ l0 60 false _ ?side1 ?side2 A6.out).mono ?_); (case side1 => repeat (first | exact (Kd.C_below HR0.out HB.out) | (with_reducible refine cA ?_ _) | (with_reducible refine cN ?_ _) | (with_reducible refine cD ?_))); (case side2 => exact HC0.out); rintro e w' ⟨rfl, ⟨nd, rfl⟩⟩; refine ⟨_, rfl, ?_⟩) | (go_at_call 6; (with_reducible refine (hogsheadlaw0_GreatNodes.calls k _ _ l1 60 false _ ?side1 ?side2 A8.out).mono ?_); (case side1 => repeat (first | exact (Kd.C_below HR1.out (by repeat (first | (with_reducible first | exact HB.out | apply bA | apply bN | apply bO | refine below_set ?_ GE288.out) | exact HB.out))) | (with_reducible refine cA ?_ _) | (with_reducible refine cN ?_ _) | (with_reducible refine cD ?_))); (case side2 => exact HC1.out); rintro e w' ⟨rfl, ⟨nd, rfl⟩⟩; have hcz11_0 : w5.cell? ⟨gb288, 0, none⟩ = some (.string a2_0) := (blk_cell BK288.out 0).trans rfl; have hcz11_1 : w5.cell? ⟨gb288, 1, none⟩ = some (.int .i64 a2_1) := (blk_cell BK288.out 1).trans rfl; have hcz11_2 : w5.cell? ⟨gb288, 2, none⟩ = some (.string a2_2) := (blk_cell BK288.out 2).trans rfl; have hfz11_0 := blk_frozen BK288.out 0; have hfz11_1 := blk_frozen BK288.out 1; have hfz11_2 := blk_frozen BK288.out 2))
     go_meet; case rel => exact ⟨_, (true), (by first | rfl | (simp; done) | (simp [*]; done)), H', ⟨by first | omega | exact Nat.le_refl _⟩, ⟨by (with_reducible repeat (first | refine kN ?_ _ | refine kD ?_ | refine kA ?_ _)); exact BK288.out⟩, ⟨by repeat (first | (with_reducible first | exact HB.out | apply bA | apply bN | apply bO | refine below_set ?_ GE288.out) | exact HB.out)⟩⟩
    ·rw [if_neg c10] at H
     have c10b0 : decide (300 < (a2_0.size : Int)) = false := decide_eq_false c10; have c10b1 : decide (300 < a2_0.size) = false := decide_eq_false (by omega); clear c10; (first | rw [c10b0] | (simp only [i64_w, i32_w]; rw [c10b0]) | skip)
     have H' := am H; clear H; go_wp2_with (first | ((with_reducible refine gate_callee (f := 6) rfl ?_); refine goesL_ (some 11) rfl rfl Tryd.func6 (by kernel_rfl) rfl #[.slice A0 l0.length c0, .int .i64 60] rfl (by (try simp only [mT, mC, mN]); first | done | rfl | (simp only [lD, lT]; rfl)) ?_; (with_reducible refine (hogsheadlaw0_GreatNodes.calls k _ _ l0 60 false _ ?side1 ?side2 A6.out).mono ?_); (case side1 => repeat (first | exact (Kd.C_below HR0.out HB.out) | (with_reducible refine cA ?_ _) | (with_reducible refine cN ?_ _) | (with_reducible refine cD ?_))); (case side2 => exact HC0.out); rintro e w' ⟨rfl, ⟨nd, rfl⟩⟩; refine ⟨_, rfl, ?_⟩) | (go_at_call 6; (with_reducible refine (hogsheadlaw0_GreatNodes.calls k _ _ l1 60 false _ ?side1 ?side2 A8.out).mono ?_); (case side1 => repeat (first | exact (Kd.C_below HR1.out (by repeat (first | (with_reducible first | exact HB.out | apply bA | apply bN | apply bO | refine below_set ?_ GE288.out) | exact HB.out))) | (with_reducible refine cA ?_ _) | (with_reducible refine cN ?_ _) | (with_reducible refine cD ?_))); (case side2 => exact HC1.out); rintro e w' ⟨rfl, ⟨nd, rfl⟩⟩; have hcz12_0 : w5.cell? ⟨gb288, 0, none⟩ = some (.string a2_0) := (blk_cell BK288.out 0).trans rfl; have hcz12_1 : w5.cell? ⟨gb288, 1, none⟩ = some (.int .i64 a2_1) := (blk_cell BK288.out 1).trans rfl; have hcz12_2 : w5.cell? ⟨gb288, 2, none⟩ = some (.string a2_2) := (blk_cell BK288.out 2).trans rfl; have hfz12_0 := blk_frozen BK288.out 0; have hfz12_1 := blk_frozen BK288.out 1; have hfz12_2 := blk_frozen BK288.out 2))
     go_meet; case rel => exact ⟨_, (decide ((a2_2.size : Int) > 500)), (by first | rfl | (simp; done) | (simp [*]; done)), H', ⟨by first | omega | exact Nat.le_refl _⟩, ⟨by (with_reducible repeat (first | refine kN ?_ _ | refine kD ?_ | refine kA ?_ _)); exact BK288.out⟩, ⟨by repeat (first | (with_reducible first | exact HB.out | apply bA | apply bN | apply bO | refine below_set ?_ GE288.out) | exact HB.out)⟩⟩
 case rest =>
  clear HC4; (try clear c1); (try clear p2); (try clear c5); (try clear c6); (try clear c7); (try clear c9); (try clear c10); (try clear c10b0); (try clear c10b1); (try clear hcz11_0); (try clear hcz11_1); (try clear hcz11_2); (try clear hcz12_0); (try clear hcz12_1); (try clear hcz12_2); (try clear hfz11_0); (try clear hfz11_1); (try clear hfz11_2); (try clear hfz12_0); (try clear hfz12_1); (try clear hfz12_2); obtain ⟨kq, x27_3, rfl, HA, HJ3, BK288, HB⟩ := hcut; cases kq with
  | zero => exact absurd HA.out (by simp [hogsheadlaw2_TreeTells.j0])
  | succ kj3 =>
   have H := HA.out; clear HA; simp only [hogsheadlaw2_TreeTells.j0] at H
   by_cases c13 : x27_3 = true
   ·subst c13
    have H1 : ((hogsheadlaw2_awake.f kj3).bind fun t291 => (some t291)) = some true := by rw [if_pos rfl] at H; exact H
    clear H; have H := H1; clear H1; replace H := oB H; obtain ⟨t291, A140, H⟩ := H; replace H : (some t291) = some true := H; have A14 := am A140; clear A140; obtain rfl := Option.some.inj H; go_wp2_with (first | ((with_reducible refine gate_callee (f := 7) rfl ?_); refine goesL_ (some 28) rfl rfl Tryd.func7 (by kernel_rfl) rfl #[] rfl (by (try simp only [mT, mC, mN]); first | done | rfl | (simp only [lD, lT]; rfl)) ?_; (with_reducible refine (hogsheadlaw2_awake.calls kj3  true _ A14.out).mono ?_); rintro e w15 ⟨rfl, hb⟩; refine ⟨_, rfl, ?_⟩; (try (have n9_ := am (Room.below (by (with_reducible repeat (first | apply Room.alloc | apply Room.drewN | apply Room.drew)); exact RM.out) hb); clear RM; have RM := n9_; clear n9_)); have n0_ := am (blk_below (g := gb288) (o := .cells #[.string a2_0, .int .i64 a2_1, .string a2_2] 32 (0, 0)) (by (with_reducible repeat (first | refine kN ?_ _ | refine kD ?_ | refine kA ?_ _)); exact BK288.out) hb); have n1_ := am (below_step (by repeat (first | (with_reducible first | exact HB.out | apply bA | apply bN | apply bO | refine below_set ?_ GE288.out) | exact HB.out)) hb); clear BK288; clear HB; have BK288 := n0_; have HB := n1_; clear n0_ n1_))
    go_ret; exact ⟨by first | rfl | (simp [eN, eS] <;> rfl) | (simp [*, eN, eS] <;> rfl), by repeat (first | (with_reducible first | exact HB.out | apply bA | apply bN | apply bO | refine below_set ?_ GE288.out) | exact HB.out)⟩
   ·replace c13 := Bool.eq_false_iff.mpr c13
    subst c13; have H1 : ((hogsheadlaw0_LendNodes.f l0).bind fun t292 => ((tree_Sort.f kj3 t292).bind fun t295 => ((hogsheadref2_Sort.f kj3 l0).bind fun t298 => ((hogsheadlaw0_SameNodes.f kj3 t295 t298).bind fun t301 => (if t301 = true then ((tree_Good.f kj3 a2_0 a2_1 a2_2).bind fun t302 => ((hogsheadref2_Good.f kj3 a2_0 a2_1 a2_2).bind fun t303 => (if (t302 == t303) = true then ((tree_Bad.f kj3 t292).bind fun t304 => ((hogsheadref2_Bad.f kj3 l0).bind fun t305 => (if t304 = t305 then ((tree_May.f kj3 t292).bind fun t306 => ((hogsheadref2_May.f kj3 l0).bind fun t307 => (if (t306 == t307) = true then ((tree_Same.f kj3 t292 l1).bind fun t308 => ((hogsheadref2_Same.f kj3 l0 l1).bind fun t309 => (if (t308 == t309) = true then ((tree_Size.f kj3 t292).bind fun t310 => ((hogsheadref2_Size.f kj3 l0).bind fun t311 => (hogsheadlaw2_TreeTells.j1 kj3 l0 t292 t295 (t310 == t311)))) else (hogsheadlaw2_TreeTells.j1 kj3 l0 t292 t295 false)))) else (hogsheadlaw2_TreeTells.j1 kj3 l0 t292 t295 false)))) else (hogsheadlaw2_TreeTells.j1 kj3 l0 t292 t295 false)))) else (hogsheadlaw2_TreeTells.j1 kj3 l0 t292 t295 false)))) else (hogsheadlaw2_TreeTells.j1 kj3 l0 t292 t295 false)))))) = some true := by rw [if_neg (show ¬ (false = true) by decide)] at H; exact H
    clear H; have H := H1; clear H1; replace H := oB H; obtain ⟨t292, A160, H⟩ := H; replace H : ((tree_Sort.f kj3 t292).bind fun t295 => ((hogsheadref2_Sort.f kj3 l0).bind fun t298 => ((hogsheadlaw0_SameNodes.f kj3 t295 t298).bind fun t301 => (if t301 = true then ((tree_Good.f kj3 a2_0 a2_1 a2_2).bind fun t302 => ((hogsheadref2_Good.f kj3 a2_0 a2_1 a2_2).bind fun t303 => (if (t302 == t303) = true then ((tree_Bad.f kj3 t292).bind fun t304 => ((hogsheadref2_Bad.f kj3 l0).bind fun t305 => (if t304 = t305 then ((tree_May.f kj3 t292).bind fun t306 => ((hogsheadref2_May.f kj3 l0).bind fun t307 => (if (t306 == t307) = true then ((tree_Same.f kj3 t292 l1).bind fun t308 => ((hogsheadref2_Same.f kj3 l0 l1).bind fun t309 => (if (t308 == t309) = true then ((tree_Size.f kj3 t292).bind fun t310 => ((hogsheadref2_Size.f kj3 l0).bind fun t311 => (hogsheadlaw2_TreeTells.j1 kj3 l0 t292 t295 (t310 == t311)))) else (hogsheadlaw2_TreeTells.j1 kj3 l0 t292 t295 false)))) else (hogsheadlaw2_TreeTells.j1 kj3 l0 t292 t295 false)))) else (hogsheadlaw2_TreeTells.j1 kj3 l0 t292 t295 false)))) else (hogsheadlaw2_TreeTells.j1 kj3 l0 t292 t295 false)))) else (hogsheadlaw2_TreeTells.j1 kj3 l0 t292 t295 false))))) = some true := H; have A16 := am A160; clear A160; replace H := oB H; obtain ⟨t295, A170, H⟩ := H; replace H : ((hogsheadref2_Sort.f kj3 l0).bind fun t298 => ((hogsheadlaw0_SameNodes.f kj3 t295 t298).bind fun t301 => (if t301 = true then ((tree_Good.f kj3 a2_0 a2_1 a2_2).bind fun t302 => ((hogsheadref2_Good.f kj3 a2_0 a2_1 a2_2).bind fun t303 => (if (t302 == t303) = true then ((tree_Bad.f kj3 t292).bind fun t304 => ((hogsheadref2_Bad.f kj3 l0).bind fun t305 => (if t304 = t305 then ((tree_May.f kj3 t292).bind fun t306 => ((hogsheadref2_May.f kj3 l0).bind fun t307 => (if (t306 == t307) = true then ((tree_Same.f kj3 t292 l1).bind fun t308 => ((hogsheadref2_Same.f kj3 l0 l1).bind fun t309 => (if (t308 == t309) = true then ((tree_Size.f kj3 t292).bind fun t310 => ((hogsheadref2_Size.f kj3 l0).bind fun t311 => (hogsheadlaw2_TreeTells.j1 kj3 l0 t292 t295 (t310 == t311)))) else (hogsheadlaw2_TreeTells.j1 kj3 l0 t292 t295 false)))) else (hogsheadlaw2_TreeTells.j1 kj3 l0 t292 t295 false)))) else (hogsheadlaw2_TreeTells.j1 kj3 l0 t292 t295 false)))) else (hogsheadlaw2_TreeTells.j1 kj3 l0 t292 t295 false)))) else (hogsheadlaw2_TreeTells.j1 kj3 l0 t292 t295 false)))) = some true := H
    have A17 := am A170; clear A170; have HC18 := am H; clear H; go_upto_region 5 with (first | ((with_reducible refine gate_callee (f := 17) rfl ?_); refine goesL_ (some 30) rfl rfl Tryd.func17 (by kernel_rfl) rfl #[.slice A0 l0.length c0] rfl (by (try simp only [mT, mC, mN]); first | done | rfl | (simp only [lD, lT]; rfl)) ?_; (with_reducible refine (hogsheadlaw0_LendNodes.calls _ _ l0 t292 _ ?side1 ?side2 A16.out).mono ?_); (case side1 => repeat (first | exact (Kd.C_below HR0.out HB.out) | (with_reducible refine cA ?_ _) | (with_reducible refine cN ?_ _) | (with_reducible refine cD ?_))); (case side2 => exact HC0.out); rintro e w19 ⟨v293, rfl, ho0, hb, hrm⟩; refine ⟨_, rfl, ?_⟩; have RM := am hrm; clear hrm; have n0_ := am (Kd.R_lower (Kd.R_newB ho0 (g := gb288) (o := .cells #[.string a2_0, .int .i64 a2_1, .string a2_2] 32 (0, 0)) (by (with_reducible repeat (first | refine kN ?_ _ | refine kD ?_ | refine kA ?_ _)); exact BK288.out)) (below_size (by repeat (first | (with_reducible first | exact HB.out | apply bA | apply bN | apply bO | refine below_set ?_ GE288.out) | exact HB.out)))); have n1_ := am (blk_below (g := gb288) (o := .cells #[.string a2_0, .int .i64 a2_1, .string a2_2] 32 (0, 0)) (by (with_reducible repeat (first | refine kN ?_ _ | refine kD ?_ | refine kA ?_ _)); exact BK288.out) hb); have n2_ := am (below_step (by repeat (first | (with_reducible first | exact HB.out | apply bA | apply bN | apply bO | refine below_set ?_ GE288.out) | exact HB.out)) hb); clear BK288; clear HB; have HO294 := n0_; have BK288 := n1_; have HB := n2_; clear n0_ n1_ n2_; (try clear ho0); obtain ⟨Ao20, co20, eo20⟩ := Kd.R_slice HO294.out; subst eo20) | ((with_reducible refine gate_callee (f := 15) rfl ?_); refine goesL_ (some 32) rfl rfl Tryd.func15 (by kernel_rfl) rfl #[.slice Ao20 t292.length co20] rfl (by (try simp only [mT, mC, mN]); first | done | rfl | (simp only [lD, lT]; rfl)) ?_; (with_reducible refine (tree_Sort.calls kj3 _ _ t292 t295 _ ?side1 ?side2 A17.out).mono ?_); (case side1 => repeat (first | exact (Kd.R_reads' HO294.out).2.2 | (with_reducible refine cA ?_ _) | (with_reducible refine cN ?_ _) | (with_reducible refine cD ?_))); (case side2 => exact (Kd.R_reads' HO294.out).2.1); rintro e w21 ⟨v296, rfl, ho0, hb⟩; refine ⟨_, rfl, ?_⟩; (try (have n9_ := am (Room.below (by (with_reducible repeat (first | apply Room.alloc | apply Room.drewN | apply Room.drew)); exact RM.out) hb); clear RM; have RM := n9_; clear n9_)); have n0_ := am (Kd.R_elder' (by (with_reducible repeat (first | apply rA | apply rN | apply rD)); exact HO294.out) (Kd.R_base ho0) hb); have n1_ := am (Kd.R_lower (Kd.R_newB (Kd.R_new' ho0 (Kd.R_lt (by (with_reducible repeat (first | apply rA | apply rN | apply rD)); exact HO294.out))) (g := gb288) (o := .cells #[.string a2_0, .int .i64 a2_1, .string a2_2] 32 (0, 0)) (by (with_reducible repeat (first | refine kN ?_ _ | refine kD ?_ | refine kA ?_ _)); exact BK288.out)) (below_size (by repeat (first | (with_reducible first | exact HB.out | apply bA | apply bN | apply bO | refine below_set ?_ GE288.out) | exact HB.out)))); have n2_ := am (blk_below (g := gb288) (o := .cells #[.string a2_0, .int .i64 a2_1, .string a2_2] 32 (0, 0)) (by (with_reducible repeat (first | refine kN ?_ _ | refine kD ?_ | refine kA ?_ _)); exact BK288.out) hb); have n3_ := am (below_step (by repeat (first | (with_reducible first | exact HB.out | apply bA | apply bN | apply bO | refine below_set ?_ GE288.out) | exact HB.out)) hb); clear HO294; clear BK288; clear HB; have HO294 := n0_; have HO297 := n1_; have BK288 := n2_; have HB := n3_; clear n0_ n1_ n2_ n3_; (try clear ho0)))
    (try simp only [Act.put, sA, sB, sC])
    go_cut [9] (fun v9 wc => ∃ (kq : Nat) (x9_17 : Bool), v9 = .bool x9_17 ∧ Aside0 (hogsheadlaw2_TreeTells.j1 kq l0 t292 t295 x9_17 = some true) ∧ Aside0 (kq ≤ kj3) ∧ Aside0 (Kd.R k32 32 wc w.heap.size (fun k_ => some k_ ≠ (v296 : Value).ownBlock ∧ k_ ≠ gb288) (.slice Ao20 t292.length co20) t292) ∧ Aside0 (Kd.R k32 32 wc w.heap.size (fun k_ => some k_ ≠ ((.slice Ao20 t292.length co20) : Value).ownBlock ∧ k_ ≠ gb288) v296 t295) ∧ Aside0 (wc.heap[gb288]? = some (.cells #[.string a2_0, .int .i64 a2_1, .string a2_2] 32 (0, 0))) ∧ Aside0 (Room 32 3 [.string ⟨#[108, 101, 110, 116]⟩, .int .i64 0, .string ⟨#[]⟩] wc (.slice Ao20 t292.length co20)) ∧ Aside0 (Below w.heap.size w wc))
    case first =>
     have H := HC18.out; clear HC18; replace H := oB H; obtain ⟨t298, A220, H⟩ := H; replace H : ((hogsheadlaw0_SameNodes.f kj3 t295 t298).bind fun t301 => (if t301 = true then ((tree_Good.f kj3 a2_0 a2_1 a2_2).bind fun t302 => ((hogsheadref2_Good.f kj3 a2_0 a2_1 a2_2).bind fun t303 => (if (t302 == t303) = true then ((tree_Bad.f kj3 t292).bind fun t304 => ((hogsheadref2_Bad.f kj3 l0).bind fun t305 => (if t304 = t305 then ((tree_May.f kj3 t292).bind fun t306 => ((hogsheadref2_May.f kj3 l0).bind fun t307 => (if (t306 == t307) = true then ((tree_Same.f kj3 t292 l1).bind fun t308 => ((hogsheadref2_Same.f kj3 l0 l1).bind fun t309 => (if (t308 == t309) = true then ((tree_Size.f kj3 t292).bind fun t310 => ((hogsheadref2_Size.f kj3 l0).bind fun t311 => (hogsheadlaw2_TreeTells.j1 kj3 l0 t292 t295 (t310 == t311)))) else (hogsheadlaw2_TreeTells.j1 kj3 l0 t292 t295 false)))) else (hogsheadlaw2_TreeTells.j1 kj3 l0 t292 t295 false)))) else (hogsheadlaw2_TreeTells.j1 kj3 l0 t292 t295 false)))) else (hogsheadlaw2_TreeTells.j1 kj3 l0 t292 t295 false)))) else (hogsheadlaw2_TreeTells.j1 kj3 l0 t292 t295 false))) = some true := H; have A22 := am A220; clear A220; replace H := oB H; obtain ⟨t301, A230, H⟩ := H; replace H : (if t301 = true then ((tree_Good.f kj3 a2_0 a2_1 a2_2).bind fun t302 => ((hogsheadref2_Good.f kj3 a2_0 a2_1 a2_2).bind fun t303 => (if (t302 == t303) = true then ((tree_Bad.f kj3 t292).bind fun t304 => ((hogsheadref2_Bad.f kj3 l0).bind fun t305 => (if t304 = t305 then ((tree_May.f kj3 t292).bind fun t306 => ((hogsheadref2_May.f kj3 l0).bind fun t307 => (if (t306 == t307) = true then ((tree_Same.f kj3 t292 l1).bind fun t308 => ((hogsheadref2_Same.f kj3 l0 l1).bind fun t309 => (if (t308 == t309) = true then ((tree_Size.f kj3 t292).bind fun t310 => ((hogsheadref2_Size.f kj3 l0).bind fun t311 => (hogsheadlaw2_TreeTells.j1 kj3 l0 t292 t295 (t310 == t311)))) else (hogsheadlaw2_TreeTells.j1 kj3 l0 t292 t295 false)))) else (hogsheadlaw2_TreeTells.j1 kj3 l0 t292 t295 false)))) else (hogsheadlaw2_TreeTells.j1 kj3 l0 t292 t295 false)))) else (hogsheadlaw2_TreeTells.j1 kj3 l0 t292 t295 false)))) else (hogsheadlaw2_TreeTells.j1 kj3 l0 t292 t295 false)) = some true := H
     have A23 := am A230; clear A230; by_cases c24 : t301 = true
     ·subst c24
      have H1 : ((tree_Good.f kj3 a2_0 a2_1 a2_2).bind fun t302 => ((hogsheadref2_Good.f kj3 a2_0 a2_1 a2_2).bind fun t303 => (if (t302 == t303) = true then ((tree_Bad.f kj3 t292).bind fun t304 => ((hogsheadref2_Bad.f kj3 l0).bind fun t305 => (if t304 = t305 then ((tree_May.f kj3 t292).bind fun t306 => ((hogsheadref2_May.f kj3 l0).bind fun t307 => (if (t306 == t307) = true then ((tree_Same.f kj3 t292 l1).bind fun t308 => ((hogsheadref2_Same.f kj3 l0 l1).bind fun t309 => (if (t308 == t309) = true then ((tree_Size.f kj3 t292).bind fun t310 => ((hogsheadref2_Size.f kj3 l0).bind fun t311 => (hogsheadlaw2_TreeTells.j1 kj3 l0 t292 t295 (t310 == t311)))) else (hogsheadlaw2_TreeTells.j1 kj3 l0 t292 t295 false)))) else (hogsheadlaw2_TreeTells.j1 kj3 l0 t292 t295 false)))) else (hogsheadlaw2_TreeTells.j1 kj3 l0 t292 t295 false)))) else (hogsheadlaw2_TreeTells.j1 kj3 l0 t292 t295 false)))) = some true := by rw [if_pos rfl] at H; exact H
      clear H; have H := H1; clear H1; replace H := oB H; obtain ⟨t302, A250, H⟩ := H; replace H : ((hogsheadref2_Good.f kj3 a2_0 a2_1 a2_2).bind fun t303 => (if (t302 == t303) = true then ((tree_Bad.f kj3 t292).bind fun t304 => ((hogsheadref2_Bad.f kj3 l0).bind fun t305 => (if t304 = t305 then ((tree_May.f kj3 t292).bind fun t306 => ((hogsheadref2_May.f kj3 l0).bind fun t307 => (if (t306 == t307) = true then ((tree_Same.f kj3 t292 l1).bind fun t308 => ((hogsheadref2_Same.f kj3 l0 l1).bind fun t309 => (if (t308 == t309) = true then ((tree_Size.f kj3 t292).bind fun t310 => ((hogsheadref2_Size.f kj3 l0).bind fun t311 => (hogsheadlaw2_TreeTells.j1 kj3 l0 t292 t295 (t310 == t311)))) else (hogsheadlaw2_TreeTells.j1 kj3 l0 t292 t295 false)))) else (hogsheadlaw2_TreeTells.j1 kj3 l0 t292 t295 false)))) else (hogsheadlaw2_TreeTells.j1 kj3 l0 t292 t295 false)))) else (hogsheadlaw2_TreeTells.j1 kj3 l0 t292 t295 false))) = some true := H; have A25 := am A250; clear A250; replace H := oB H; obtain ⟨t303, A260, H⟩ := H; replace H : (if (t302 == t303) = true then ((tree_Bad.f kj3 t292).bind fun t304 => ((hogsheadref2_Bad.f kj3 l0).bind fun t305 => (if t304 = t305 then ((tree_May.f kj3 t292).bind fun t306 => ((hogsheadref2_May.f kj3 l0).bind fun t307 => (if (t306 == t307) = true then ((tree_Same.f kj3 t292 l1).bind fun t308 => ((hogsheadref2_Same.f kj3 l0 l1).bind fun t309 => (if (t308 == t309) = true then ((tree_Size.f kj3 t292).bind fun t310 => ((hogsheadref2_Size.f kj3 l0).bind fun t311 => (hogsheadlaw2_TreeTells.j1 kj3 l0 t292 t295 (t310 == t311)))) else (hogsheadlaw2_TreeTells.j1 kj3 l0 t292 t295 false)))) else (hogsheadlaw2_TreeTells.j1 kj3 l0 t292 t295 false)))) else (hogsheadlaw2_TreeTells.j1 kj3 l0 t292 t295 false)))) else (hogsheadlaw2_TreeTells.j1 kj3 l0 t292 t295 false)) = some true := H
      have A26 := am A260; clear A260; by_cases c27 : (t302 == t303) = true
      ·rw [if_pos c27] at H
       have c27b0 : (t302 == t303) = true := c27; (try (have c27b1 : decide (t302 = t303) = true := by simpa using c27))
       (try (have c27b2 : (t302 == t303) = true := by simpa using c27))
       clear c27; (first | rw [c27b0] | (simp only [i64_w, i32_w]; rw [c27b0]) | skip)
       replace H := oB H; obtain ⟨t304, A280, H⟩ := H; replace H : ((hogsheadref2_Bad.f kj3 l0).bind fun t305 => (if t304 = t305 then ((tree_May.f kj3 t292).bind fun t306 => ((hogsheadref2_May.f kj3 l0).bind fun t307 => (if (t306 == t307) = true then ((tree_Same.f kj3 t292 l1).bind fun t308 => ((hogsheadref2_Same.f kj3 l0 l1).bind fun t309 => (if (t308 == t309) = true then ((tree_Size.f kj3 t292).bind fun t310 => ((hogsheadref2_Size.f kj3 l0).bind fun t311 => (hogsheadlaw2_TreeTells.j1 kj3 l0 t292 t295 (t310 == t311)))) else (hogsheadlaw2_TreeTells.j1 kj3 l0 t292 t295 false)))) else (hogsheadlaw2_TreeTells.j1 kj3 l0 t292 t295 false)))) else (hogsheadlaw2_TreeTells.j1 kj3 l0 t292 t295 false))) = some true := H; have A28 := am A280; clear A280; replace H := oB H; obtain ⟨t305, A290, H⟩ := H; replace H : (if t304 = t305 then ((tree_May.f kj3 t292).bind fun t306 => ((hogsheadref2_May.f kj3 l0).bind fun t307 => (if (t306 == t307) = true then ((tree_Same.f kj3 t292 l1).bind fun t308 => ((hogsheadref2_Same.f kj3 l0 l1).bind fun t309 => (if (t308 == t309) = true then ((tree_Size.f kj3 t292).bind fun t310 => ((hogsheadref2_Size.f kj3 l0).bind fun t311 => (hogsheadlaw2_TreeTells.j1 kj3 l0 t292 t295 (t310 == t311)))) else (hogsheadlaw2_TreeTells.j1 kj3 l0 t292 t295 false)))) else (hogsheadlaw2_TreeTells.j1 kj3 l0 t292 t295 false)))) else (hogsheadlaw2_TreeTells.j1 kj3 l0 t292 t295 false)) = some true := H; have A29 := am A290
       clear A290; by_cases c30 : t304 = t305
       ·rw [if_pos c30] at H
        have c30b0 : (t304 == t305) = true := beq_iff_eq.mpr c30; have c30b1 : (t304 != t305) = false := bne_eq_false_iff_eq.mpr c30; clear c30; replace H := oB H; obtain ⟨t306, A310, H⟩ := H; replace H : ((hogsheadref2_May.f kj3 l0).bind fun t307 => (if (t306 == t307) = true then ((tree_Same.f kj3 t292 l1).bind fun t308 => ((hogsheadref2_Same.f kj3 l0 l1).bind fun t309 => (if (t308 == t309) = true then ((tree_Size.f kj3 t292).bind fun t310 => ((hogsheadref2_Size.f kj3 l0).bind fun t311 => (hogsheadlaw2_TreeTells.j1 kj3 l0 t292 t295 (t310 == t311)))) else (hogsheadlaw2_TreeTells.j1 kj3 l0 t292 t295 false)))) else (hogsheadlaw2_TreeTells.j1 kj3 l0 t292 t295 false))) = some true := H; have A31 := am A310; clear A310; replace H := oB H; obtain ⟨t307, A320, H⟩ := H; replace H : (if (t306 == t307) = true then ((tree_Same.f kj3 t292 l1).bind fun t308 => ((hogsheadref2_Same.f kj3 l0 l1).bind fun t309 => (if (t308 == t309) = true then ((tree_Size.f kj3 t292).bind fun t310 => ((hogsheadref2_Size.f kj3 l0).bind fun t311 => (hogsheadlaw2_TreeTells.j1 kj3 l0 t292 t295 (t310 == t311)))) else (hogsheadlaw2_TreeTells.j1 kj3 l0 t292 t295 false)))) else (hogsheadlaw2_TreeTells.j1 kj3 l0 t292 t295 false)) = some true := H; have A32 := am A320; clear A320; by_cases c33 : (t306 == t307) = true
        ·rw [if_pos c33] at H
         have c33b0 : (t306 == t307) = true := c33; (try (have c33b1 : decide (t306 = t307) = true := by simpa using c33))
         (try (have c33b2 : (t306 == t307) = true := by simpa using c33))
         clear c33; replace H := oB H; obtain ⟨t308, A340, H⟩ := H; replace H : ((hogsheadref2_Same.f kj3 l0 l1).bind fun t309 => (if (t308 == t309) = true then ((tree_Size.f kj3 t292).bind fun t310 => ((hogsheadref2_Size.f kj3 l0).bind fun t311 => (hogsheadlaw2_TreeTells.j1 kj3 l0 t292 t295 (t310 == t311)))) else (hogsheadlaw2_TreeTells.j1 kj3 l0 t292 t295 false))) = some true := H; have A34 := am A340; clear A340; replace H := oB H; obtain ⟨t309, A350, H⟩ := H; replace H : (if (t308 == t309) = true then ((tree_Size.f kj3 t292).bind fun t310 => ((hogsheadref2_Size.f kj3 l0).bind fun t311 => (hogsheadlaw2_TreeTells.j1 kj3 l0 t292 t295 (t310 == t311)))) else (hogsheadlaw2_TreeTells.j1 kj3 l0 t292 t295 false)) = some true := H; have A35 := am A350; clear A350; by_cases c36 : (t308 == t309) = true
         ·rw [if_pos c36] at H
          have c36b0 : (t308 == t309) = true := c36; (try (have c36b1 : decide (t308 = t309) = true := by simpa using c36))
          (try (have c36b2 : (t308 == t309) = true := by simpa using c36))
          clear c36; replace H := oB H; obtain ⟨t310, A370, H⟩ := H; replace H : ((hogsheadref2_Size.f kj3 l0).bind fun t311 => (hogsheadlaw2_TreeTells.j1 kj3 l0 t292 t295 (t310 == t311))) = some true := H; have A37 := am A370; clear A370; replace H := oB H; obtain ⟨t311, A380, H⟩ := H; replace H : (hogsheadlaw2_TreeTells.j1 kj3 l0 t292 t295 (t310 == t311)) = some true := H; have A38 := am A380; clear A380; have H' := am H; clear H; try go_wp2
          have n0_ := am (rD HO294.out); have n1_ := am (rD HO297.out); have n2_ := am (kD BK288.out); have n3_ := am (bO HB.out); clear HO294; clear HO297; clear BK288; clear HB; have HO294 := n0_; have HO297 := n1_; have BK288 := n2_; have HB := n3_; clear n0_ n1_ n2_ n3_; refine start_ (n := 42) (S := fun w' => w'.cell? ⟨gb288, 0, none⟩ = some (.string a2_0) ∧ w'.cell? ⟨gb288, 1, none⟩ = some (.int .i64 a2_1) ∧ w'.cell? ⟨gb288, 2, none⟩ = some (.string a2_2)) (ds := []) #[fF,fF,fF,fF,fF,fF,fF,fF,fF,fF,fF,fF,fF,fF,fF,fF,fF,fF,fF,fF,fF,fF,fF,fF,fF,fF,fF,fF,fF,fF,fF,fF,fF,fF,fF,fF,fF,fF,fF,fF,fF,fF] (by kernel_rfl) rfl rfl ⟨(blk_cell BK288.out 0).trans rfl, (blk_cell BK288.out 1).trans rfl, (blk_cell BK288.out 2).trans rfl⟩ (fun hHeld => ?_); refine with_tabW hogsheadlaw2_TreeTells.tab5 hogsheadlaw2_TreeTells.bits5 (fun HT_ HW_ => ?_)
          have n9_ := Aside0.mk (Room.drew RM.out); clear RM; have RM := n9_; clear n9_
          generalize w21.drew = w39 at RM HO294 HO297 BK288 HB hHeld ⊢
          refine pure_ (i := 0) (N := some 33) (v := ?_) (a' := ?_) #[tT,fF,fF,fF,fF,fF,fF,fF,fF,fF,fF,fF,fF,fF,fF,fF,fF,fF,fF,fF,fF,fF,fF,fF,fF,fF,fF,fF,fF,fF,fF,fF,fF,fF,fF,fF,fF,fF,fF,fF,fF,fF] rfl rfl (any_of HT_.out (by kernel_rfl)) (fun _ _ _ h => h) (Or.inl ⟨by rfl, ?_⟩) ?_ ?_
          rotate_left
          ·intro w'
           go_simp
           with_reducible rfl
          rotate_left
          ·simp only [Act.put, sA, sB, sC, i64_w, i32_w]
           rfl
          refine pure_ (i := 1) (N := some 34) (v := ?_) (a' := ?_) #[tT,tT,fF,fF,fF,fF,fF,fF,fF,fF,fF,fF,fF,fF,fF,fF,fF,fF,fF,fF,fF,fF,fF,fF,fF,fF,fF,fF,fF,fF,fF,fF,fF,fF,fF,fF,fF,fF,fF,fF,fF,fF] rfl rfl (any_of HT_.out (by kernel_rfl)) (fun _ _ _ h => h) (Or.inl ⟨by rfl, ?_⟩) ?_ ?_
          rotate_left
          ·intro w'
           go_simp
           with_reducible rfl
          rotate_left
          ·simp only [Act.put, sA, sB, sC, i64_w, i32_w]
           rfl
          refine one_ (i := 2) (N := some 35) #[tT,tT,tT,fF,fF,fF,fF,fF,fF,fF,fF,fF,fF,fF,fF,fF,fF,fF,fF,fF,fF,fF,fF,fF,fF,fF,fF,fF,fF,fF,fF,fF,fF,fF,fF,fF,fF,fF,fF,fF,fF,fF] rfl rfl (one_of HT_.out (by kernel_rfl)) (by decide) (fun K hK => ?_)
          refine goes_ Tryd.func18 (by kernel_rfl) rfl #[.slice A0 l0.length c0] (by rfl) rfl rfl (by (try simp only [mT, mC, mN]); first | done | rfl | (simp only [lD, lT]; rfl)) ?_
          with_reducible refine (hogsheadref2_Sort.calls kj3 _ _ l0 t298 _ ?side1 ?side2 A22.out).mono ?_
          (case side1 => repeat (first | exact (Kd.C_below HR0.out HB.out) | (with_reducible refine cA ?_ _) | (with_reducible refine cN ?_ _) | (with_reducible refine cD ?_)))
          (case side2 => exact HC0.out)
          rintro e w40 ⟨v299, rfl, ho0, hb⟩; refine ⟨_, rfl, ?_⟩
          have n9_ := Aside0.mk (Room.below (by (with_reducible repeat (first | apply Room.alloc | apply Room.drewN | apply Room.drew)); exact RM.out) hb); clear RM; have RM := n9_; clear n9_
          have n0_ := am (Kd.R_elder' (by (with_reducible repeat (first | apply rA | apply rN | apply rD)); exact HO294.out) (Kd.R_base ho0) hb); have n1_ := am (Kd.R_elder' (by (with_reducible repeat (first | apply rA | apply rN | apply rD)); exact HO297.out) (Kd.R_base ho0) hb); have n2_ := am (Kd.R_lower (Kd.R_newB (Kd.R_new' (Kd.R_new' ho0 (Kd.R_lt (by (with_reducible repeat (first | apply rA | apply rN | apply rD)); exact HO294.out))) (Kd.R_lt (by (with_reducible repeat (first | apply rA | apply rN | apply rD)); exact HO297.out))) (g := gb288) (o := .cells #[.string a2_0, .int .i64 a2_1, .string a2_2] 32 (0, 0)) (by (with_reducible repeat (first | refine kN ?_ _ | refine kD ?_ | refine kA ?_ _)); exact BK288.out)) (below_size (by repeat (first | (with_reducible first | exact HB.out | apply bA | apply bN | apply bO | refine below_set ?_ GE288.out) | exact HB.out)))); have n3_ := am (blk_below (g := gb288) (o := .cells #[.string a2_0, .int .i64 a2_1, .string a2_2] 32 (0, 0)) (by (with_reducible repeat (first | refine kN ?_ _ | refine kD ?_ | refine kA ?_ _)); exact BK288.out) hb); have n4_ := am (below_step (by repeat (first | (with_reducible first | exact HB.out | apply bA | apply bN | apply bO | refine below_set ?_ GE288.out) | exact HB.out)) hb); clear HO294
          clear HO297; clear BK288; clear HB; have HO294 := n0_; have HO297 := n1_; have HO300 := n2_; have BK288 := n3_; have HB := n4_; clear n0_ n1_ n2_ n3_ n4_; (try clear ho0); obtain ⟨Ao41, co41, eo41⟩ := Kd.R_slice HO297.out; (first | subst eo41 | (injection eo41 with f1_ f2_ f3_; have f4_ := f1_.symm; have f5_ := f3_.symm; clear f1_ f2_ f3_; subst f4_; subst f5_))
          obtain ⟨Ao42, co42, eo42⟩ := Kd.R_slice HO300.out; (first | subst eo42 | (injection eo42 with f1_ f2_ f3_; have f4_ := f1_.symm; have f5_ := f3_.symm; clear f1_ f2_ f3_; subst f4_; subst f5_))
          refine hK.out _ _ ⟨(blk_cell BK288.out 0).trans rfl, (blk_cell BK288.out 1).trans rfl, (blk_cell BK288.out 2).trans rfl⟩ (fun hHeld => ?_)
          clear hK K; refine norm_ (a' := ?_) ?_ ?_
          rotate_left
          ·show Act.put _ (some 35) _ = _
           simp only [Act.put, sA, sB, sC, i64_w, i32_w]
           rfl
          refine one_ (i := 3) (N := some 36) #[tT,tT,tT,tT,fF,fF,fF,fF,fF,fF,fF,fF,fF,fF,fF,fF,fF,fF,fF,fF,fF,fF,fF,fF,fF,fF,fF,fF,fF,fF,fF,fF,fF,fF,fF,fF,fF,fF,fF,fF,fF,fF] rfl rfl (one_of HT_.out (by kernel_rfl)) (by decide) (fun K hK => ?_)
          refine goes_ Tryd.func12 (by kernel_rfl) rfl #[.slice Ao41 t295.length co41, .slice Ao42 t298.length co42] (by rfl) rfl rfl (by (try simp only [mT, mC, mN]); first | done | rfl | (simp only [lD, lT]; rfl)) ?_
          with_reducible refine (hogsheadlaw0_SameNodes.calls kj3 _ _ t295 _ _ t298 true _ ?side1 ?side2 ?side3 ?side4 A23.out).mono ?_
          (case side1 => repeat (first | exact (Kd.R_reads' HO297.out).2.2 | (with_reducible refine cA ?_ _) | (with_reducible refine cN ?_ _) | (with_reducible refine cD ?_)))
          (case side2 => exact (Kd.R_reads' HO297.out).2.1)
          (case side3 => repeat (first | exact (Kd.R_reads' HO300.out).2.2 | (with_reducible refine cA ?_ _) | (with_reducible refine cN ?_ _) | (with_reducible refine cD ?_)))
          (case side4 => exact (Kd.R_reads' HO300.out).2.1)
          rintro e w' ⟨rfl, ⟨nd, rfl⟩⟩; refine ⟨_, rfl, ?_⟩
          refine hK.out _ _ ⟨(blk_cell BK288.out 0).trans rfl, (blk_cell BK288.out 1).trans rfl, (blk_cell BK288.out 2).trans rfl⟩ (fun hHeld => ?_)
          clear hK K; refine norm_ (a' := ?_) ?_ ?_
          rotate_left
          ·show Act.put _ (some 36) _ = _
           simp only [Act.put, sA, sB, sC, i64_w, i32_w]
           rfl
          refine pure_ (i := 4) (N := some 37) (v := ?_) (a' := ?_) #[tT,tT,tT,tT,tT,fF,fF,fF,fF,fF,fF,fF,fF,fF,fF,fF,fF,fF,fF,fF,fF,fF,fF,fF,fF,fF,fF,fF,fF,fF,fF,fF,fF,fF,fF,fF,fF,fF,fF,fF,fF,fF] rfl rfl (any_of HT_.out (by kernel_rfl)) (fun _ _ _ h => h) (Or.inl ⟨by rfl, ?_⟩) ?_ ?_
          rotate_left
          ·intro w'
           go_simp
           with_reducible rfl
          rotate_left
          ·simp only [Act.put, sA, sB, sC, i64_w, i32_w]
           rfl
          refine take_ (i := 5) (N := some 38) (v := ?_) (a' := ?_) #[tT,tT,tT,tT,tT,tT,fF,fF,fF,fF,fF,fF,fF,fF,fF,fF,fF,fF,fF,fF,fF,fF,fF,fF,fF,fF,fF,fF,fF,fF,fF,fF,fF,fF,fF,fF,fF,fF,fF,fF,fF,fF] rfl rfl (take_ofW HT_.out HW_.out (by kernel_rfl)) (fun _ _ _ h => h) (Or.inl ⟨by rfl, ?_⟩) hHeld ?_ ?_
          rotate_left
          ·rintro w' ⟨s0, s1, s2⟩
           go_simp
           with_reducible rfl
          rotate_left
          ·simp only [Act.put, sA, sB, sC, i64_w, i32_w]
           rfl
          refine take_ (i := 7) (N := some 40) (v := ?_) (a' := ?_) #[tT,tT,tT,tT,tT,tT,fF,tT,fF,fF,fF,fF,fF,fF,fF,fF,fF,fF,fF,fF,fF,fF,fF,fF,fF,fF,fF,fF,fF,fF,fF,fF,fF,fF,fF,fF,fF,fF,fF,fF,fF,fF] rfl rfl (take_ofW HT_.out HW_.out (by kernel_rfl)) (fun _ _ _ h => h) (Or.inl ⟨by rfl, ?_⟩) hHeld ?_ ?_
          rotate_left
          ·rintro w' ⟨s0, s1, s2⟩
           go_simp
           with_reducible rfl
          rotate_left
          ·simp only [Act.put, sA, sB, sC, i64_w, i32_w]
           rfl
          refine one_ (i := 6) (N := some 39) #[tT,tT,tT,tT,tT,tT,tT,tT,fF,fF,fF,fF,fF,fF,fF,fF,fF,fF,fF,fF,fF,fF,fF,fF,fF,fF,fF,fF,fF,fF,fF,fF,fF,fF,fF,fF,fF,fF,fF,fF,fF,fF] rfl rfl (one_of HT_.out (by kernel_rfl)) (by decide) (fun K hK => ?_)
          refine goes_ Tryd.func19 (by kernel_rfl) rfl #[.agg #[.string a2_0, .int .i64 a2_1, .string a2_2]] (by rfl) rfl rfl (by (try simp only [mT, mC, mN]); first | done | rfl | (simp only [lD, lT]; rfl)) ?_
          with_reducible refine (tree_Good.calls kj3 a2_0 a2_1 a2_2 t302 _ A25.out).mono ?_
          rintro e w43 ⟨rfl, hb⟩; refine ⟨_, rfl, ?_⟩
          have n9_ := Aside0.mk (Room.below (by (with_reducible repeat (first | apply Room.alloc | apply Room.drewN | apply Room.drew)); exact RM.out) hb); clear RM; have RM := n9_; clear n9_
          have n0_ := am (Kd.R_below (by (with_reducible repeat (first | apply rA | apply rN | apply rD)); exact HO294.out) hb); have n1_ := am (Kd.R_below (by (with_reducible repeat (first | apply rA | apply rN | apply rD)); exact HO297.out) hb); have n2_ := am (Kd.R_below (by (with_reducible repeat (first | apply rA | apply rN | apply rD)); exact HO300.out) hb); have n3_ := am (blk_below (g := gb288) (o := .cells #[.string a2_0, .int .i64 a2_1, .string a2_2] 32 (0, 0)) (by (with_reducible repeat (first | refine kN ?_ _ | refine kD ?_ | refine kA ?_ _)); exact BK288.out) hb); have n4_ := am (below_step (by repeat (first | (with_reducible first | exact HB.out | apply bA | apply bN | apply bO | refine below_set ?_ GE288.out) | exact HB.out)) hb); clear HO294; clear HO297; clear HO300; clear BK288; clear HB; have HO294 := n0_; have HO297 := n1_; have HO300 := n2_; have BK288 := n3_; have HB := n4_; clear n0_ n1_ n2_ n3_ n4_; refine hK.out _ _ ⟨(blk_cell BK288.out 0).trans rfl, (blk_cell BK288.out 1).trans rfl, (blk_cell BK288.out 2).trans rfl⟩ (fun hHeld => ?_)
          clear hK K; refine norm_ (a' := ?_) ?_ ?_
          rotate_left
          ·show Act.put _ (some 39) _ = _
           simp only [Act.put, sA, sB, sC, i64_w, i32_w]
           rfl
          refine one_ (i := 8) (N := some 41) #[tT,tT,tT,tT,tT,tT,tT,tT,tT,fF,fF,fF,fF,fF,fF,fF,fF,fF,fF,fF,fF,fF,fF,fF,fF,fF,fF,fF,fF,fF,fF,fF,fF,fF,fF,fF,fF,fF,fF,fF,fF,fF] rfl rfl (one_of HT_.out (by kernel_rfl)) (by decide) (fun K hK => ?_)
          refine goes_ Tryd.func20 (by kernel_rfl) rfl #[.agg #[.string a2_0, .int .i64 a2_1, .string a2_2]] (by rfl) rfl rfl (by (try simp only [mT, mC, mN]); first | done | rfl | (simp only [lD, lT]; rfl)) ?_
          with_reducible refine (hogsheadref2_Good.calls kj3 a2_0 a2_1 a2_2 t303 _ A26.out).mono ?_
          rintro e w44 ⟨rfl, hb⟩; refine ⟨_, rfl, ?_⟩
          have n9_ := Aside0.mk (Room.below (by (with_reducible repeat (first | apply Room.alloc | apply Room.drewN | apply Room.drew)); exact RM.out) hb); clear RM; have RM := n9_; clear n9_
          have n0_ := am (Kd.R_below (by (with_reducible repeat (first | apply rA | apply rN | apply rD)); exact HO294.out) hb); have n1_ := am (Kd.R_below (by (with_reducible repeat (first | apply rA | apply rN | apply rD)); exact HO297.out) hb); have n2_ := am (Kd.R_below (by (with_reducible repeat (first | apply rA | apply rN | apply rD)); exact HO300.out) hb); have n3_ := am (blk_below (g := gb288) (o := .cells #[.string a2_0, .int .i64 a2_1, .string a2_2] 32 (0, 0)) (by (with_reducible repeat (first | refine kN ?_ _ | refine kD ?_ | refine kA ?_ _)); exact BK288.out) hb); have n4_ := am (below_step (by repeat (first | (with_reducible first | exact HB.out | apply bA | apply bN | apply bO | refine below_set ?_ GE288.out) | exact HB.out)) hb); clear HO294; clear HO297; clear HO300; clear BK288; clear HB; have HO294 := n0_; have HO297 := n1_; have HO300 := n2_; have BK288 := n3_; have HB := n4_; clear n0_ n1_ n2_ n3_ n4_; refine hK.out _ _ ⟨(blk_cell BK288.out 0).trans rfl, (blk_cell BK288.out 1).trans rfl, (blk_cell BK288.out 2).trans rfl⟩ (fun hHeld => ?_)
          clear hK K; refine norm_ (a' := ?_) ?_ ?_
          rotate_left
          ·show Act.put _ (some 41) _ = _
           simp only [Act.put, sA, sB, sC, i64_w, i32_w]
           rfl
          refine pure_ (i := 9) (N := some 42) (v := ?_) (a' := ?_) #[tT,tT,tT,tT,tT,tT,tT,tT,tT,tT,fF,fF,fF,fF,fF,fF,fF,fF,fF,fF,fF,fF,fF,fF,fF,fF,fF,fF,fF,fF,fF,fF,fF,fF,fF,fF,fF,fF,fF,fF,fF,fF] rfl rfl (any_of HT_.out (by kernel_rfl)) (fun _ _ _ h => h) (Or.inl ⟨by rfl, ?_⟩) ?_ ?_
          rotate_left
          ·intro w'
           go_simp
           with_reducible rfl
          rotate_left
          ·simp only [Act.put, sA, sB, sC, i64_w, i32_w]
           rfl
          refine pure_ (i := 10) (N := some 43) (v := ?_) (a' := ?_) #[tT,tT,tT,tT,tT,tT,tT,tT,tT,tT,tT,fF,fF,fF,fF,fF,fF,fF,fF,fF,fF,fF,fF,fF,fF,fF,fF,fF,fF,fF,fF,fF,fF,fF,fF,fF,fF,fF,fF,fF,fF,fF] rfl rfl (any_of HT_.out (by kernel_rfl)) (fun _ _ _ h => h) (Or.inl ⟨by rfl, ?_⟩) ?_ ?_
          rotate_left
          ·intro w'
           go_simp
           with_reducible rfl
          rotate_left
          ·simp only [Act.put, sA, sB, sC, i64_w, i32_w]
           rfl
          refine pure_ (i := 11) (N := some 44) (v := ?_) (a' := ?_) #[tT,tT,tT,tT,tT,tT,tT,tT,tT,tT,tT,tT,fF,fF,fF,fF,fF,fF,fF,fF,fF,fF,fF,fF,fF,fF,fF,fF,fF,fF,fF,fF,fF,fF,fF,fF,fF,fF,fF,fF,fF,fF] rfl rfl (any_of HT_.out (by kernel_rfl)) (fun _ _ _ h => h) (Or.inl ⟨by rfl, ?_⟩) ?_ ?_
          rotate_left
          ·intro w'
           go_simp
           with_reducible rfl
          rotate_left
          ·simp only [Act.put, sA, sB, sC, i64_w, i32_w]
           rfl
          refine pure_ (i := 12) (N := some 45) (v := ?_) (a' := ?_) #[tT,tT,tT,tT,tT,tT,tT,tT,tT,tT,tT,tT,tT,fF,fF,fF,fF,fF,fF,fF,fF,fF,fF,fF,fF,fF,fF,fF,fF,fF,fF,fF,fF,fF,fF,fF,fF,fF,fF,fF,fF,fF] rfl rfl (any_of HT_.out (by kernel_rfl)) (fun _ _ _ h => h) (Or.inl ⟨by rfl, ?_⟩) ?_ ?_
          rotate_left
          ·intro w'
           go_simp
           with_reducible rfl
          rotate_left
          ·simp only [Act.put, sA, sB, sC, i64_w, i32_w]
           rfl
          refine pure_ (i := 14) (N := some 47) (v := ?_) (a' := ?_) #[tT,tT,tT,tT,tT,tT,tT,tT,tT,tT,tT,tT,tT,fF,tT,fF,fF,fF,fF,fF,fF,fF,fF,fF,fF,fF,fF,fF,fF,fF,fF,fF,fF,fF,fF,fF,fF,fF,fF,fF,fF,fF] rfl rfl (any_of HT_.out (by kernel_rfl)) (fun _ _ _ h => h) (Or.inl ⟨by rfl, ?_⟩) ?_ ?_
          rotate_left
          ·intro w'
           go_simp
           with_reducible rfl
          rotate_left
          ·simp only [Act.put, sA, sB, sC, i64_w, i32_w]
           rfl
          refine one_ (i := 13) (N := some 46) #[tT,tT,tT,tT,tT,tT,tT,tT,tT,tT,tT,tT,tT,tT,tT,fF,fF,fF,fF,fF,fF,fF,fF,fF,fF,fF,fF,fF,fF,fF,fF,fF,fF,fF,fF,fF,fF,fF,fF,fF,fF,fF] rfl rfl (one_of HT_.out (by kernel_rfl)) (by decide) (fun K hK => ?_)
          refine goes_ Tryd.func21 (by kernel_rfl) rfl #[.slice Ao20 t292.length co20] (by rfl) rfl rfl (by (try simp only [mT, mC, mN]); first | done | rfl | (simp only [lD, lT]; rfl)) ?_
          with_reducible refine (tree_Bad.calls kj3 _ _ t292 t304 _ ?side1 ?side2 A28.out).mono ?_
          (case side1 => repeat (first | exact (Kd.R_reads' HO294.out).2.2 | (with_reducible refine cA ?_ _) | (with_reducible refine cN ?_ _) | (with_reducible refine cD ?_)))
          (case side2 => exact (Kd.R_reads' HO294.out).2.1)
          rintro e w45 ⟨rfl, hb⟩; refine ⟨_, rfl, ?_⟩
          have n9_ := Aside0.mk (Room.below (by (with_reducible repeat (first | apply Room.alloc | apply Room.drewN | apply Room.drew)); exact RM.out) hb); clear RM; have RM := n9_; clear n9_
          have n0_ := am (Kd.R_below (by (with_reducible repeat (first | apply rA | apply rN | apply rD)); exact HO294.out) hb); have n1_ := am (Kd.R_below (by (with_reducible repeat (first | apply rA | apply rN | apply rD)); exact HO297.out) hb); have n2_ := am (Kd.R_below (by (with_reducible repeat (first | apply rA | apply rN | apply rD)); exact HO300.out) hb); have n3_ := am (blk_below (g := gb288) (o := .cells #[.string a2_0, .int .i64 a2_1, .string a2_2] 32 (0, 0)) (by (with_reducible repeat (first | refine kN ?_ _ | refine kD ?_ | refine kA ?_ _)); exact BK288.out) hb); have n4_ := am (below_step (by repeat (first | (with_reducible first | exact HB.out | apply bA | apply bN | apply bO | refine below_set ?_ GE288.out) | exact HB.out)) hb); clear HO294; clear HO297; clear HO300; clear BK288; clear HB; have HO294 := n0_; have HO297 := n1_; have HO300 := n2_; have BK288 := n3_; have HB := n4_; clear n0_ n1_ n2_ n3_ n4_; refine hK.out _ _ ⟨(blk_cell BK288.out 0).trans rfl, (blk_cell BK288.out 1).trans rfl, (blk_cell BK288.out 2).trans rfl⟩ (fun hHeld => ?_)
          clear hK K; refine norm_ (a' := ?_) ?_ ?_
          rotate_left
          ·show Act.put _ (some 46) _ = _
           simp only [Act.put, sA, sB, sC, i64_w, i32_w]
           rfl
          refine one_ (i := 15) (N := some 48) #[tT,tT,tT,tT,tT,tT,tT,tT,tT,tT,tT,tT,tT,tT,tT,tT,fF,fF,fF,fF,fF,fF,fF,fF,fF,fF,fF,fF,fF,fF,fF,fF,fF,fF,fF,fF,fF,fF,fF,fF,fF,fF] rfl rfl (one_of HT_.out (by kernel_rfl)) (by decide) (fun K hK => ?_)
          refine goes_ Tryd.func22 (by kernel_rfl) rfl #[.slice A0 l0.length c0] (by rfl) rfl rfl (by (try simp only [mT, mC, mN]); first | done | rfl | (simp only [lD, lT]; rfl)) ?_
          with_reducible refine (hogsheadref2_Bad.calls kj3 _ _ l0 t305 _ ?side1 ?side2 A29.out).mono ?_
          (case side1 => repeat (first | exact (Kd.C_below HR0.out HB.out) | (with_reducible refine cA ?_ _) | (with_reducible refine cN ?_ _) | (with_reducible refine cD ?_)))
          (case side2 => exact HC0.out)
          rintro e w46 ⟨rfl, hb⟩; refine ⟨_, rfl, ?_⟩
          have n9_ := Aside0.mk (Room.below (by (with_reducible repeat (first | apply Room.alloc | apply Room.drewN | apply Room.drew)); exact RM.out) hb); clear RM; have RM := n9_; clear n9_
          have n0_ := am (Kd.R_below (by (with_reducible repeat (first | apply rA | apply rN | apply rD)); exact HO294.out) hb); have n1_ := am (Kd.R_below (by (with_reducible repeat (first | apply rA | apply rN | apply rD)); exact HO297.out) hb); have n2_ := am (Kd.R_below (by (with_reducible repeat (first | apply rA | apply rN | apply rD)); exact HO300.out) hb); have n3_ := am (blk_below (g := gb288) (o := .cells #[.string a2_0, .int .i64 a2_1, .string a2_2] 32 (0, 0)) (by (with_reducible repeat (first | refine kN ?_ _ | refine kD ?_ | refine kA ?_ _)); exact BK288.out) hb); have n4_ := am (below_step (by repeat (first | (with_reducible first | exact HB.out | apply bA | apply bN | apply bO | refine below_set ?_ GE288.out) | exact HB.out)) hb); clear HO294; clear HO297; clear HO300; clear BK288; clear HB; have HO294 := n0_; have HO297 := n1_; have HO300 := n2_; have BK288 := n3_; have HB := n4_; clear n0_ n1_ n2_ n3_ n4_; refine hK.out _ _ ⟨(blk_cell BK288.out 0).trans rfl, (blk_cell BK288.out 1).trans rfl, (blk_cell BK288.out 2).trans rfl⟩ (fun hHeld => ?_)
          clear hK K; refine norm_ (a' := ?_) ?_ ?_
          rotate_left
          ·show Act.put _ (some 48) _ = _
           simp only [Act.put, sA, sB, sC, i64_w, i32_w]
           rfl
          refine pure_ (i := 16) (N := some 49) (v := ?_) (a' := ?_) #[tT,tT,tT,tT,tT,tT,tT,tT,tT,tT,tT,tT,tT,tT,tT,tT,tT,fF,fF,fF,fF,fF,fF,fF,fF,fF,fF,fF,fF,fF,fF,fF,fF,fF,fF,fF,fF,fF,fF,fF,fF,fF] rfl rfl (any_of HT_.out (by kernel_rfl)) (fun _ _ _ h => h) (Or.inl ⟨by rfl, ?_⟩) ?_ ?_
          rotate_left
          ·intro w'
           go_simp
           with_reducible rfl
          rotate_left
          ·simp only [Act.put, sA, sB, sC, i64_w, i32_w]
           rfl
          refine pure_ (i := 17) (N := some 50) (v := ?_) (a' := ?_) #[tT,tT,tT,tT,tT,tT,tT,tT,tT,tT,tT,tT,tT,tT,tT,tT,tT,tT,fF,fF,fF,fF,fF,fF,fF,fF,fF,fF,fF,fF,fF,fF,fF,fF,fF,fF,fF,fF,fF,fF,fF,fF] rfl rfl (any_of HT_.out (by kernel_rfl)) (fun _ _ _ h => h) (Or.inl ⟨by rfl, ?_⟩) ?_ ?_
          rotate_left
          ·intro w'
           go_simp
           with_reducible rfl
          rotate_left
          ·simp only [Act.put, sA, sB, sC, i64_w, i32_w]
           rfl
          refine pure_ (i := 18) (N := some 51) (v := ?_) (a' := ?_) #[tT,tT,tT,tT,tT,tT,tT,tT,tT,tT,tT,tT,tT,tT,tT,tT,tT,tT,tT,fF,fF,fF,fF,fF,fF,fF,fF,fF,fF,fF,fF,fF,fF,fF,fF,fF,fF,fF,fF,fF,fF,fF] rfl rfl (any_of HT_.out (by kernel_rfl)) (fun _ _ _ h => h) (Or.inl ⟨by rfl, ?_⟩) ?_ ?_
          rotate_left
          ·intro w'
           go_simp
           with_reducible rfl
          rotate_left
          ·simp only [Act.put, sA, sB, sC, i64_w, i32_w]
           rfl
          refine pure_ (i := 19) (N := some 52) (v := ?_) (a' := ?_) #[tT,tT,tT,tT,tT,tT,tT,tT,tT,tT,tT,tT,tT,tT,tT,tT,tT,tT,tT,tT,fF,fF,fF,fF,fF,fF,fF,fF,fF,fF,fF,fF,fF,fF,fF,fF,fF,fF,fF,fF,fF,fF] rfl rfl (any_of HT_.out (by kernel_rfl)) (fun _ _ _ h => h) (Or.inl ⟨by rfl, ?_⟩) ?_ ?_
          rotate_left
          ·intro w'
           go_simp
           with_reducible rfl
          rotate_left
          ·simp only [Act.put, sA, sB, sC, i64_w, i32_w]
           rfl
          refine pure_ (i := 21) (N := some 54) (v := ?_) (a' := ?_) #[tT,tT,tT,tT,tT,tT,tT,tT,tT,tT,tT,tT,tT,tT,tT,tT,tT,tT,tT,tT,fF,tT,fF,fF,fF,fF,fF,fF,fF,fF,fF,fF,fF,fF,fF,fF,fF,fF,fF,fF,fF,fF] rfl rfl (any_of HT_.out (by kernel_rfl)) (fun _ _ _ h => h) (Or.inl ⟨by rfl, ?_⟩) ?_ ?_
          rotate_left
          ·intro w'
           go_simp
           with_reducible rfl
          rotate_left
          ·simp only [Act.put, sA, sB, sC, i64_w, i32_w]
           rfl
          refine one_ (i := 20) (N := some 53) #[tT,tT,tT,tT,tT,tT,tT,tT,tT,tT,tT,tT,tT,tT,tT,tT,tT,tT,tT,tT,tT,tT,fF,fF,fF,fF,fF,fF,fF,fF,fF,fF,fF,fF,fF,fF,fF,fF,fF,fF,fF,fF] rfl rfl (one_of HT_.out (by kernel_rfl)) (by decide) (fun K hK => ?_)
          refine goes_ Tryd.func14 (by kernel_rfl) rfl #[.slice Ao20 t292.length co20] (by rfl) rfl rfl (by (try simp only [mT, mC, mN]); first | done | rfl | (simp only [lD, lT]; rfl)) ?_
          with_reducible refine (tree_May.calls kj3 _ _ t292 t306 _ ?side1 ?side2 A31.out).mono ?_
          (case side1 => repeat (first | exact (Kd.R_reads' HO294.out).2.2 | (with_reducible refine cA ?_ _) | (with_reducible refine cN ?_ _) | (with_reducible refine cD ?_)))
          (case side2 => exact (Kd.R_reads' HO294.out).2.1)
          rintro e w47 ⟨rfl, hb⟩; refine ⟨_, rfl, ?_⟩
          have n9_ := Aside0.mk (Room.below (by (with_reducible repeat (first | apply Room.alloc | apply Room.drewN | apply Room.drew)); exact RM.out) hb); clear RM; have RM := n9_; clear n9_
          have n0_ := am (Kd.R_below (by (with_reducible repeat (first | apply rA | apply rN | apply rD)); exact HO294.out) hb); have n1_ := am (Kd.R_below (by (with_reducible repeat (first | apply rA | apply rN | apply rD)); exact HO297.out) hb); have n2_ := am (Kd.R_below (by (with_reducible repeat (first | apply rA | apply rN | apply rD)); exact HO300.out) hb); have n3_ := am (blk_below (g := gb288) (o := .cells #[.string a2_0, .int .i64 a2_1, .string a2_2] 32 (0, 0)) (by (with_reducible repeat (first | refine kN ?_ _ | refine kD ?_ | refine kA ?_ _)); exact BK288.out) hb); have n4_ := am (below_step (by repeat (first | (with_reducible first | exact HB.out | apply bA | apply bN | apply bO | refine below_set ?_ GE288.out) | exact HB.out)) hb); clear HO294; clear HO297; clear HO300; clear BK288; clear HB; have HO294 := n0_; have HO297 := n1_; have HO300 := n2_; have BK288 := n3_; have HB := n4_; clear n0_ n1_ n2_ n3_ n4_; refine hK.out _ _ ⟨(blk_cell BK288.out 0).trans rfl, (blk_cell BK288.out 1).trans rfl, (blk_cell BK288.out 2).trans rfl⟩ (fun hHeld => ?_)
          clear hK K; refine norm_ (a' := ?_) ?_ ?_
          rotate_left
          ·show Act.put _ (some 53) _ = _
           simp only [Act.put, sA, sB, sC, i64_w, i32_w]
           rfl
          refine one_ (i := 22) (N := some 55) #[tT,tT,tT,tT,tT,tT,tT,tT,tT,tT,tT,tT,tT,tT,tT,tT,tT,tT,tT,tT,tT,tT,tT,fF,fF,fF,fF,fF,fF,fF,fF,fF,fF,fF,fF,fF,fF,fF,fF,fF,fF,fF] rfl rfl (one_of HT_.out (by kernel_rfl)) (by decide) (fun K hK => ?_)
          refine goes_ Tryd.func23 (by kernel_rfl) rfl #[.slice A0 l0.length c0] (by rfl) rfl rfl (by (try simp only [mT, mC, mN]); first | done | rfl | (simp only [lD, lT]; rfl)) ?_
          with_reducible refine (hogsheadref2_May.calls kj3 _ _ l0 t307 _ ?side1 ?side2 A32.out).mono ?_
          (case side1 => repeat (first | exact (Kd.C_below HR0.out HB.out) | (with_reducible refine cA ?_ _) | (with_reducible refine cN ?_ _) | (with_reducible refine cD ?_)))
          (case side2 => exact HC0.out)
          rintro e w48 ⟨rfl, hb⟩; refine ⟨_, rfl, ?_⟩
          have n9_ := Aside0.mk (Room.below (by (with_reducible repeat (first | apply Room.alloc | apply Room.drewN | apply Room.drew)); exact RM.out) hb); clear RM; have RM := n9_; clear n9_
          have n0_ := am (Kd.R_below (by (with_reducible repeat (first | apply rA | apply rN | apply rD)); exact HO294.out) hb); have n1_ := am (Kd.R_below (by (with_reducible repeat (first | apply rA | apply rN | apply rD)); exact HO297.out) hb); have n2_ := am (Kd.R_below (by (with_reducible repeat (first | apply rA | apply rN | apply rD)); exact HO300.out) hb); have n3_ := am (blk_below (g := gb288) (o := .cells #[.string a2_0, .int .i64 a2_1, .string a2_2] 32 (0, 0)) (by (with_reducible repeat (first | refine kN ?_ _ | refine kD ?_ | refine kA ?_ _)); exact BK288.out) hb); have n4_ := am (below_step (by repeat (first | (with_reducible first | exact HB.out | apply bA | apply bN | apply bO | refine below_set ?_ GE288.out) | exact HB.out)) hb); clear HO294; clear HO297; clear HO300; clear BK288; clear HB; have HO294 := n0_; have HO297 := n1_; have HO300 := n2_; have BK288 := n3_; have HB := n4_; clear n0_ n1_ n2_ n3_ n4_; refine hK.out _ _ ⟨(blk_cell BK288.out 0).trans rfl, (blk_cell BK288.out 1).trans rfl, (blk_cell BK288.out 2).trans rfl⟩ (fun hHeld => ?_)
          clear hK K; refine norm_ (a' := ?_) ?_ ?_
          rotate_left
          ·show Act.put _ (some 55) _ = _
           simp only [Act.put, sA, sB, sC, i64_w, i32_w]
           rfl
          refine pure_ (i := 23) (N := some 56) (v := ?_) (a' := ?_) #[tT,tT,tT,tT,tT,tT,tT,tT,tT,tT,tT,tT,tT,tT,tT,tT,tT,tT,tT,tT,tT,tT,tT,tT,fF,fF,fF,fF,fF,fF,fF,fF,fF,fF,fF,fF,fF,fF,fF,fF,fF,fF] rfl rfl (any_of HT_.out (by kernel_rfl)) (fun _ _ _ h => h) (Or.inl ⟨by rfl, ?_⟩) ?_ ?_
          rotate_left
          ·intro w'
           go_simp
           with_reducible rfl
          rotate_left
          ·simp only [Act.put, sA, sB, sC, i64_w, i32_w]
           rfl
          refine pure_ (i := 24) (N := some 57) (v := ?_) (a' := ?_) #[tT,tT,tT,tT,tT,tT,tT,tT,tT,tT,tT,tT,tT,tT,tT,tT,tT,tT,tT,tT,tT,tT,tT,tT,tT,fF,fF,fF,fF,fF,fF,fF,fF,fF,fF,fF,fF,fF,fF,fF,fF,fF] rfl rfl (any_of HT_.out (by kernel_rfl)) (fun _ _ _ h => h) (Or.inl ⟨by rfl, ?_⟩) ?_ ?_
          rotate_left
          ·intro w'
           go_simp
           with_reducible rfl
          rotate_left
          ·simp only [Act.put, sA, sB, sC, i64_w, i32_w]
           rfl
          refine pure_ (i := 25) (N := some 58) (v := ?_) (a' := ?_) #[tT,tT,tT,tT,tT,tT,tT,tT,tT,tT,tT,tT,tT,tT,tT,tT,tT,tT,tT,tT,tT,tT,tT,tT,tT,tT,fF,fF,fF,fF,fF,fF,fF,fF,fF,fF,fF,fF,fF,fF,fF,fF] rfl rfl (any_of HT_.out (by kernel_rfl)) (fun _ _ _ h => h) (Or.inl ⟨by rfl, ?_⟩) ?_ ?_
          rotate_left
          ·intro w'
           go_simp
           with_reducible rfl
          rotate_left
          ·simp only [Act.put, sA, sB, sC, i64_w, i32_w]
           rfl
          refine pure_ (i := 26) (N := some 59) (v := ?_) (a' := ?_) #[tT,tT,tT,tT,tT,tT,tT,tT,tT,tT,tT,tT,tT,tT,tT,tT,tT,tT,tT,tT,tT,tT,tT,tT,tT,tT,tT,fF,fF,fF,fF,fF,fF,fF,fF,fF,fF,fF,fF,fF,fF,fF] rfl rfl (any_of HT_.out (by kernel_rfl)) (fun _ _ _ h => h) (Or.inl ⟨by rfl, ?_⟩) ?_ ?_
          rotate_left
          ·intro w'
           go_simp
           with_reducible rfl
          rotate_left
          ·simp only [Act.put, sA, sB, sC, i64_w, i32_w]
           rfl
          refine pure_ (i := 27) (N := some 60) (v := ?_) (a' := ?_) #[tT,tT,tT,tT,tT,tT,tT,tT,tT,tT,tT,tT,tT,tT,tT,tT,tT,tT,tT,tT,tT,tT,tT,tT,tT,tT,tT,tT,fF,fF,fF,fF,fF,fF,fF,fF,fF,fF,fF,fF,fF,fF] rfl rfl (any_of HT_.out (by kernel_rfl)) (fun _ _ _ h => h) (Or.inl ⟨by rfl, ?_⟩) ?_ ?_
          rotate_left
          ·intro w'
           go_simp
           with_reducible rfl
          rotate_left
          ·simp only [Act.put, sA, sB, sC, i64_w, i32_w]
           rfl
          refine pure_ (i := 29) (N := some 62) (v := ?_) (a' := ?_) #[tT,tT,tT,tT,tT,tT,tT,tT,tT,tT,tT,tT,tT,tT,tT,tT,tT,tT,tT,tT,tT,tT,tT,tT,tT,tT,tT,tT,fF,tT,fF,fF,fF,fF,fF,fF,fF,fF,fF,fF,fF,fF] rfl rfl (any_of HT_.out (by kernel_rfl)) (fun _ _ _ h => h) (Or.inl ⟨by rfl, ?_⟩) ?_ ?_
          rotate_left
          ·intro w'
           go_simp
           with_reducible rfl
          rotate_left
          ·simp only [Act.put, sA, sB, sC, i64_w, i32_w]
           rfl
          refine pure_ (i := 30) (N := some 63) (v := ?_) (a' := ?_) #[tT,tT,tT,tT,tT,tT,tT,tT,tT,tT,tT,tT,tT,tT,tT,tT,tT,tT,tT,tT,tT,tT,tT,tT,tT,tT,tT,tT,fF,tT,tT,fF,fF,fF,fF,fF,fF,fF,fF,fF,fF,fF] rfl rfl (any_of HT_.out (by kernel_rfl)) (fun _ _ _ h => h) (Or.inl ⟨by rfl, ?_⟩) ?_ ?_
          rotate_left
          ·intro w'
           go_simp
           with_reducible rfl
          rotate_left
          ·simp only [Act.put, sA, sB, sC, i64_w, i32_w]
           rfl
          refine one_ (i := 28) (N := some 61) #[tT,tT,tT,tT,tT,tT,tT,tT,tT,tT,tT,tT,tT,tT,tT,tT,tT,tT,tT,tT,tT,tT,tT,tT,tT,tT,tT,tT,tT,tT,tT,fF,fF,fF,fF,fF,fF,fF,fF,fF,fF,fF] rfl rfl (one_of HT_.out (by kernel_rfl)) (by decide) (fun K hK => ?_)
          refine goes_ Tryd.func24 (by kernel_rfl) rfl #[.slice Ao20 t292.length co20, .slice A1 l1.length c1] (by rfl) rfl rfl (by (try simp only [mT, mC, mN]); first | done | rfl | (simp only [lD, lT]; rfl)) ?_
          with_reducible refine (tree_Same.calls kj3 _ _ t292 _ _ l1 t308 _ ?side1 ?side2 ?side3 ?side4 A34.out).mono ?_
          (case side1 => repeat (first | exact (Kd.R_reads' HO294.out).2.2 | (with_reducible refine cA ?_ _) | (with_reducible refine cN ?_ _) | (with_reducible refine cD ?_)))
          (case side2 => exact (Kd.R_reads' HO294.out).2.1)
          (case side3 => repeat (first | exact (Kd.C_below HR1.out HB.out) | (with_reducible refine cA ?_ _) | (with_reducible refine cN ?_ _) | (with_reducible refine cD ?_)))
          (case side4 => exact HC1.out)
          rintro e w' ⟨rfl, ⟨nd, rfl⟩⟩; refine ⟨_, rfl, ?_⟩
          refine hK.out _ _ ⟨(blk_cell BK288.out 0).trans rfl, (blk_cell BK288.out 1).trans rfl, (blk_cell BK288.out 2).trans rfl⟩ (fun hHeld => ?_)
          clear hK K; refine norm_ (a' := ?_) ?_ ?_
          rotate_left
          ·show Act.put _ (some 61) _ = _
           simp only [Act.put, sA, sB, sC, i64_w, i32_w]
           rfl
          refine one_ (i := 31) (N := some 64) #[tT,tT,tT,tT,tT,tT,tT,tT,tT,tT,tT,tT,tT,tT,tT,tT,tT,tT,tT,tT,tT,tT,tT,tT,tT,tT,tT,tT,tT,tT,tT,tT,fF,fF,fF,fF,fF,fF,fF,fF,fF,fF] rfl rfl (one_of HT_.out (by kernel_rfl)) (by decide) (fun K hK => ?_)
          refine goes_ Tryd.func25 (by kernel_rfl) rfl #[.slice A0 l0.length c0, .slice A1 l1.length c1] (by rfl) rfl rfl (by (try simp only [mT, mC, mN]); first | done | rfl | (simp only [lD, lT]; rfl)) ?_
          with_reducible refine (hogsheadref2_Same.calls kj3 _ _ l0 _ _ l1 t309 _ ?side1 ?side2 ?side3 ?side4 A35.out).mono ?_
          (case side1 => repeat (first | exact (Kd.C_below HR0.out (by repeat (first | (with_reducible first | exact HB.out | apply bA | apply bN | apply bO | refine below_set ?_ GE288.out) | exact HB.out))) | (with_reducible refine cA ?_ _) | (with_reducible refine cN ?_ _) | (with_reducible refine cD ?_)))
          (case side2 => exact HC0.out)
          (case side3 => repeat (first | exact (Kd.C_below HR1.out (by repeat (first | (with_reducible first | exact HB.out | apply bA | apply bN | apply bO | refine below_set ?_ GE288.out) | exact HB.out))) | (with_reducible refine cA ?_ _) | (with_reducible refine cN ?_ _) | (with_reducible refine cD ?_)))
          (case side4 => exact HC1.out)
          rintro e w' ⟨rfl, ⟨nd, rfl⟩⟩; refine ⟨_, rfl, ?_⟩
          refine hK.out _ _ ⟨(blk_cell BK288.out 0).trans rfl, (blk_cell BK288.out 1).trans rfl, (blk_cell BK288.out 2).trans rfl⟩ (fun hHeld => ?_)
          clear hK K; refine norm_ (a' := ?_) ?_ ?_
          rotate_left
          ·show Act.put _ (some 64) _ = _
           simp only [Act.put, sA, sB, sC, i64_w, i32_w]
           rfl
          refine pure_ (i := 32) (N := some 65) (v := ?_) (a' := ?_) #[tT,tT,tT,tT,tT,tT,tT,tT,tT,tT,tT,tT,tT,tT,tT,tT,tT,tT,tT,tT,tT,tT,tT,tT,tT,tT,tT,tT,tT,tT,tT,tT,tT,fF,fF,fF,fF,fF,fF,fF,fF,fF] rfl rfl (any_of HT_.out (by kernel_rfl)) (fun _ _ _ h => h) (Or.inl ⟨by rfl, ?_⟩) ?_ ?_
          rotate_left
          ·intro w'
           go_simp
           with_reducible rfl
          rotate_left
          ·simp only [Act.put, sA, sB, sC, i64_w, i32_w]
           rfl
          refine pure_ (i := 33) (N := some 66) (v := ?_) (a' := ?_) #[tT,tT,tT,tT,tT,tT,tT,tT,tT,tT,tT,tT,tT,tT,tT,tT,tT,tT,tT,tT,tT,tT,tT,tT,tT,tT,tT,tT,tT,tT,tT,tT,tT,tT,fF,fF,fF,fF,fF,fF,fF,fF] rfl rfl (any_of HT_.out (by kernel_rfl)) (fun _ _ _ h => h) (Or.inl ⟨by rfl, ?_⟩) ?_ ?_
          rotate_left
          ·intro w'
           go_simp
           with_reducible rfl
          rotate_left
          ·simp only [Act.put, sA, sB, sC, i64_w, i32_w]
           rfl
          refine pure_ (i := 34) (N := some 67) (v := ?_) (a' := ?_) #[tT,tT,tT,tT,tT,tT,tT,tT,tT,tT,tT,tT,tT,tT,tT,tT,tT,tT,tT,tT,tT,tT,tT,tT,tT,tT,tT,tT,tT,tT,tT,tT,tT,tT,tT,fF,fF,fF,fF,fF,fF,fF] rfl rfl (any_of HT_.out (by kernel_rfl)) (fun _ _ _ h => h) (Or.inl ⟨by rfl, ?_⟩) ?_ ?_
          rotate_left
          ·intro w'
           go_simp
           with_reducible rfl
          rotate_left
          ·simp only [Act.put, sA, sB, sC, i64_w, i32_w]
           rfl
          refine pure_ (i := 35) (N := some 68) (v := ?_) (a' := ?_) #[tT,tT,tT,tT,tT,tT,tT,tT,tT,tT,tT,tT,tT,tT,tT,tT,tT,tT,tT,tT,tT,tT,tT,tT,tT,tT,tT,tT,tT,tT,tT,tT,tT,tT,tT,tT,fF,fF,fF,fF,fF,fF] rfl rfl (any_of HT_.out (by kernel_rfl)) (fun _ _ _ h => h) (Or.inl ⟨by rfl, ?_⟩) ?_ ?_
          rotate_left
          ·intro w'
           go_simp
           with_reducible rfl
          rotate_left
          ·simp only [Act.put, sA, sB, sC, i64_w, i32_w]
           rfl
          refine pure_ (i := 37) (N := some 70) (v := ?_) (a' := ?_) #[tT,tT,tT,tT,tT,tT,tT,tT,tT,tT,tT,tT,tT,tT,tT,tT,tT,tT,tT,tT,tT,tT,tT,tT,tT,tT,tT,tT,tT,tT,tT,tT,tT,tT,tT,tT,fF,tT,fF,fF,fF,fF] rfl rfl (any_of HT_.out (by kernel_rfl)) (fun _ _ _ h => h) (Or.inl ⟨by rfl, ?_⟩) ?_ ?_
          rotate_left
          ·intro w'
           go_simp
           with_reducible rfl
          rotate_left
          ·simp only [Act.put, sA, sB, sC, i64_w, i32_w]
           rfl
          refine one_ (i := 36) (N := some 69) #[tT,tT,tT,tT,tT,tT,tT,tT,tT,tT,tT,tT,tT,tT,tT,tT,tT,tT,tT,tT,tT,tT,tT,tT,tT,tT,tT,tT,tT,tT,tT,tT,tT,tT,tT,tT,tT,tT,fF,fF,fF,fF] rfl rfl (one_of HT_.out (by kernel_rfl)) (by decide) (fun K hK => ?_)
          refine goes_ Tryd.func16 (by kernel_rfl) rfl #[.slice Ao20 t292.length co20] (by rfl) rfl rfl (by (try simp only [mT, mC, mN]); first | done | rfl | (simp only [lD, lT]; rfl)) ?_
          with_reducible refine (tree_Size.calls kj3 _ _ t292 t310 _ ?side1 ?side2 A37.out).mono ?_
          (case side1 => repeat (first | exact (Kd.R_reads' HO294.out).2.2 | (with_reducible refine cA ?_ _) | (with_reducible refine cN ?_ _) | (with_reducible refine cD ?_)))
          (case side2 => exact (Kd.R_reads' HO294.out).2.1)
          rintro e w49 ⟨rfl, hb⟩; refine ⟨_, rfl, ?_⟩
          have n9_ := Aside0.mk (Room.below (by (with_reducible repeat (first | apply Room.alloc | apply Room.drewN | apply Room.drew)); exact RM.out) hb); clear RM; have RM := n9_; clear n9_
          have n0_ := am (Kd.R_below (by (with_reducible repeat (first | apply rA | apply rN | apply rD)); exact HO294.out) hb); have n1_ := am (Kd.R_below (by (with_reducible repeat (first | apply rA | apply rN | apply rD)); exact HO297.out) hb); have n2_ := am (Kd.R_below (by (with_reducible repeat (first | apply rA | apply rN | apply rD)); exact HO300.out) hb); have n3_ := am (blk_below (g := gb288) (o := .cells #[.string a2_0, .int .i64 a2_1, .string a2_2] 32 (0, 0)) (by (with_reducible repeat (first | refine kN ?_ _ | refine kD ?_ | refine kA ?_ _)); exact BK288.out) hb); have n4_ := am (below_step (by repeat (first | (with_reducible first | exact HB.out | apply bA | apply bN | apply bO | refine below_set ?_ GE288.out) | exact HB.out)) hb); clear HO294; clear HO297; clear HO300; clear BK288; clear HB; have HO294 := n0_; have HO297 := n1_; have HO300 := n2_; have BK288 := n3_; have HB := n4_; clear n0_ n1_ n2_ n3_ n4_; refine hK.out _ _ ⟨(blk_cell BK288.out 0).trans rfl, (blk_cell BK288.out 1).trans rfl, (blk_cell BK288.out 2).trans rfl⟩ (fun hHeld => ?_)
          clear hK K; refine norm_ (a' := ?_) ?_ ?_
          rotate_left
          ·show Act.put _ (some 69) _ = _
           simp only [Act.put, sA, sB, sC, i64_w, i32_w]
           rfl
          refine one_ (i := 38) (N := some 71) #[tT,tT,tT,tT,tT,tT,tT,tT,tT,tT,tT,tT,tT,tT,tT,tT,tT,tT,tT,tT,tT,tT,tT,tT,tT,tT,tT,tT,tT,tT,tT,tT,tT,tT,tT,tT,tT,tT,tT,fF,fF,fF] rfl rfl (one_of HT_.out (by kernel_rfl)) (by decide) (fun K hK => ?_)
          refine goes_ Tryd.func26 (by kernel_rfl) rfl #[.slice A0 l0.length c0] (by rfl) rfl rfl (by (try simp only [mT, mC, mN]); first | done | rfl | (simp only [lD, lT]; rfl)) ?_
          with_reducible refine (hogsheadref2_Size.calls kj3 _ _ l0 t311 _ ?side1 ?side2 A38.out).mono ?_
          (case side1 => repeat (first | exact (Kd.C_below HR0.out HB.out) | (with_reducible refine cA ?_ _) | (with_reducible refine cN ?_ _) | (with_reducible refine cD ?_)))
          (case side2 => exact HC0.out)
          rintro e w' ⟨rfl, ⟨nd, rfl⟩⟩; refine ⟨_, rfl, ?_⟩
          refine hK.out _ _ ⟨(blk_cell BK288.out 0).trans rfl, (blk_cell BK288.out 1).trans rfl, (blk_cell BK288.out 2).trans rfl⟩ (fun hHeld => ?_)
          clear hK K; refine norm_ (a' := ?_) ?_ ?_
          rotate_left
          ·show Act.put _ (some 71) _ = _
           simp only [Act.put, sA, sB, sC, i64_w, i32_w]
           rfl
          refine pure_ (i := 39) (N := some 72) (v := ?_) (a' := ?_) #[tT,tT,tT,tT,tT,tT,tT,tT,tT,tT,tT,tT,tT,tT,tT,tT,tT,tT,tT,tT,tT,tT,tT,tT,tT,tT,tT,tT,tT,tT,tT,tT,tT,tT,tT,tT,tT,tT,tT,tT,fF,fF] rfl rfl (any_of HT_.out (by kernel_rfl)) (fun _ _ _ h => h) (Or.inl ⟨by rfl, ?_⟩) ?_ ?_
          rotate_left
          ·intro w'
           go_simp
           with_reducible rfl
          rotate_left
          ·simp only [Act.put, sA, sB, sC, i64_w, i32_w]
           rfl
          refine pure_ (i := 40) (N := some 73) (v := ?_) (a' := ?_) #[tT,tT,tT,tT,tT,tT,tT,tT,tT,tT,tT,tT,tT,tT,tT,tT,tT,tT,tT,tT,tT,tT,tT,tT,tT,tT,tT,tT,tT,tT,tT,tT,tT,tT,tT,tT,tT,tT,tT,tT,tT,fF] rfl rfl (any_of HT_.out (by kernel_rfl)) (fun _ _ _ h => h) (Or.inl ⟨by rfl, ?_⟩) ?_ ?_
          rotate_left
          ·intro w'
           go_simp
           with_reducible rfl
          rotate_left
          ·simp only [Act.put, sA, sB, sC, i64_w, i32_w]
           rfl
          refine pure_ (i := 41) (N := some 9) (v := ?_) (a' := ?_) #[tT,tT,tT,tT,tT,tT,tT,tT,tT,tT,tT,tT,tT,tT,tT,tT,tT,tT,tT,tT,tT,tT,tT,tT,tT,tT,tT,tT,tT,tT,tT,tT,tT,tT,tT,tT,tT,tT,tT,tT,tT,tT] rfl rfl (any_of HT_.out (by kernel_rfl)) (fun _ _ _ h => h) (Or.inl ⟨by rfl, ?_⟩) ?_ ?_
          rotate_left
          ·intro w'
           go_simp
           with_reducible rfl
          rotate_left
          ·simp only [Act.put, sA, sB, sC, i64_w, i32_w]
           rfl
          refine done_ (done_of HT_.out (by kernel_rfl)) ?_
          try go_wp2
          go_meet; case rel => exact ⟨_, ((t310 == t311)), (by first | rfl | (simp; done) | (simp [*]; done)), H', ⟨by have := HJ3.out; first | omega | exact Nat.le_refl _⟩, ⟨by (with_reducible repeat (first | apply rA | apply rN | apply rD)); exact Kd.R_mono HO294.out (fun _ hk => ⟨hk.1.2, hk.1.1.2⟩)⟩, ⟨by (with_reducible repeat (first | apply rA | apply rN | apply rD)); exact Kd.R_mono HO297.out (fun _ hk => ⟨hk.1.1.2, hk.1.2⟩)⟩, ⟨by (with_reducible repeat (first | refine kN ?_ _ | refine kD ?_ | refine kA ?_ _)); exact BK288.out⟩, ⟨by (with_reducible repeat (first | apply Room.alloc | apply Room.drewN | apply Room.drew)); exact RM.out⟩, ⟨by repeat (first | (with_reducible first | exact HB.out | apply bA | apply bN | apply bO | refine below_set ?_ GE288.out) | exact HB.out)⟩⟩
         ·rw [if_neg c36] at H
          exact absurd H (by cases kj3 <;> simp [hogsheadlaw2_TreeTells.j1, Option.bind_eq_some_iff])
        ·rw [if_neg c33] at H
         exact absurd H (by cases kj3 <;> simp [hogsheadlaw2_TreeTells.j1, Option.bind_eq_some_iff])
       ·rw [if_neg c30] at H
        exact absurd H (by cases kj3 <;> simp [hogsheadlaw2_TreeTells.j1, Option.bind_eq_some_iff])
      ·rw [if_neg c27] at H
       exact absurd H (by cases kj3 <;> simp [hogsheadlaw2_TreeTells.j1, Option.bind_eq_some_iff])
     ·replace c24 := Bool.eq_false_iff.mpr c24
      subst c24; have H1 : (hogsheadlaw2_TreeTells.j1 kj3 l0 t292 t295 false) = some true := by rw [if_neg (show ¬ (false = true) by decide)] at H; exact H
      exact absurd H1 (by cases kj3 <;> simp [hogsheadlaw2_TreeTells.j1, Option.bind_eq_some_iff])
    case rest =>
     clear HC18; (try clear c1); (try clear c2); (try clear p2); (try clear c12); (try clear c18); (try clear c19); (try clear c20); (try clear c24); obtain ⟨kq, x9_17, rfl, HA, HJ17, HO_7, HO_8, BK288, RM, HB⟩ := hcut; cases kq with
     | zero => exact absurd HA.out (by simp [hogsheadlaw2_TreeTells.j1])
     | succ kj17 =>
      have H := HA.out; clear HA; simp only [hogsheadlaw2_TreeTells.j1] at H
      replace H := oB H; obtain ⟨_, A880, H⟩ := H; replace H : (if x9_17 = true then ((hogsheadlaw0_KeptNodes.f kj17 t292 l0).bind fun t312 => (if t312 = true then ((hogsheadlaw2_awake.f kj17).bind fun t313 => (some t313)) else (some false))) else (some false)) = some true := H; have A88 := am A880; clear A880; by_cases c89 : x9_17 = true
      ·subst c89
       have H1 : ((hogsheadlaw0_KeptNodes.f kj17 t292 l0).bind fun t312 => (if t312 = true then ((hogsheadlaw2_awake.f kj17).bind fun t313 => (some t313)) else (some false))) = some true := by rw [if_pos rfl] at H; exact H
       clear H; have H := H1; clear H1; replace H := oB H; obtain ⟨t312, A900, H⟩ := H; replace H : (if t312 = true then ((hogsheadlaw2_awake.f kj17).bind fun t313 => (some t313)) else (some false)) = some true := H; have A90 := am A900; clear A900; by_cases c91 : t312 = true
       ·subst c91
        have H1 : ((hogsheadlaw2_awake.f kj17).bind fun t313 => (some t313)) = some true := by rw [if_pos rfl] at H; exact H
        clear H; have H := H1; clear H1; replace H := oB H; obtain ⟨t313, A920, H⟩ := H; replace H : (some t313) = some true := H; have A92 := am A920; clear A920; obtain rfl := Option.some.inj H; obtain ⟨Ao93, co93, eo93⟩ := Kd.R_slice HO_8.out; subst eo93
        go_wp2_with (first | ((with_reducible refine gate_callee (f := 13) rfl ?_); refine goesL_ (some 75) rfl rfl Tryd.func13 (by kernel_rfl) rfl #[.slice Ao93 t295.length co93] rfl (by (try simp only [mT, mC, mN]); first | done | rfl | (simp only [lD, lT]; rfl)) ?_; (with_reducible refine (hogsheadlaw0_OverNodes.calls kj17 (fun k_ => some k_ = (.slice Ao93 t295.length co93 : Value).ownBlock) (.slice Ao93 t295.length co93) t295  w _ ?side1 ?side2 A88.out).mono ?_); (case side1 => repeat (first | (with_reducible first | exact HB.out | apply bA | apply bN | apply bO | refine below_set ?_ GE288.out) | exact HB.out)); (case side2 => exact Kd.R_tight rfl HO_8.out); rintro e w94 ⟨rfl, hb, hkp⟩; refine ⟨_, rfl, ?_⟩; (try (have n9_ := am (Room.kept (by (with_reducible repeat (first | apply Room.alloc | apply Room.drewN | apply Room.drew)); exact RM.out) hkp (fun k_ hk_ hs_ => by have q_ := HO_8.out.1 k_ hs_.symm; first | exact Room.ne_type RM.out HO_8.out (by decide) k_ hk_ hs_ | exact q_ hk_.symm | exact q_.1 hk_.symm | exact q_.2.1 hk_.symm | exact q_.2.2.1 hk_.symm | exact q_.2.2.2.1 hk_.symm | exact q_.2 hk_.symm | exact q_.2.2 hk_.symm | exact q_.2.2.2 hk_.symm)); clear RM; have RM := n9_; clear n9_)); have n0_ := am (Kd.R_mono (ok' := fun k_ => k_ ≠ gb288) (Kd.R_keptB (HO_7.out) hkp (fun k_ hk_ hs_ => (hk_.1) hs_)) (fun k_ hk_ => hk_.1.2)); have n1_ := am (blk_kept (by (with_reducible repeat (first | refine kN ?_ _ | refine kD ?_ | refine kA ?_ _)); exact BK288.out) hkp (fun hs_ => (fun e_ => (Kd.R_away HO_8.out (fun _ hk => hk.2)) e_) hs_)); have n2_ := am (hb); clear HO_7; clear BK288; clear HB; clear HO_8; have HO_7 := n0_; have BK288 := n1_; have HB := n2_; clear n0_ n1_ n2_; (try clear hb); (try clear hkp)) | (go_at_call 27; (with_reducible refine (hogsheadlaw0_KeptNodes.calls kj17 _ _ t292 _ _ l0 true _ ?side1 ?side2 ?side3 ?side4 A90.out ?sideR).mono ?_); (case sideR => (with_reducible repeat (first | apply Room.alloc | apply Room.drewN | apply Room.drew)); exact RM.out); (case side1 => repeat (first | exact (Kd.R_reads' HO_7.out).2.2 | (with_reducible refine cA ?_ _) | (with_reducible refine cN ?_ _) | (with_reducible refine cD ?_))); (case side2 => exact (Kd.R_reads' HO_7.out).2.1); (case side3 => repeat (first | exact (Kd.C_below HR0.out HB.out) | (with_reducible refine cA ?_ _) | (with_reducible refine cN ?_ _) | (with_reducible refine cD ?_))); (case side4 => exact HC0.out); rintro e w95 ⟨rfl, hb⟩; (try (have n9_ := am (Room.below (by (with_reducible repeat (first | apply Room.alloc | apply Room.drewN | apply Room.drew)); exact RM.out) hb); clear RM; have RM := n9_; clear n9_)); have n0_ := am (Kd.R_below (by (with_reducible repeat (first | apply rA | apply rN | apply rD)); exact HO_7.out) hb); have n1_ := am (blk_below (g := gb288) (o := .cells #[.string a2_0, .int .i64 a2_1, .string a2_2] 32 (0, 0)) (by (with_reducible repeat (first | refine kN ?_ _ | refine kD ?_ | refine kA ?_ _)); exact BK288.out) hb); have n2_ := am (below_step (by repeat (first | (with_reducible first | exact HB.out | apply bA | apply bN | apply bO | refine below_set ?_ GE288.out) | exact HB.out)) hb); clear HO_7; clear BK288; clear HB; have HO_7 := n0_; have BK288 := n1_; have HB := n2_; clear n0_ n1_ n2_) | (go_at_call 7; (with_reducible refine (hogsheadlaw2_awake.calls kj17  true _ A92.out).mono ?_); rintro e w96 ⟨rfl, hb⟩; (try (have n9_ := am (Room.below (by (with_reducible repeat (first | apply Room.alloc | apply Room.drewN | apply Room.drew)); exact RM.out) hb); clear RM; have RM := n9_; clear n9_)); have n0_ := am (Kd.R_below (by (with_reducible repeat (first | apply rA | apply rN | apply rD)); exact HO_7.out) hb); have n1_ := am (blk_below (g := gb288) (o := .cells #[.string a2_0, .int .i64 a2_1, .string a2_2] 32 (0, 0)) (by (with_reducible repeat (first | refine kN ?_ _ | refine kD ?_ | refine kA ?_ _)); exact BK288.out) hb); have n2_ := am (below_step (by repeat (first | (with_reducible first | exact HB.out | apply bA | apply bN | apply bO | refine below_set ?_ GE288.out) | exact HB.out)) hb); clear HO_7; clear BK288; clear HB; have HO_7 := n0_; have BK288 := n1_; have HB := n2_; clear n0_ n1_ n2_))
        go_ret; exact ⟨by first | rfl | (simp [eN, eS] <;> rfl) | (simp [*, eN, eS] <;> rfl), by repeat (first | (with_reducible first | exact HB.out | apply bA | apply bN | apply bO | refine below_set ?_ GE288.out) | exact HB.out)⟩
       ·replace c91 := Bool.eq_false_iff.mpr c91
        subst c91; have H1 : (some false) = some true := by rw [if_neg (show ¬ (false = true) by decide)] at H; exact H
        exact absurd H1 (by simp)
      ·replace c89 := Bool.eq_false_iff.mpr c89
       subst c89; have H1 : (some false) = some true := by rw [if_neg (show ¬ (false = true) by decide)] at H; exact H
       exact absurd H1 (by simp)
/-- The one plain statement of hogsheadlaw2_TreeTells. -/
def hogsheadlaw2_TreeTells.Pure : Prop := ∀ (l0 : List (S32)) (l1 : List (S32)) (x2 : S32), (l0.length ≤ maxLen ∧ ∀ y1 ∈ l0, (y1.f0.size ≤ maxLen) ∧ ((Lit.int .i64 y1.f1).wf = true) ∧ (y1.f2.size ≤ maxLen)) → (l1.length ≤ maxLen ∧ ∀ y1 ∈ l1, (y1.f0.size ≤ maxLen) ∧ ((Lit.int .i64 y1.f1).wf = true) ∧ (y1.f2.size ≤ maxLen)) → ((x2.f0.size ≤ maxLen) ∧ ((Lit.int .i64 x2.f1).wf = true) ∧ (x2.f2.size ≤ maxLen)) → ∃ k, hogsheadlaw2_TreeTells.f k l0 l1 x2.f0 x2.f1 x2.f2 = some true

end Go.Proofs.YtckoggeojokpeaaDoor.P
