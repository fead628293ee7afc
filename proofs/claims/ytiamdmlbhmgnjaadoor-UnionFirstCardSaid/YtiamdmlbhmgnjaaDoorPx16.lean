/- Laid by a program of this session (wip/pr), after the printer of the kit: the functions that a statement reaches as plain Lean functions, and that the calls of the machine come to them. No condition. -/
import Derived.Test.YtiamdmlbhmgnjaaDoorPx0
import Derived.Test.YtiamdmlbhmgnjaaDoorPx1
import Derived.Test.YtiamdmlbhmgnjaaDoorPx10
import Derived.Test.YtiamdmlbhmgnjaaDoorPx13
import Derived.Test.YtiamdmlbhmgnjaaDoorPx14
import Derived.Test.YtiamdmlbhmgnjaaDoorPx15
namespace Go.Proofs.YtiamdmlbhmgnjaaDoor.P
open Go.RowKit Go.Proofs.YtiamdmlbhmgnjaaDoorX Go.Proofs.YtiamdmlbhmgnjaaDoorW.PrintWords Go.Proofs.YtiamdmlbhmgnjaaDoorW.PrintLast Go.Proofs.YtiamdmlbhmgnjaaDoorW.PrintMore
attribute [local go_sem] max2_int min2_int max_two min_two
set_option linter.unusedVariables false
set_option linter.unusedSimpArgs false

attribute [local go_sem high] eqA37
/-! ### hogsheadlaw4_UnionFirst: function 6 -/
mutual
def hogsheadlaw4_UnionFirst.j0 : Nat → List (List (S37)) → Bool → Option (Bool)
 | 0, _, _ => none
 | k + 1, x0, x23 => if x23 = true then ((hogsheadlaw4_awake.f k).bind fun t254 => (some t254)) else ((union_Of.f k 1 x0).bind fun bt255 => (if bt255.2 = 0 then ((tree_May.f k bt255.1).bind fun t261 => (if t261 = true then (hogsheadlaw4_UnionFirst.l0 k x0 bt255.1 0) else (some false))) else (if (bt255.1.length : Int) = 0 then (if bt255.2 = 7 then ((hogsheadlaw4_awake.f k).bind fun t259 => (some t259)) else (if bt255.2 = 3 then ((hogsheadlaw4_awake.f k).bind fun t260 => (some t260)) else (some false))) else (some false))))
def hogsheadlaw4_UnionFirst.l0 : Nat → List (List (S37)) → List (S37) → Int → Option (Bool)
 | 0, _, _, _ => none
 | k + 1, x0, x3, x5 => if 0 < (x0.length : Int) then (if x5 < ((rd_L4 x0 0).length : Int) then (if 0 ≤ x5 then ((find_Lookup.f k x3 ((rd_T37 (rd_L4 x0 0) x5).f0)).bind fun bt265 => (if bt265.2.2.2 = true then (hogsheadlaw4_UnionFirst.j2 k x0 x3 x5 (!(bt265.1.toList == (((rd_T37 (rd_L4 x0 0) x5).f0).toList)) || (!(bt265.2.1 == ((rd_T37 (rd_L4 x0 0) x5).f1)) || (!(bt265.2.2.1.toList == (((rd_T37 (rd_L4 x0 0) x5).f2).toList)))))) else (hogsheadlaw4_UnionFirst.j2 k x0 x3 x5 true))) else (none)) else (hogsheadlaw4_UnionFirst.l1 k x0 x3 0)) else (none)
def hogsheadlaw4_UnionFirst.j2 : Nat → List (List (S37)) → List (S37) → Int → Bool → Option (Bool)
 | 0, _, _, _, _ => none
 | k + 1, x0, x3, x5, x80 => if x80 = true then (some false) else (hogsheadlaw4_UnionFirst.l0 k x0 x3 (wrap64 (x5 + 1)))
def hogsheadlaw4_UnionFirst.l1 : Nat → List (List (S37)) → List (S37) → Int → Option (Bool)
 | 0, _, _, _ => none
 | k + 1, x0, x3, x8 => if x8 < (x3.length : Int) then (hogsheadlaw4_UnionFirst.l2 k x0 x3 x8 false 0) else (if 0 < (x0.length : Int) then ((union_Two.f k 0 (rd_L4 x0 0) (rd_L4 x0 0)).bind fun bt282 => ((union_Two.f k 1 x3 x3).bind fun bt286 => (if bt282.2 = 0 then ((hogsheadlaw0_SameNodes.f k bt282.1 (rd_L4 x0 0)).bind fun t291 => (if t291 = true then (if bt286.2 = 0 then ((hogsheadlaw0_SameNodes.f k bt286.1 x3).bind fun t292 => (if t292 = true then ((hogsheadlaw4_awake.f k).bind fun t293 => (some t293)) else (some false))) else (some false)) else (some false))) else (some false)))) else (none))
def hogsheadlaw4_UnionFirst.l2 : Nat → List (List (S37)) → List (S37) → Int → Bool → Int → Option (Bool)
 | 0, _, _, _, _, _ => none
 | k + 1, x0, x3, x8, x9, x10 => if x10 < (x0.length : Int) then (if 0 ≤ x10 then (if 0 ≤ x8 then (if x8 < (x3.length : Int) then ((find_Lookup.f k (rd_L4 x0 x10) ((rd_T37 x3 x8).f0)).bind fun bt274 => (if x9 = true then (hogsheadlaw4_UnionFirst.l2 k x0 x3 x8 true (wrap64 (x10 + 1))) else (if bt274.2.2.2 = true then (hogsheadlaw4_UnionFirst.l2 k x0 x3 x8 (bt274.1.toList == (((rd_T37 x3 x8).f0).toList) && (bt274.2.1 == ((rd_T37 x3 x8).f1) && (bt274.2.2.1.toList == (((rd_T37 x3 x8).f2).toList)))) (wrap64 (x10 + 1))) else (hogsheadlaw4_UnionFirst.l2 k x0 x3 x8 false (wrap64 (x10 + 1)))))) else (none)) else (none)) else (none)) else (if x9 = true then (hogsheadlaw4_UnionFirst.l1 k x0 x3 (wrap64 (x8 + 1))) else (some false))
end
def hogsheadlaw4_UnionFirst.f (k : Nat) (l0 : List (List (S37))) : Option (Bool) := (hogsheadlaw4_great.f k l0).bind fun t253 => (if t253 = true then (hogsheadlaw4_UnionFirst.j0 k l0 true) else (hogsheadlaw4_UnionFirst.j0 k l0 ((l0.length : Int) == 0)))
theorem hogsheadlaw4_UnionFirst.mono_l : ∀ k, (∀ y0 y1, LeO (hogsheadlaw4_UnionFirst.j0 k y0 y1) (hogsheadlaw4_UnionFirst.j0 (k + 1) y0 y1)) ∧ (∀ y0 y1 y2, LeO (hogsheadlaw4_UnionFirst.l0 k y0 y1 y2) (hogsheadlaw4_UnionFirst.l0 (k + 1) y0 y1 y2)) ∧ (∀ y0 y1 y2 y3, LeO (hogsheadlaw4_UnionFirst.j2 k y0 y1 y2 y3) (hogsheadlaw4_UnionFirst.j2 (k + 1) y0 y1 y2 y3)) ∧ (∀ y0 y1 y2, LeO (hogsheadlaw4_UnionFirst.l1 k y0 y1 y2) (hogsheadlaw4_UnionFirst.l1 (k + 1) y0 y1 y2)) ∧ (∀ y0 y1 y2 y3 y4, LeO (hogsheadlaw4_UnionFirst.l2 k y0 y1 y2 y3 y4) (hogsheadlaw4_UnionFirst.l2 (k + 1) y0 y1 y2 y3 y4))
 | 0 => ⟨fun _ _ r h => by simp [hogsheadlaw4_UnionFirst.j0] at h, fun _ _ _ r h => by simp [hogsheadlaw4_UnionFirst.l0] at h, fun _ _ _ _ r h => by simp [hogsheadlaw4_UnionFirst.j2] at h, fun _ _ _ r h => by simp [hogsheadlaw4_UnionFirst.l1] at h, fun _ _ _ _ _ r h => by simp [hogsheadlaw4_UnionFirst.l2] at h⟩
 | k + 1 => by
  obtain ⟨ih0, ih1, ih2, ih3, ih4⟩ := hogsheadlaw4_UnionFirst.mono_l k; refine ⟨?_, ?_, ?_, ?_, ?_⟩
  ·intro y0 y1
   unfold hogsheadlaw4_UnionFirst.j0
   repeat' with_reducible first | exact ih0 _ _ | exact ih1 _ _ _ | exact ih2 _ _ _ _ | exact ih3 _ _ _ | exact ih4 _ _ _ _ _ | exact find_Lookup.mono _ _ _ | exact union_Two.mono _ _ _ _ | exact hogsheadlaw0_SameNodes.mono _ _ _ | exact hogsheadlaw4_awake.mono _ | exact hogsheadlaw4_great.mono _ _ | exact tree_May.mono _ _ | exact union_Of.mono _ _ _ | exact LeO.refl _ | exact LeO.none _ | refine LeO.ite ?_ ?_ | refine LeO.bind ?_ (fun _ => ?_)
  ·intro y0 y1 y2
   unfold hogsheadlaw4_UnionFirst.l0
   repeat' with_reducible first | exact ih0 _ _ | exact ih1 _ _ _ | exact ih2 _ _ _ _ | exact ih3 _ _ _ | exact ih4 _ _ _ _ _ | exact find_Lookup.mono _ _ _ | exact union_Two.mono _ _ _ _ | exact hogsheadlaw0_SameNodes.mono _ _ _ | exact hogsheadlaw4_awake.mono _ | exact hogsheadlaw4_great.mono _ _ | exact tree_May.mono _ _ | exact union_Of.mono _ _ _ | exact LeO.refl _ | exact LeO.none _ | refine LeO.ite ?_ ?_ | refine LeO.bind ?_ (fun _ => ?_)
  ·intro y0 y1 y2 y3
   unfold hogsheadlaw4_UnionFirst.j2
   repeat' with_reducible first | exact ih0 _ _ | exact ih1 _ _ _ | exact ih2 _ _ _ _ | exact ih3 _ _ _ | exact ih4 _ _ _ _ _ | exact find_Lookup.mono _ _ _ | exact union_Two.mono _ _ _ _ | exact hogsheadlaw0_SameNodes.mono _ _ _ | exact hogsheadlaw4_awake.mono _ | exact hogsheadlaw4_great.mono _ _ | exact tree_May.mono _ _ | exact union_Of.mono _ _ _ | exact LeO.refl _ | exact LeO.none _ | refine LeO.ite ?_ ?_ | refine LeO.bind ?_ (fun _ => ?_)
  ·intro y0 y1 y2
   unfold hogsheadlaw4_UnionFirst.l1
   repeat' with_reducible first | exact ih0 _ _ | exact ih1 _ _ _ | exact ih2 _ _ _ _ | exact ih3 _ _ _ | exact ih4 _ _ _ _ _ | exact find_Lookup.mono _ _ _ | exact union_Two.mono _ _ _ _ | exact hogsheadlaw0_SameNodes.mono _ _ _ | exact hogsheadlaw4_awake.mono _ | exact hogsheadlaw4_great.mono _ _ | exact tree_May.mono _ _ | exact union_Of.mono _ _ _ | exact LeO.refl _ | exact LeO.none _ | refine LeO.ite ?_ ?_ | refine LeO.bind ?_ (fun _ => ?_)
  ·intro y0 y1 y2 y3 y4
   unfold hogsheadlaw4_UnionFirst.l2
   repeat' with_reducible first | exact ih0 _ _ | exact ih1 _ _ _ | exact ih2 _ _ _ _ | exact ih3 _ _ _ | exact ih4 _ _ _ _ _ | exact find_Lookup.mono _ _ _ | exact union_Two.mono _ _ _ _ | exact hogsheadlaw0_SameNodes.mono _ _ _ | exact hogsheadlaw4_awake.mono _ | exact hogsheadlaw4_great.mono _ _ | exact tree_May.mono _ _ | exact union_Of.mono _ _ _ | exact LeO.refl _ | exact LeO.none _ | refine LeO.ite ?_ ?_ | refine LeO.bind ?_ (fun _ => ?_)
theorem hogsheadlaw4_UnionFirst.mono : ∀ a0 k, LeO (hogsheadlaw4_UnionFirst.f k a0) (hogsheadlaw4_UnionFirst.f (k + 1) a0) := by
 intro a0 k; obtain ⟨ih0, ih1, ih2, ih3, ih4⟩ := hogsheadlaw4_UnionFirst.mono_l k; unfold hogsheadlaw4_UnionFirst.f
 repeat' with_reducible first | exact ih0 _ _ | exact ih1 _ _ _ | exact ih2 _ _ _ _ | exact ih3 _ _ _ | exact ih4 _ _ _ _ _ | exact find_Lookup.mono _ _ _ | exact union_Two.mono _ _ _ _ | exact hogsheadlaw0_SameNodes.mono _ _ _ | exact hogsheadlaw4_awake.mono _ | exact hogsheadlaw4_great.mono _ _ | exact tree_May.mono _ _ | exact union_Of.mono _ _ _ | exact LeO.refl _ | exact LeO.none _ | refine LeO.ite ?_ ?_ | refine LeO.bind ?_ (fun _ => ?_)
def hogsheadlaw4_UnionFirst.T12 : Bool × List (List Nat × List Nat) := (true, [([], []), ([0], [0]), ([1], [1]), ([2], [2]), ([2], [2]), ([4, 2], [2, 4]), ([5, 2], [2, 5]), ([2], [2]), ([6, 7, 2], [2, 6, 7]), ([8, 2], [2, 8]), ([3, 9, 2], [2, 3, 9]), ([2, 10], [2, 10])])
def hogsheadlaw4_UnionFirst.B12 : List Nat := [0, 1, 3, 7, 7, 23, 55, 7, 247, 503, 1023, 2047]
theorem hogsheadlaw4_UnionFirst.tab12 : rtab .any (opsOf Tryd.f6 12) = hogsheadlaw4_UnionFirst.T12 := by kernel_rfl
theorem hogsheadlaw4_UnionFirst.bits12 : waitsOk hogsheadlaw4_UnionFirst.T12.2 hogsheadlaw4_UnionFirst.B12 = true := by kernel_rfl
def hogsheadlaw4_UnionFirst.T21 : Bool × List (List Nat × List Nat) := (true, [([], []), ([], []), ([0, 1], [0, 1]), ([2], [2]), ([], []), ([], []), ([4, 5], [4, 5]), ([6], [6]), ([7], [7]), ([3, 8], [3, 8]), ([9], [9]), ([10], [10]), ([10], [10]), ([], []), ([13, 11, 9, 0, 1, 2, 3, 4, 5, 6, 7, 8, 9, 10, 11, 13], [11, 13]), ([12, 14, 0, 1, 2, 3, 4, 5, 6, 7, 8, 9, 10, 11, 12, 13, 14], [12])])
def hogsheadlaw4_UnionFirst.B21 : List Nat := [0, 0, 3, 7, 0, 0, 48, 112, 240, 511, 1023, 2047, 2047, 0, 12287, 32767]
theorem hogsheadlaw4_UnionFirst.tab21 : rtab .any (opsOf Tryd.f6 21) = hogsheadlaw4_UnionFirst.T21 := by kernel_rfl
theorem hogsheadlaw4_UnionFirst.bits21 : waitsOk hogsheadlaw4_UnionFirst.T21.2 hogsheadlaw4_UnionFirst.B21 = true := by kernel_rfl
def hogsheadlaw4_UnionFirst.T22 : Bool × List (List Nat × List Nat) := (true, [([], []), ([0], [0]), ([1], [1]), ([2, 1, 1], [1, 2]), ([3], [3]), ([3], [3]), ([3], [3]), ([5, 6, 3], [3, 5, 6]), ([7, 3], [3, 7]), ([4, 8, 3], [3, 4, 8]), ([3, 9, 1], [1, 3, 9]), ([1, 10], [1, 10]), ([11, 3, 0, 1, 2, 3, 4, 5, 6, 7, 8, 9, 10, 11], [0, 11])])
def hogsheadlaw4_UnionFirst.B22 : List Nat := [0, 1, 3, 7, 15, 15, 15, 111, 239, 511, 1023, 2047, 4095]
theorem hogsheadlaw4_UnionFirst.tab22 : rtab .any (opsOf Tryd.f6 22) = hogsheadlaw4_UnionFirst.T22 := by kernel_rfl
theorem hogsheadlaw4_UnionFirst.bits22 : waitsOk hogsheadlaw4_UnionFirst.T22.2 hogsheadlaw4_UnionFirst.B22 = true := by kernel_rfl
def hogsheadlaw4_UnionFirst.T25 : Bool × List (List Nat × List Nat) := (true, [([], []), ([0], [0]), ([1], [1]), ([], []), ([3], [3]), ([4], [4]), ([2, 5], [2, 5]), ([6], [6]), ([7], [7]), ([8], [8]), ([8], [8]), ([9, 7, 0, 1, 2, 3, 4, 5, 6, 7, 8, 9], [9]), ([10, 11, 0, 1, 2, 3, 4, 5, 6, 7, 8, 9, 10, 11], [10])])
def hogsheadlaw4_UnionFirst.B25 : List Nat := [0, 1, 3, 0, 8, 24, 63, 127, 255, 511, 511, 1023, 4095]
theorem hogsheadlaw4_UnionFirst.tab25 : rtab .any (opsOf Tryd.f6 25) = hogsheadlaw4_UnionFirst.T25 := by kernel_rfl
theorem hogsheadlaw4_UnionFirst.bits25 : waitsOk hogsheadlaw4_UnionFirst.T25.2 hogsheadlaw4_UnionFirst.B25 = true := by kernel_rfl
set_option maxHeartbeats 8000000 in
set_option maxRecDepth 100000 in
theorem hogsheadlaw4_UnionFirst.calls (k : Nat) (A0 : Option Addr) (c0 : Nat) (l0 : List (List (S37))) (r : Bool) (w : World) (hr0 : Kd.C (Kd.slice 37 k37) w A0 l0.length l0) (hc0 : l0.length ≤ c0) (h : hogsheadlaw4_UnionFirst.f k l0 = some true) :
  Calls Tryd.prog 6 #[.slice A0 l0.length c0] w fun e w' => e = .returned (.bool true) ∧ Below w.heap.size w w' := by
 have hu37 := Tryd.underlying37; have HR0 := am hr0; have HC0 := am hc0; clear hr0 hc0; have HB := am (Below.refl w.heap.size w); have H : ((hogsheadlaw4_great.f k l0).bind fun t253 => (if t253 = true then (hogsheadlaw4_UnionFirst.j0 k l0 true) else (hogsheadlaw4_UnionFirst.j0 k l0 ((l0.length : Int) == 0)))) = some true := h; clear h; have HC2 := am H; clear H; go_enter Tryd.func6, Tryd.ntmps6; go_upto_region 1 with (fail)
 go_cut [23] (fun v23 wc => ∃ (kq : Nat) (x23_1 : Bool), v23 = .bool x23_1 ∧ Aside0 (hogsheadlaw4_UnionFirst.j0 kq l0 x23_1 = some true) ∧ Aside0 (kq ≤ k) ∧ Aside0 (Below w.heap.size w wc))
 case first =>
  have H := HC2.out; clear HC2; refine oR H ?_; clear H; intro t253 A3 H; by_cases c4 : t253 = true
  ·subst c4
   have H1 : (hogsheadlaw4_UnionFirst.j0 k l0 true) = some true := by rw [if_pos rfl] at H; exact H
   clear H; have H := H1; clear H1; have H' := am H; clear H; go_wp2_with (first | ((with_reducible refine gate_callee (f := 7) rfl ?_); refine gL (some 18) Tryd.func7 #[.slice A0 l0.length c0] ?_; (with_reducible refine (hogsheadlaw4_great.calls k _ _ l0 true _ ?side1 ?side2 A3.out).mono ?_); (case side1 => exact cz (Kd.C_below HR0.out HB.out)); (case side2 => exact HC0.out); rintro e w' ⟨rfl, ⟨nd, rfl⟩⟩; refine ⟨_, rfl, ?_⟩))
   go_meet; case rel => exact ⟨_, (true), (by first | rfl | (simp; done) | (simp [*]; done)), H', ⟨by first | omega | exact Nat.le_refl _⟩, ⟨bz⟩⟩
  ·replace c4 := Bool.eq_false_iff.mpr c4
   subst c4; have H1 : (hogsheadlaw4_UnionFirst.j0 k l0 ((l0.length : Int) == 0)) = some true := by rw [if_neg (show ¬ (false = true) by decide)] at H; exact H
   clear H; have H := H1; clear H1; have H' := am H; clear H; go_wp2_with (first | ((with_reducible refine gate_callee (f := 7) rfl ?_); refine gL (some 18) Tryd.func7 #[.slice A0 l0.length c0] ?_; (with_reducible refine (hogsheadlaw4_great.calls k _ _ l0 false _ ?side1 ?side2 A3.out).mono ?_); (case side1 => exact cz (Kd.C_below HR0.out HB.out)); (case side2 => exact HC0.out); rintro e w' ⟨rfl, ⟨nd, rfl⟩⟩; refine ⟨_, rfl, ?_⟩))
   go_meet; case rel => exact ⟨_, (((l0.length : Int) == 0)), (by first | rfl | (simp; done) | (simp [*]; done)), H', ⟨by first | omega | exact Nat.le_refl _⟩, ⟨bz⟩⟩
 case rest =>
  clear HC2; (try clear p2); (try clear c4); obtain ⟨kq, x23_1, rfl, HA, HJ1, HB⟩ := hcut; cases kq with
  | zero => exact absurd HA.out (by simp [hogsheadlaw4_UnionFirst.j0])
  | succ kj1 =>
   have H := HA.out; clear HA; simp only [hogsheadlaw4_UnionFirst.j0] at H
   by_cases c5 : x23_1 = true
   ·subst c5
    have H1 : ((hogsheadlaw4_awake.f kj1).bind fun t254 => (some t254)) = some true := by rw [if_pos rfl] at H; exact H
    clear H; have H := H1; clear H1; refine oR H ?_; clear H; intro t254 A6 H; obtain rfl := Option.some.inj H; go_wp2_with (first | ((with_reducible refine gate_callee (f := 8) rfl ?_); refine gL (some 24) Tryd.func8 #[] ?_; (with_reducible refine (hogsheadlaw4_awake.calls kj1  true _ A6.out).mono ?_); rintro e w7 ⟨rfl, hb⟩; refine ⟨_, rfl, ?_⟩; replace HB := bs hb))
    go_ret; exact ⟨ez, bz⟩
   ·replace c5 := Bool.eq_false_iff.mpr c5
    subst c5; have H1 : ((union_Of.f kj1 1 l0).bind fun bt255 => (if bt255.2 = 0 then ((tree_May.f kj1 bt255.1).bind fun t261 => (if t261 = true then (hogsheadlaw4_UnionFirst.l0 kj1 l0 bt255.1 0) else (some false))) else (if (bt255.1.length : Int) = 0 then (if bt255.2 = 7 then ((hogsheadlaw4_awake.f kj1).bind fun t259 => (some t259)) else (if bt255.2 = 3 then ((hogsheadlaw4_awake.f kj1).bind fun t260 => (some t260)) else (some false))) else (some false)))) = some true := by rw [if_neg (show ¬ (false = true) by decide)] at H; exact H
    clear H; have H := H1; clear H1; replace H := oB H; obtain ⟨⟨t255, t256⟩, A80, H⟩ := H; replace H : (if t256 = 0 then ((tree_May.f kj1 t255).bind fun t261 => (if t261 = true then (hogsheadlaw4_UnionFirst.l0 kj1 l0 t255 0) else (some false))) else (if (t255.length : Int) = 0 then (if t256 = 7 then ((hogsheadlaw4_awake.f kj1).bind fun t259 => (some t259)) else (if t256 = 3 then ((hogsheadlaw4_awake.f kj1).bind fun t260 => (some t260)) else (some false))) else (some false))) = some true := H; have A8 := am A80; clear A80; by_cases c9 : t256 = 0
    ·rw [if_pos c9] at H
     have c9b0 : (t256 == 0) = true := beq_iff_eq.mpr c9; have c9b1 : (t256 != 0) = false := bne_eq_false_iff_eq.mpr c9; clear c9; refine oR H ?_; clear H; intro t261 A10 H; by_cases c11 : t261 = true
     ·subst c11
      have H1 : (hogsheadlaw4_UnionFirst.l0 kj1 l0 t255 0) = some true := by rw [if_pos rfl] at H; exact H
      clear H; have H := H1; clear H1; have H' := am H; clear H; go_wp2_with (first | ((with_reducible refine gate_callee (f := 9) rfl ?_); refine gL (some 27) Tryd.func9 #[.int .i64 1, .slice A0 l0.length c0] ?_; (with_reducible refine (union_Of.calls kj1 1 _ _ l0 t255 t256 _ ?side1 ?side2 A8.out).mono ?_); (case side1 => exact cz (Kd.C_below HR0.out HB.out)); (case side2 => exact HC0.out); rintro e w12 ⟨v257, rfl, ho0, hb⟩; refine ⟨_, rfl, ?_⟩; have HO258 := am (Kd.R_lower ho0 siz); replace HB := bs hb; (try clear ho0); obtain ⟨Ao13, co13, eo13⟩ := Kd.R_slice HO258.out; subst eo13) | ((with_reducible refine gate_callee (f := 15) rfl ?_); refine gL (some 47) Tryd.func15 #[.slice Ao13 t255.length co13] ?_; (with_reducible refine (tree_May.calls kj1 _ _ t255 true _ ?side1 ?side2 A10.out).mono ?_); (case side1 => exact cz (Kd.R_reads' HO258.out).2.2); (case side2 => exact (Kd.R_reads' HO258.out).2.1); rintro e w14 ⟨rfl, hb⟩; refine ⟨_, rfl, ?_⟩; replace HO258 := am (Kd.R_below (rz HO258.out) hb); replace HB := bs hb))
      go_loopg [5] kj1 (fun kq v5 w' => ∃ (x5_2 : Int), v5 = .int .i64 x5_2 ∧ Aside0 (hogsheadlaw4_UnionFirst.l0 kq l0 t255 x5_2 = some true) ∧ Aside0 (kq ≤ kj1) ∧ Aside0 (Kd.R k37 37 w' w.heap.size (fun _ => True) (.slice Ao13 t255.length co13) t255) ∧ Aside0 (Below w.heap.size w w'))
      case atStart => exact ⟨(0), (by first | rfl | (simp; done) | (simp [*]; done)), H', ⟨Nat.le_refl _⟩, ⟨rz HO258.out⟩, ⟨bz⟩⟩
      case round =>
       clear H'; (try clear c1); (try clear p2); (try clear c4); (try clear c5); (try clear c6); (try clear c7); (try clear c8); (try clear c9); (try clear c9b0); (try clear c9b1); (try clear c11); (try clear p2); obtain ⟨x5_2, rfl, HA, HK2, HO_3, HB⟩ := hrel; cases gk with
       | zero => exact absurd HA.out (by simp [hogsheadlaw4_UnionFirst.l0])
       | succ k2 =>
        have H := HA.out; clear HA; simp only [hogsheadlaw4_UnionFirst.l0] at H
        by_cases c15 : 0 < (l0.length : Int)
        ·rw [if_pos c15] at H
         have c15b0 : decide (0 < (l0.length : Int)) = true := decide_eq_true c15; have c15b1 : decide (0 < l0.length) = true := decide_eq_true (by omega); clear c15; by_cases c16 : x5_2 < ((rd_L4 l0 0).length : Int)
         ·rw [if_pos c16] at H
          have c16b0 : decide (x5_2 < ((rd_L4 l0 0).length : Int)) = true := decide_eq_true c16; clear c16; by_cases c17 : 0 ≤ x5_2
          ·rw [if_pos c17] at H
           have c17b0 : decide (0 ≤ x5_2) = true := decide_eq_true c17; clear c17; replace H := oB H; obtain ⟨⟨t265, t266, t267, t268⟩, A180, H⟩ := H; replace H : (if t268 = true then (hogsheadlaw4_UnionFirst.j2 k2 l0 t255 x5_2 (!(t265.toList == (((rd_T37 (rd_L4 l0 0) x5_2).f0).toList)) || (!(t266 == ((rd_T37 (rd_L4 l0 0) x5_2).f1)) || (!(t267.toList == (((rd_T37 (rd_L4 l0 0) x5_2).f2).toList)))))) else (hogsheadlaw4_UnionFirst.j2 k2 l0 t255 x5_2 true)) = some true := H; have A18 := am A180; clear A180; have HC19 := am H; clear H; have p262 : 0 ≤ (0 : Int) := (by omega); have q262 : 0 < (l0.length : Int) := of_decide_eq_true (by assumption); obtain ⟨ad262, A262_0, c262_0, e262, hx262_0, hl262_0, hi262_0⟩ := at_L4 HR0.out 0 p262 q262; cases e262; have qi262 : (0 < l0.length) = True := eq_true (by omega); (try rw [show ((0 : Int)).toNat = 0 from rfl] at hx262_0)
           (try rw [Addr.add_zero'] at hx262_0)
           replace hx262_0 := (HB.out.cell (wB w _ hx262_0)).trans hx262_0; have HR262_0 := am hi262_0; have HC262_0 := am hl262_0; clear hi262_0 hl262_0; replace p262 := eq_true p262; replace q262 := eq_true q262; have p263 : 0 ≤ (0 : Int) := (by omega); have q263 : 0 < (l0.length : Int) := of_decide_eq_true (by assumption); obtain ⟨ad263, A263_0, c263_0, e263, hx263_0, hl263_0, hi263_0⟩ := at_L4 HR0.out 0 p263 q263; obtain rfl : ad262 = ad263 := (by injection e263); have qi263 : (0 < l0.length) = True := eq_true (by omega); (try rw [show ((0 : Int)).toNat = 0 from rfl] at hx263_0)
           (try rw [Addr.add_zero'] at hx263_0)
           replace hx263_0 := (HB.out.cell (wB w _ hx263_0)).trans hx263_0; have HR263_0 := am hi263_0; have HC263_0 := am hl263_0; clear hi263_0 hl263_0; replace p263 := eq_true p263; replace q263 := eq_true q263; have ea_ := Option.some.inj (hx262_0.symm.trans hx263_0); injection ea_ with ea_ en_ ec_; subst ea_; subst ec_; clear en_; have p264 : 0 ≤ (x5_2 : Int) := of_decide_eq_true (by assumption); have q264 : x5_2 < ((rd_L4 l0 0).length : Int) := of_decide_eq_true (by assumption); obtain ⟨ad264, e264, hx264_0, hx264_1, hx264_2⟩ := at_T37 HR263_0.out x5_2 p264 q264; cases e264; replace hx264_0 := (HB.out.cell (wB w _ hx264_0)).trans hx264_0; replace hx264_1 := (HB.out.cell (wB w _ hx264_1)).trans hx264_1; replace hx264_2 := (HB.out.cell (wB w _ hx264_2)).trans hx264_2; replace p264 := eq_true p264; replace q264 := eq_true q264; go_upto_region 12 with (first | ((with_reducible refine gate_callee (f := 16) rfl ?_); refine gL (some 66) Tryd.func16 #[.slice Ao13 t255.length co13, .string ((rd_T37 (rd_L4 l0 0) x5_2).f0)] ?_; (with_reducible refine (find_Lookup.calls k2 _ _ t255 ((rd_T37 (rd_L4 l0 0) x5_2).f0) t265 t266 t267 t268 _ ?side1 ?side2 A18.out).mono ?_); (case side1 => exact cz (Kd.R_reads' HO_3.out).2.2); (case side2 => exact (Kd.R_reads' HO_3.out).2.1); rintro e w20 ⟨rfl, hb⟩; refine ⟨_, rfl, ?_⟩; replace HO_3 := am (Kd.R_below (rz HO_3.out) hb); replace HB := bs hb) | ((with_reducible refine gate_dst (N := 6) rfl ?_); (try (refine gate_guard (by rfl) ?_; dsimp only)); refine bx 6 #[.string (⟨#[]⟩ : ByteArray), .int .i64 0, .string (⟨#[]⟩ : ByteArray)] 37 ?_; intro gb269 hg w21 hbox hb; replace HO_3 := am (Kd.R_below (Kd.R_elderB (rz HO_3.out) gb269 (Nat.le_of_eq hg.symm)) hb); have BK269 := am (hbox); have GW269 := gz hg; have GE269 := gz hg; replace HB := bs hb; clear hb hbox hg; obtain ⟨hcz22_0, hcz22_1, hcz22_2⟩ := cq3 BK269.out; obtain ⟨hfz22_0, hfz22_1, hfz22_2⟩ := fq3 BK269.out))
           (try simp only [Act.put, sA, sB, sC])
           go_cut [80] (fun v80 wc => ∃ (kq : Nat) (x80_18 : Bool), v80 = .bool x80_18 ∧ Aside0 (hogsheadlaw4_UnionFirst.j2 kq l0 t255 x5_2 x80_18 = some true) ∧ Aside0 (kq ≤ k2) ∧ Aside0 (Kd.R k37 37 wc w.heap.size (fun k_ => k_ ≠ gb269) (.slice Ao13 t255.length co13) t255) ∧ Aside0 (wc.heap[gb269]? = some (.cells #[.string t265, .int .i64 t266, .string t267] 37 (0, 0))) ∧ Aside0 (Below w.heap.size w wc))
           case first =>
            have H := HC19.out; clear HC19; by_cases c23 : t268 = true
            ·subst c23
             have H1 : (hogsheadlaw4_UnionFirst.j2 k2 l0 t255 x5_2 (!(t265.toList == (((rd_T37 (rd_L4 l0 0) x5_2).f0).toList)) || (!(t266 == ((rd_T37 (rd_L4 l0 0) x5_2).f1)) || (!(t267.toList == (((rd_T37 (rd_L4 l0 0) x5_2).f2).toList)))))) = some true := by rw [if_pos rfl] at H; exact H
             clear H; have H := H1; clear H1; have H' := am H; clear H; try go_wp2
             have n0_ : Aside0 (Kd.R k37 37 (((w21.setCell ⟨gb269, 0, none⟩ (.string t265)).setCell ⟨gb269, 1, none⟩ (.int .i64 t266)).setCell ⟨gb269, 2, none⟩ (.string t267)) w.heap.size (fun k_ => k_ ≠ gb269) (.slice Ao13 t255.length co13) t255) := ⟨rz (Kd.R_mono (Kd.R_far (p := ⟨gb269, 2, none⟩) (Kd.R_far (p := ⟨gb269, 1, none⟩) (Kd.R_far (p := ⟨gb269, 0, none⟩) (Kd.R_mono HO_3.out (fun k_ hk => (⟨hk, hk.2⟩ : _ ∧ k_ ≠ gb269))) (fun _ hk => hk.2) (.string t265)) (fun _ hk => hk.2) (.int .i64 t266)) (fun _ hk => hk.2) (.string t267)) (fun _ hk => hk.1.2))⟩; have n1_ : Aside0 ((((w21.setCell ⟨gb269, 0, none⟩ (.string t265)).setCell ⟨gb269, 1, none⟩ (.int .i64 t266)).setCell ⟨gb269, 2, none⟩ (.string t267)).heap[gb269]? = some (.cells #[.string t265, .int .i64 t266, .string t267] 37 (0, 0))) := ⟨by (with_reducible repeat (first | refine kN ?_ _ | refine kD ?_ | refine kA ?_ _)); refine blk_put (cs := #[.string t265, .int .i64 t266, .string (⟨#[]⟩ : ByteArray)]) ?_ 2 _ rfl; (with_reducible repeat (first | refine kN ?_ _ | refine kD ?_ | refine kA ?_ _)); refine blk_put (cs := #[.string t265, .int .i64 0, .string (⟨#[]⟩ : ByteArray)]) ?_ 1 _ rfl; (with_reducible repeat (first | refine kN ?_ _ | refine kD ?_ | refine kA ?_ _)); refine blk_put (cs := #[.string (⟨#[]⟩ : ByteArray), .int .i64 0, .string (⟨#[]⟩ : ByteArray)]) ?_ 0 _ rfl; (with_reducible repeat (first | refine kN ?_ _ | refine kD ?_ | refine kA ?_ _)); exact BK269.out⟩
             have n2_ : Aside0 (Below w.heap.size w (((w21.setCell ⟨gb269, 0, none⟩ (.string t265)).setCell ⟨gb269, 1, none⟩ (.int .i64 t266)).setCell ⟨gb269, 2, none⟩ (.string t267))) := ⟨bq⟩; (try clear HO_3); (try clear BK269); (try clear HB); generalize (((w21.setCell ⟨gb269, 0, none⟩ (.string t265)).setCell ⟨gb269, 1, none⟩ (.int .i64 t266)).setCell ⟨gb269, 2, none⟩ (.string t267)) = w24 at n0_ n1_ n2_ ⊢
             have HO_3 := n0_; have BK269 := n1_; have HB := n2_; clear n0_ n1_ n2_; replace HO_3 := am (rD HO_3.out); replace BK269 := am (kD BK269.out); replace HB := am (bO HB.out); have p270 : 0 ≤ (0 : Int) := (by omega); have q270 : 0 < (l0.length : Int) := of_decide_eq_true (by assumption); obtain ⟨ad270, A270_0, c270_0, e270, hx270_0, hl270_0, hi270_0⟩ := at_L4 HR0.out 0 p270 q270; have hw270_0 := hx270_0; (try rw [show ((0 : Int)).toNat = 0 from rfl] at hw270_0)
             (try rw [show 0 * 1 = 0 from rfl] at hw270_0)
             (try rw [Addr.add_zero'] at hw270_0)
             obtain rfl : ad262 = ad270 := (by injection e270); have qi270 : (0 < l0.length) = True := eq_true (by omega); (try rw [show ((0 : Int)).toNat = 0 from rfl] at hx270_0)
             (try rw [Addr.add_zero'] at hx270_0)
             replace hx270_0 := (HB.out.cell (wB w _ hx270_0)).trans hx270_0; have HR270_0 := am hi270_0; have HC270_0 := am hl270_0; clear hi270_0 hl270_0; replace p270 := eq_true p270; replace q270 := eq_true q270; have p271 : 0 ≤ (x5_2 : Int) := of_decide_eq_true (by assumption); have q271 : x5_2 < ((rd_L4 l0 0).length : Int) := of_decide_eq_true (by assumption); obtain ⟨ad271, e271, hx271_0, hx271_1, hx271_2⟩ := at_T37 HR270_0.out x5_2 p271 q271; have hw271_2 := hx271_2; have hw271_1 := hx271_1; have hw271_0 := hx271_0; cases e271; replace hx271_0 := (HB.out.cell (wB w _ hx271_0)).trans hx271_0; replace hx271_1 := (HB.out.cell (wB w _ hx271_1)).trans hx271_1; replace hx271_2 := (HB.out.cell (wB w _ hx271_2)).trans hx271_2; replace p271 := eq_true p271; replace q271 := eq_true q271; refine start_ (n := 12) (S := fun w' => w'.cell? ⟨gb269, 0, none⟩ = some (.string t265) ∧ w'.cell? ⟨gb269, 1, none⟩ = some (.int .i64 t266) ∧ w'.cell? ⟨gb269, 2, none⟩ = some (.string t267) ∧ w'.cell? ad262 = some (.slice (some ad271) (rd_L4 l0 0).length c270_0) ∧ w'.cell? (ad271.add ((x5_2).toNat * 3)) = some (.string ((rd_T37 (rd_L4 l0 0) x5_2).f0)) ∧ w'.cell? ⟨(ad271.add ((x5_2).toNat * 3)).block, (ad271.add ((x5_2).toNat * 3)).off + 1, none⟩ = some (.int .i64 ((rd_T37 (rd_L4 l0 0) x5_2).f1)) ∧ w'.cell? ⟨(ad271.add ((x5_2).toNat * 3)).block, (ad271.add ((x5_2).toNat * 3)).off + 2, none⟩ = some (.string ((rd_T37 (rd_L4 l0 0) x5_2).f2))) (ds := []) #[fF,fF,fF,fF,fF,fF,fF,fF,fF,fF,fF,fF] (by kernel_rfl) rfl rfl ⟨(blk_cell BK269.out 0).trans rfl, (blk_cell BK269.out 1).trans rfl, (blk_cell BK269.out 2).trans rfl, ((HB.out.cell (wB w _ hw270_0)).trans hw270_0), ((HB.out.cell (wB w _ hw271_0)).trans hw271_0), ((HB.out.cell (wB w _ hw271_1)).trans hw271_1), ((HB.out.cell (wB w _ hw271_2)).trans hw271_2)⟩ (fun hHeld => ?_); refine with_tabW hogsheadlaw4_UnionFirst.tab12 hogsheadlaw4_UnionFirst.bits12 (fun HT_ HW_ => ?_)
             generalize w24.drew = w25 at HO_3 BK269 HB HR270_0 hx270_0 hx271_0 hx271_1 hx271_2 hHeld ⊢
             refine pu 0 (some 69) ?_
             refine pu 1 (some 70) ?_
             refine pu 2 (some 71) ?_
             refine pu 4 (some 73) ?_
             refine pu 5 (some 74) ?_
             refine pu 7 (some 76) ?_
             refine take_ (i := 3) (N := some 72) (v := ?_) (a' := ?_) #[tT,tT,tT,tT,tT,tT,fF,tT,fF,fF,fF,fF] rfl rfl (take_ofW HT_.out HW_.out (by kernel_rfl)) (fun _ _ _ h => h) (Or.inl ⟨by rfl, ?_⟩) hHeld ?_ ?_
             rotate_left
             ·rintro w' ⟨s0, s1, s2, s3, s4, s5, s6⟩
              go_simp
              with_reducible rfl
             rotate_left
             ·simp only [Act.put, sA, sB, sC, i64_w, i32_w]
              rfl
             refine take_ (i := 6) (N := some 75) (v := ?_) (a' := ?_) #[tT,tT,tT,tT,tT,tT,tT,tT,fF,fF,fF,fF] rfl rfl (take_ofW HT_.out HW_.out (by kernel_rfl)) (fun _ _ _ h => h) (Or.inl ⟨by rfl, ?_⟩) hHeld ?_ ?_
             rotate_left
             ·rintro w' ⟨s0, s1, s2, s3, s4, s5, s6⟩
              go_simp
              with_reducible rfl
             rotate_left
             ·simp only [Act.put, sA, sB, sC, i64_w, i32_w]
              rfl
             refine pu 8 (some 77) ?_
             refine take_ (i := 9) (N := some 78) (v := ?_) (a' := ?_) #[tT,tT,tT,tT,tT,tT,tT,tT,tT,tT,fF,fF] rfl rfl (take_ofW HT_.out HW_.out (by kernel_rfl)) (fun _ _ _ h => h) (Or.inl ⟨by rfl, ?_⟩) hHeld ?_ ?_
             rotate_left
             ·rintro w' ⟨s0, s1, s2, s3, s4, s5, s6⟩
              go_simp
              with_reducible rfl
             rotate_left
             ·simp only [Act.put, sA, sB, sC, i64_w, i32_w]
              rfl
             refine pu 10 (some 79) ?_
             refine pu 11 (some 80) ?_
             refine done_ (done_of HT_.out (by kernel_rfl)) ?_
             try go_wp2
             go_meet; case rel => exact ⟨_, ((!(t265.toList == (((rd_T37 (rd_L4 l0 0) x5_2).f0).toList)) || (!(t266 == ((rd_T37 (rd_L4 l0 0) x5_2).f1)) || (!(t267.toList == (((rd_T37 (rd_L4 l0 0) x5_2).f2).toList)))))), (by first | rfl | (simp; done) | (simp [*]; done)), H', ⟨by have := HJ1.out; have := HK2.out; first | omega | exact Nat.le_refl _⟩, ⟨rz HO_3.out⟩, ⟨bk BK269.out⟩, ⟨bq⟩⟩
            ·replace c23 := Bool.eq_false_iff.mpr c23
             subst c23; have H1 : (hogsheadlaw4_UnionFirst.j2 k2 l0 t255 x5_2 true) = some true := by rw [if_neg (show ¬ (false = true) by decide)] at H; exact H
             exact absurd H1 (by cases k2 <;> simp [hogsheadlaw4_UnionFirst.j2, Option.bind_eq_some_iff])
           case rest =>
            clear HC19; (try clear c1); (try clear c2); (try clear p2); (try clear q2); (try clear hx2); (try clear qi2); (try clear c4); (try clear c5); (try clear c6); (try clear c7); (try clear c8); (try clear c9); (try clear c9b0); (try clear c9b1); (try clear c11); (try clear c15); (try clear c15b0); (try clear c15b1); (try clear c16); (try clear c16b0); (try clear c17); (try clear c17b0); (try clear c23); (try clear c26); (try clear p26); (try clear q26); (try clear hx26); (try clear qi26); (try clear c27); (try clear p27); (try clear q27); (try clear hx27); (try clear qi27); (try clear hcz22_0); (try clear hcz22_1); (try clear hcz22_2); (try clear hfz22_0); (try clear hfz22_1); (try clear hfz22_2); (try clear hx262_0); (try clear hx263_0); (try clear hx264_0); (try clear hx264_1); (try clear hx264_2); (try clear hx270_0); (try clear hx271_0); (try clear hx271_1); (try clear hx271_2); (try clear p2); (try clear p262); (try clear p263); (try clear p264); (try clear p270); (try clear p271); (try clear q262); (try clear q263); (try clear q264); (try clear q270); (try clear q271); obtain ⟨kq, x80_18, rfl, HA, HJ18, HO_3, BK269, HB⟩ := hcut; cases kq with
            | zero => exact absurd HA.out (by simp [hogsheadlaw4_UnionFirst.j2])
            | succ kj18 =>
             have H := HA.out; clear HA; simp only [hogsheadlaw4_UnionFirst.j2] at H
             by_cases c28 : x80_18 = true
             ·subst c28
              have H1 : (some false) = some true := by rw [if_pos rfl] at H; exact H
              exact absurd H1 (by simp)
             ·replace c28 := Bool.eq_false_iff.mpr c28
              subst c28; have H1 : (hogsheadlaw4_UnionFirst.l0 kj18 l0 t255 (wrap64 (x5_2 + 1))) = some true := by rw [if_neg (show ¬ (false = true) by decide)] at H; exact H
              clear H; have H := H1; clear H1; have H' := am H; clear H; go_wp2
              go_roundg kj18
              case measure => have := HJ1.out; have := HK2.out; have := HJ18.out; omega
              case rel => exact ⟨(wrap64 (x5_2 + 1)), (by first | rfl | (simp; done) | (simp [*]; done)), H', ⟨by have := HJ1.out; have := HK2.out; have := HJ18.out; omega⟩, ⟨rz (Kd.R_mono HO_3.out (fun _ hk => trivial))⟩, ⟨bq⟩⟩
          ·rw [if_neg c17] at H
           exact absurd H (by simp)
         ·rw [if_neg c16] at H
          have c16b0 : decide (x5_2 < ((rd_L4 l0 0).length : Int)) = false := decide_eq_false c16; clear c16; have H' := am H; clear H; have p262 : 0 ≤ (0 : Int) := (by omega); have q262 : 0 < (l0.length : Int) := of_decide_eq_true (by assumption); obtain ⟨ad262, A262_0, c262_0, e262, hx262_0, hl262_0, hi262_0⟩ := at_L4 HR0.out 0 p262 q262; cases e262; have qi262 : (0 < l0.length) = True := eq_true (by omega); (try rw [show ((0 : Int)).toNat = 0 from rfl] at hx262_0)
          (try rw [Addr.add_zero'] at hx262_0)
          replace hx262_0 := (HB.out.cell (wB w _ hx262_0)).trans hx262_0; have HR262_0 := am hi262_0; have HC262_0 := am hl262_0; clear hi262_0 hl262_0; replace p262 := eq_true p262; replace q262 := eq_true q262; go_wp2
          go_loopg [8] k2 (fun kq v8 w' => ∃ (x8_3 : Int), v8 = .int .i64 x8_3 ∧ Aside0 (hogsheadlaw4_UnionFirst.l1 kq l0 t255 x8_3 = some true) ∧ Aside0 (kq ≤ k2) ∧ Aside0 (Kd.R k37 37 w' w.heap.size (fun _ => True) (.slice Ao13 t255.length co13) t255) ∧ Aside0 (Below w.heap.size w w'))
          case atStart => exact ⟨(0), (by first | rfl | (simp; done) | (simp [*]; done)), H', ⟨Nat.le_refl _⟩, ⟨rz HO_3.out⟩, ⟨bz⟩⟩
          case round =>
           clear H'; (try clear c1); (try clear c2); (try clear p2); (try clear q2); (try clear hx2); (try clear qi2); (try clear c4); (try clear c5); (try clear c6); (try clear p6); (try clear c7); (try clear c8); (try clear c9); (try clear c9b0); (try clear c9b1); (try clear c11); (try clear c15); (try clear c15b0); (try clear c15b1); (try clear c16); (try clear c16b0); (try clear c17); (try clear c17b0); (try clear c23); (try clear c26); (try clear p26); (try clear q26); (try clear hx26); (try clear qi26); (try clear c27); (try clear p27); (try clear q27); (try clear hx27); (try clear qi27); (try clear c28); (try clear hcz22_0); (try clear hcz22_1); (try clear hcz22_2); (try clear hfz22_0); (try clear hfz22_1); (try clear hfz22_2); (try clear hx262_0); (try clear hx263_0); (try clear hx264_0); (try clear hx264_1); (try clear hx264_2); (try clear hx270_0); (try clear hx271_0); (try clear hx271_1); (try clear hx271_2); (try clear p2); (try clear p26); (try clear p262); (try clear p263); (try clear p264); (try clear p27); (try clear p270); (try clear p271); (try clear q2); (try clear q26); (try clear q262); (try clear q263); (try clear q264); (try clear q27); (try clear q270); (try clear q271); obtain ⟨x8_3, rfl, HA, HK3, HO_3, HB⟩ := hrel; cases gk with
           | zero => exact absurd HA.out (by simp [hogsheadlaw4_UnionFirst.l1])
           | succ k3 =>
            have H := HA.out; clear HA; simp only [hogsheadlaw4_UnionFirst.l1] at H
            by_cases c29 : x8_3 < (t255.length : Int)
            ·rw [if_pos c29] at H
             have c29b0 : decide (x8_3 < (t255.length : Int)) = true := decide_eq_true c29; clear c29; have H' := am H; clear H; go_wp2
             go_loopg [9, 10] k3 (fun kq v9 v10 w' => ∃ (x9_4 : Bool) (x10_4 : Int), v9 = .bool x9_4 ∧ v10 = .int .i64 x10_4 ∧ Aside0 (hogsheadlaw4_UnionFirst.l2 kq l0 t255 x8_3 x9_4 x10_4 = some true) ∧ Aside0 (kq ≤ k3) ∧ Aside0 (Kd.R k37 37 w' w.heap.size (fun _ => True) (.slice Ao13 t255.length co13) t255) ∧ Aside0 (Below w.heap.size w w'))
             case atStart => exact ⟨(false), (0), (by first | rfl | (simp; done) | (simp [*]; done)), (by first | rfl | (simp; done) | (simp [*]; done)), H', ⟨Nat.le_refl _⟩, ⟨rz HO_3.out⟩, ⟨bz⟩⟩
             case round =>
              clear H'; (try clear c1); (try clear c2); (try clear p2); (try clear q2); (try clear hx2); (try clear qi2); (try clear c4); (try clear c5); (try clear c6); (try clear p6); (try clear c7); (try clear c8); (try clear c9); (try clear c9b0); (try clear c9b1); (try clear c11); (try clear c15); (try clear c15b0); (try clear c15b1); (try clear c16); (try clear c16b0); (try clear c17); (try clear c17b0); (try clear c23); (try clear c26); (try clear p26); (try clear q26); (try clear hx26); (try clear qi26); (try clear c27); (try clear p27); (try clear q27); (try clear hx27); (try clear qi27); (try clear c28); (try clear c29); (try clear c29b0); (try clear hcz22_0); (try clear hcz22_1); (try clear hcz22_2); (try clear hfz22_0); (try clear hfz22_1); (try clear hfz22_2); (try clear hx262_0); (try clear hx263_0); (try clear hx264_0); (try clear hx264_1); (try clear hx264_2); (try clear hx270_0); (try clear hx271_0); (try clear hx271_1); (try clear hx271_2); (try clear p2); (try clear p26); (try clear p262); (try clear p263); (try clear p264); (try clear p27); (try clear p270); (try clear p271); (try clear p6); (try clear q2); (try clear q26); (try clear q262); (try clear q263); (try clear q264); (try clear q27); (try clear q270); (try clear q271); obtain ⟨x9_4, x10_4, rfl, rfl, HA, HK4, HO_3, HB⟩ := hrel; cases gk with
              | zero => exact absurd HA.out (by simp [hogsheadlaw4_UnionFirst.l2])
              | succ k4 =>
               have H := HA.out; clear HA; simp only [hogsheadlaw4_UnionFirst.l2] at H
               by_cases c30 : x10_4 < (l0.length : Int)
               ·rw [if_pos c30] at H
                have c30b0 : decide (x10_4 < (l0.length : Int)) = true := decide_eq_true c30; clear c30; by_cases c31 : 0 ≤ x10_4
                ·rw [if_pos c31] at H
                 have c31b0 : decide (0 ≤ x10_4) = true := decide_eq_true c31; clear c31; by_cases c32 : 0 ≤ x8_3
                 ·rw [if_pos c32] at H
                  have c32b0 : decide (0 ≤ x8_3) = true := decide_eq_true c32; clear c32; by_cases c33 : x8_3 < (t255.length : Int)
                  ·rw [if_pos c33] at H
                   have c33b0 : decide (x8_3 < (t255.length : Int)) = true := decide_eq_true c33; clear c33; replace H := oB H; obtain ⟨⟨t274, t275, t276, t277⟩, A340, H⟩ := H; replace H : (if x9_4 = true then (hogsheadlaw4_UnionFirst.l2 k4 l0 t255 x8_3 true (wrap64 (x10_4 + 1))) else (if t277 = true then (hogsheadlaw4_UnionFirst.l2 k4 l0 t255 x8_3 (t274.toList == (((rd_T37 t255 x8_3).f0).toList) && (t275 == ((rd_T37 t255 x8_3).f1) && (t276.toList == (((rd_T37 t255 x8_3).f2).toList)))) (wrap64 (x10_4 + 1))) else (hogsheadlaw4_UnionFirst.l2 k4 l0 t255 x8_3 false (wrap64 (x10_4 + 1))))) = some true := H; have A34 := am A340; clear A340; by_cases c35 : x9_4 = true
                   ·subst c35
                    have H1 : (hogsheadlaw4_UnionFirst.l2 k4 l0 t255 x8_3 true (wrap64 (x10_4 + 1))) = some true := by rw [if_pos rfl] at H; exact H
                    clear H; have H := H1; clear H1; have H' := am H; clear H; try go_wp2
                    replace HO_3 := am (rD HO_3.out); replace HB := am (bO HB.out); have p272 : 0 ≤ (x10_4 : Int) := of_decide_eq_true (by assumption); have q272 : x10_4 < (l0.length : Int) := of_decide_eq_true (by assumption); obtain ⟨ad272, A272_0, c272_0, e272, hx272_0, hl272_0, hi272_0⟩ := at_L4 HR0.out x10_4 p272 q272; have hw272_0 := hx272_0; obtain rfl : ad262 = ad272 := (by injection e272); replace hx272_0 := (HB.out.cell (wB w _ hx272_0)).trans hx272_0; have HR272_0 := am hi272_0; have HC272_0 := am hl272_0; clear hi272_0 hl272_0; replace p272 := eq_true p272; replace q272 := eq_true q272; have p273 : 0 ≤ (x8_3 : Int) := of_decide_eq_true (by assumption); have q273 : x8_3 < (t255.length : Int) := of_decide_eq_true (by assumption); obtain ⟨ad273, e273, hx273_0, hx273_1, hx273_2⟩ := at_T37 (Kd.R_reads' HO_3.out).2.2 x8_3 p273 q273; cases e273; replace p273 := eq_true p273; replace q273 := eq_true q273; refine start_ (n := 16) (S := fun w' => w'.cell? (ad262.add (x10_4).toNat) = some (.slice A272_0 (rd_L4 l0 x10_4).length c272_0) ∧ w'.cell? (ad273.add ((x8_3).toNat * 3)) = some (.string ((rd_T37 t255 x8_3).f0)) ∧ w'.cell? ⟨(ad273.add ((x8_3).toNat * 3)).block, (ad273.add ((x8_3).toNat * 3)).off + 1, none⟩ = some (.int .i64 ((rd_T37 t255 x8_3).f1)) ∧ w'.cell? ⟨(ad273.add ((x8_3).toNat * 3)).block, (ad273.add ((x8_3).toNat * 3)).off + 2, none⟩ = some (.string ((rd_T37 t255 x8_3).f2))) (ds := []) #[fF,fF,fF,fF,fF,fF,fF,fF,fF,fF,fF,fF,fF,fF,fF,fF] (by kernel_rfl) rfl rfl ⟨((HB.out.cell (wB w _ hw272_0)).trans hw272_0), hx273_0, hx273_1, hx273_2⟩ (fun hHeld => ?_); refine with_tabW hogsheadlaw4_UnionFirst.tab21 hogsheadlaw4_UnionFirst.bits21 (fun HT_ HW_ => ?_)
                    generalize wr.drew = w36 at HO_3 HB HR272_0 hx272_0 hx273_0 hx273_1 hx273_2 hHeld ⊢
                    refine pu 0 (some 94) ?_
                    refine pu 1 (some 95) ?_
                    refine pu 2 (some 96) ?_
                    refine pu 4 (some 98) ?_
                    refine pu 5 (some 99) ?_
                    refine pu 6 (some 100) ?_
                    refine pu 7 (some 101) ?_
                    refine take_ (i := 3) (N := some 97) (v := ?_) (a' := ?_) #[tT,tT,tT,tT,tT,tT,tT,tT,fF,fF,fF,fF,fF,fF,fF,fF] rfl rfl (take_ofW HT_.out HW_.out (by kernel_rfl)) (fun _ _ _ h => h) (Or.inl ⟨by rfl, ?_⟩) hHeld ?_ ?_
                    rotate_left
                    ·rintro w' ⟨s0, s1, s2, s3⟩
                     go_simp
                     with_reducible rfl
                    rotate_left
                    ·simp only [Act.put, sA, sB, sC, i64_w, i32_w]
                     rfl
                    refine take_ (i := 8) (N := some 102) (v := ?_) (a' := ?_) #[tT,tT,tT,tT,tT,tT,tT,tT,tT,fF,fF,fF,fF,fF,fF,fF] rfl rfl (take_ofW HT_.out HW_.out (by kernel_rfl)) (fun _ _ _ h => h) (Or.inl ⟨by rfl, ?_⟩) hHeld ?_ ?_
                    rotate_left
                    ·rintro w' ⟨s0, s1, s2, s3⟩
                     go_simp
                     with_reducible rfl
                    rotate_left
                    ·simp only [Act.put, sA, sB, sC, i64_w, i32_w]
                     rfl
                    refine join_ (σ := Nat) 2 #[tT,tT,tT,tT,tT,tT,tT,tT,tT,tT,tT,tT,tT,tT,fF,fF] (fun s_ => [(103, .tuple #[.agg #[.string t274, .int .i64 t275, .string t276], .bool t277]), (11, .pointer (some ⟨s_, 0, none⟩)), (93, .tuple #[.agg #[.string t274, .int .i64 t275, .string t276], .bool t277]), (104, .agg #[.string t274, .int .i64 t275, .string t276]), (105, .bool t277)]) (fun s_ w' => (w'.cell? (ad262.add (x10_4).toNat) = some (.slice A272_0 (rd_L4 l0 x10_4).length c272_0) ∧ w'.cell? (ad273.add ((x8_3).toNat * 3)) = some (.string ((rd_T37 t255 x8_3).f0)) ∧ w'.cell? ⟨(ad273.add ((x8_3).toNat * 3)).block, (ad273.add ((x8_3).toNat * 3)).off + 1, none⟩ = some (.int .i64 ((rd_T37 t255 x8_3).f1)) ∧ w'.cell? ⟨(ad273.add ((x8_3).toNat * 3)).block, (ad273.add ((x8_3).toNat * 3)).off + 2, none⟩ = some (.string ((rd_T37 t255 x8_3).f2))) ∧ (Kd.R k37 37 w' w.heap.size (fun k_ => k_ ≠ s_) (.slice (some ad273) t255.length co13) t255) ∧ (w'.heap[s_]? = some (.cells #[.string (⟨#[]⟩ : ByteArray), .int .i64 0, .string (⟨#[]⟩ : ByteArray)] 37 (0, 0))) ∧ (w.heap.size ≤ s_) ∧ (w.heap.size ≤ s_) ∧ (Below w.heap.size w w')) ?_ ?_
                    rotate_left
                    ·intro hCont
                     refine two_ (i := 9) (j := 13) (Ni := some 103) (Nj := some 11) #[tT,tT,tT,tT,tT,tT,tT,tT,tT,tT,fF,fF,fF,fF,fF,fF] #[tT,tT,tT,tT,tT,tT,tT,tT,tT,fF,fF,fF,fF,tT,fF,fF] rfl rfl rfl rfl (two_of HT_.out (by kernel_rfl)) (by decide) (by decide) (fun K hK => ?_) (fun K hK => ?_)
                     ·skip
                      refine goes_ Tryd.func16 (by kernel_rfl) rfl #[.slice A272_0 (rd_L4 l0 x10_4).length c272_0, .string ((rd_T37 t255 x8_3).f0)] (by rfl) rfl rfl (by (try simp only [mT, mC, mN]); first | done | rfl | (simp only [lD, lT]; rfl)) ?_
                      with_reducible refine (find_Lookup.calls k4 _ _ (rd_L4 l0 x10_4) ((rd_T37 t255 x8_3).f0) t274 t275 t276 t277 _ ?side1 ?side2 A34.out).mono ?_
                      (case side1 => exact cz (Kd.C_below HR272_0.out HB.out))
                      (case side2 => exact HC272_0.out)
                      rintro e w37 ⟨rfl, hb⟩; have HS1_ := (hb.cell (wB _ _ (hHeld.2.1))).trans (hHeld.2.1); have HS2_ := (hb.cell (wB _ _ (hHeld.2.2.1))).trans (hHeld.2.2.1); have HS3_ := (hb.cell (wB _ _ (hHeld.2.2.2))).trans (hHeld.2.2.2); refine ⟨_, rfl, ?_⟩
                      replace HO_3 := am (Kd.R_below (rz HO_3.out) hb); replace HB := bs hb; refine hK.out _ _ ⟨((HB.out.cell (wB w _ hw272_0)).trans hw272_0), HS1_, HS2_, HS3_⟩ (fun hHeld => ?_)
                      clear hK K; refine norm_ (a' := ?_) ?_ ?_
                      rotate_left
                      ·show Act.put _ (some 103) _ = _
                       simp only [Act.put, sA, sB, sC, i64_w, i32_w]
                       rfl
                      refine pu 10 (some 93) ?_
                      refine pu 11 (some 104) ?_
                      refine pu 12 (some 105) ?_
                      refine one_ (i := 13) (N := some 11) #[tT,tT,tT,tT,tT,tT,tT,tT,tT,tT,tT,tT,tT,tT,fF,fF] rfl rfl (one_of HT_.out (by kernel_rfl)) (by decide) (fun K hK => ?_)
                      refine box_step ?hg (N := 11) ?hd (cs := #[.string (⟨#[]⟩ : ByteArray), .int .i64 0, .string (⟨#[]⟩ : ByteArray)]) (t := 37) ?hr ?_; (case hd => rfl); (case hg => rfl); (case hr => first | (go_simp; done) | (go_simp; rfl))
                      intro gb278 hg w38 hbox hb; have HS1_ := (hb.cell (wB _ _ (hHeld.2.1))).trans (hHeld.2.1); have HS2_ := (hb.cell (wB _ _ (hHeld.2.2.1))).trans (hHeld.2.2.1); have HS3_ := (hb.cell (wB _ _ (hHeld.2.2.2))).trans (hHeld.2.2.2); replace HO_3 := am (Kd.R_below (Kd.R_elderB (rz HO_3.out) gb278 (Nat.le_of_eq hg.symm)) hb); have BK278 := am (hbox); have GW278 := gz hg; have GE278 := gz hg; replace HB := bs hb; clear hb hbox hg; refine hK.out _ _ ⟨((HB.out.cell (wB w _ hw272_0)).trans hw272_0), HS1_, HS2_, HS3_⟩ (fun hHeld => ?_)
                      clear hK K; refine norm_ (a' := ?_) ?_ ?_
                      rotate_left
                      ·show Act.put _ (some 11) _ = _
                       simp only [Act.put, sA, sB, sC, i64_w, i32_w]
                       rfl
                      exact norm_ (by simp only [putAll, Act.put, sA, sB, sC]) (hCont (gb278) _ ⟨hHeld, (rz (Kd.R_mono HO_3.out (fun _ hk => hk.2))), (bk BK278.out), GW278.out, GE278.out, bq⟩)
                     ·skip
                      refine box_step ?hg (N := 11) ?hd (cs := #[.string (⟨#[]⟩ : ByteArray), .int .i64 0, .string (⟨#[]⟩ : ByteArray)]) (t := 37) ?hr ?_; (case hd => rfl); (case hg => rfl); (case hr => first | (go_simp; done) | (go_simp; rfl))
                      intro gb278 hg w37 hbox hb; have HS1_ := (hb.cell (wB _ _ (hHeld.2.1))).trans (hHeld.2.1); have HS2_ := (hb.cell (wB _ _ (hHeld.2.2.1))).trans (hHeld.2.2.1); have HS3_ := (hb.cell (wB _ _ (hHeld.2.2.2))).trans (hHeld.2.2.2); replace HO_3 := am (Kd.R_below (Kd.R_elderB (rz HO_3.out) gb278 (Nat.le_of_eq hg.symm)) hb); have BK278 := am (hbox); have GW278 := gz hg; have GE278 := gz hg; replace HB := bs hb; clear hb hbox hg; refine hK.out _ _ ⟨((HB.out.cell (wB w _ hw272_0)).trans hw272_0), HS1_, HS2_, HS3_⟩ (fun hHeld => ?_)
                      clear hK K; refine norm_ (a' := ?_) ?_ ?_
                      rotate_left
                      ·show Act.put _ (some 11) _ = _
                       simp only [Act.put, sA, sB, sC, i64_w, i32_w]
                       rfl
                      refine one_ (i := 9) (N := some 103) #[tT,tT,tT,tT,tT,tT,tT,tT,tT,tT,fF,fF,fF,tT,fF,fF] rfl rfl (one_of HT_.out (by kernel_rfl)) (by decide) (fun K hK => ?_)
                      refine goes_ Tryd.func16 (by kernel_rfl) rfl #[.slice A272_0 (rd_L4 l0 x10_4).length c272_0, .string ((rd_T37 t255 x8_3).f0)] (by rfl) rfl rfl (by (try simp only [mT, mC, mN]); first | done | rfl | (simp only [lD, lT]; rfl)) ?_
                      with_reducible refine (find_Lookup.calls k4 _ _ (rd_L4 l0 x10_4) ((rd_T37 t255 x8_3).f0) t274 t275 t276 t277 _ ?side1 ?side2 A34.out).mono ?_
                      (case side1 => exact cz (Kd.C_below HR272_0.out HB.out))
                      (case side2 => exact HC272_0.out)
                      rintro e w38 ⟨rfl, hb⟩; have HS1_ := (hb.cell (wB _ _ (hHeld.2.1))).trans (hHeld.2.1); have HS2_ := (hb.cell (wB _ _ (hHeld.2.2.1))).trans (hHeld.2.2.1); have HS3_ := (hb.cell (wB _ _ (hHeld.2.2.2))).trans (hHeld.2.2.2); refine ⟨_, rfl, ?_⟩
                      replace HO_3 := am (Kd.R_below (rz HO_3.out) hb); replace BK278 := am (blk_below (g := gb278) (o := .cells #[.string (⟨#[]⟩ : ByteArray), .int .i64 0, .string (⟨#[]⟩ : ByteArray)] 37 (0, 0)) (bk BK278.out) hb); replace HB := bw hb; refine hK.out _ _ ⟨((HB.out.cell (wB w _ hw272_0)).trans hw272_0), HS1_, HS2_, HS3_⟩ (fun hHeld => ?_)
                      clear hK K; refine norm_ (a' := ?_) ?_ ?_
                      rotate_left
                      ·show Act.put _ (some 103) _ = _
                       simp only [Act.put, sA, sB, sC, i64_w, i32_w]
                       rfl
                      refine pu 10 (some 93) ?_
                      refine pu 11 (some 104) ?_
                      refine pu 12 (some 105) ?_
                      exact norm_ (by simp only [putAll, Act.put, sA, sB, sC]) (hCont (gb278) _ ⟨hHeld, (rz (Kd.R_mono HO_3.out (fun _ hk => hk.2))), (bk BK278.out), GW278.out, GE278.out, bq⟩)
                    rintro gb278 w39 ⟨hS_, h0_, h1_, h2_, h3_, h4_⟩; have n0_ : Aside0 (Kd.R k37 37 w39 w.heap.size (fun k_ => k_ ≠ gb278) (.slice (some ad273) t255.length co13) t255) := ⟨h0_⟩; have n1_ : Aside0 (w39.heap[gb278]? = some (.cells #[.string (⟨#[]⟩ : ByteArray), .int .i64 0, .string (⟨#[]⟩ : ByteArray)] 37 (0, 0))) := ⟨h1_⟩; have n2_ : Aside0 (w.heap.size ≤ gb278) := ⟨h2_⟩; have n3_ : Aside0 (w.heap.size ≤ gb278) := ⟨h3_⟩; have n4_ : Aside0 (Below w.heap.size w w39) := ⟨h4_⟩; clear HO_3; clear HB; clear h0_ h1_ h2_ h3_ h4_; have HO_3 := n0_; have BK278 := n1_; have GW278 := n2_; have GE278 := n3_; have HB := n4_; clear n0_ n1_ n2_ n3_ n4_; have hHeld : w39.cell? (ad262.add (x10_4).toNat) = some (.slice A272_0 (rd_L4 l0 x10_4).length c272_0) ∧ w39.cell? (ad273.add ((x8_3).toNat * 3)) = some (.string ((rd_T37 t255 x8_3).f0)) ∧ w39.cell? ⟨(ad273.add ((x8_3).toNat * 3)).block, (ad273.add ((x8_3).toNat * 3)).off + 1, none⟩ = some (.int .i64 ((rd_T37 t255 x8_3).f1)) ∧ w39.cell? ⟨(ad273.add ((x8_3).toNat * 3)).block, (ad273.add ((x8_3).toNat * 3)).off + 2, none⟩ = some (.string ((rd_T37 t255 x8_3).f2)) := hS_; refine norm_ (a' := ?_) ?_ ?_
                    rotate_left
                    ·simp only [putAll, Act.put, sA, sB, sC]
                     rfl
                    refine one_ (i := 14) (N := none) #[tT,tT,tT,tT,tT,tT,tT,tT,tT,tT,tT,tT,tT,tT,tT,fF] rfl rfl (one_of HT_.out (by kernel_rfl)) (by decide) (fun K hK => ?_)
                    have hs40 : w39.cell? ⟨gb278, 0, none⟩ = some (.string (⟨#[]⟩ : ByteArray)) := (blk_cell BK278.out 0).trans rfl; have hfs40 := blk_frozen BK278.out 0; have hs41 : w39.cell? ⟨gb278, 1, none⟩ = some (.int .i64 0) := (blk_cell BK278.out 1).trans rfl; have hfs41 := blk_frozen BK278.out 1; have hs42 : w39.cell? ⟨gb278, 2, none⟩ = some (.string (⟨#[]⟩ : ByteArray)) := (blk_cell BK278.out 2).trans rfl; have hfs42 := blk_frozen BK278.out 2; refine skip_ (w1 := ?_) (by rfl) rfl ?_ ?_
                    rotate_left
                    ·go_simp
                     rfl
                    refine hK.out _ _ ⟨((cell_far (p := ⟨gb278, _, none⟩) (by first | exact Nat.ne_of_lt (Nat.lt_of_lt_of_le (by have := wB _ _ hw272_0; first | rwa [add_block] at this | exact this) GW278.out) | (rw [add_block]; exact Nat.ne_of_lt (Nat.lt_of_lt_of_le (by have := wB _ _ hw272_0; first | rwa [add_block] at this | exact this) GW278.out)) | (show (Addr.add _ _).block ≠ _; rw [add_block]; exact Nat.ne_of_lt (Nat.lt_of_lt_of_le (by have := wB _ _ hw272_0; first | rwa [add_block] at this | exact this) GW278.out)) | (dsimp only; exact Nat.ne_of_lt (Nat.lt_of_lt_of_le (by have := wB _ _ hw272_0; first | rwa [add_block] at this | exact this) GW278.out))) _).trans (((cell_far (p := ⟨gb278, _, none⟩) (by first | exact Nat.ne_of_lt (Nat.lt_of_lt_of_le (by have := wB _ _ hw272_0; first | rwa [add_block] at this | exact this) GW278.out) | (rw [add_block]; exact Nat.ne_of_lt (Nat.lt_of_lt_of_le (by have := wB _ _ hw272_0; first | rwa [add_block] at this | exact this) GW278.out)) | (show (Addr.add _ _).block ≠ _; rw [add_block]; exact Nat.ne_of_lt (Nat.lt_of_lt_of_le (by have := wB _ _ hw272_0; first | rwa [add_block] at this | exact this) GW278.out)) | (dsimp only; exact Nat.ne_of_lt (Nat.lt_of_lt_of_le (by have := wB _ _ hw272_0; first | rwa [add_block] at this | exact this) GW278.out))) _).trans (((cell_far (p := ⟨gb278, _, none⟩) (by first | exact Nat.ne_of_lt (Nat.lt_of_lt_of_le (by have := wB _ _ hw272_0; first | rwa [add_block] at this | exact this) GW278.out) | (rw [add_block]; exact Nat.ne_of_lt (Nat.lt_of_lt_of_le (by have := wB _ _ hw272_0; first | rwa [add_block] at this | exact this) GW278.out)) | (show (Addr.add _ _).block ≠ _; rw [add_block]; exact Nat.ne_of_lt (Nat.lt_of_lt_of_le (by have := wB _ _ hw272_0; first | rwa [add_block] at this | exact this) GW278.out)) | (dsimp only; exact Nat.ne_of_lt (Nat.lt_of_lt_of_le (by have := wB _ _ hw272_0; first | rwa [add_block] at this | exact this) GW278.out))) _).trans (hHeld.1)))))), ((cell_far (p := ⟨gb278, _, none⟩) (by first | exact Kd.own_blk (Kd.R_away HO_3.out (fun _ hk => hk)) | (rw [add_block]; exact Kd.own_blk (Kd.R_away HO_3.out (fun _ hk => hk))) | (show (Addr.add _ _).block ≠ _; rw [add_block]; exact Kd.own_blk (Kd.R_away HO_3.out (fun _ hk => hk))) | (dsimp only; exact Kd.own_blk (Kd.R_away HO_3.out (fun _ hk => hk)))) _).trans (((cell_far (p := ⟨gb278, _, none⟩) (by first | exact Kd.own_blk (Kd.R_away HO_3.out (fun _ hk => hk)) | (rw [add_block]; exact Kd.own_blk (Kd.R_away HO_3.out (fun _ hk => hk))) | (show (Addr.add _ _).block ≠ _; rw [add_block]; exact Kd.own_blk (Kd.R_away HO_3.out (fun _ hk => hk))) | (dsimp only; exact Kd.own_blk (Kd.R_away HO_3.out (fun _ hk => hk)))) _).trans (((cell_far (p := ⟨gb278, _, none⟩) (by first | exact Kd.own_blk (Kd.R_away HO_3.out (fun _ hk => hk)) | (rw [add_block]; exact Kd.own_blk (Kd.R_away HO_3.out (fun _ hk => hk))) | (show (Addr.add _ _).block ≠ _; rw [add_block]; exact Kd.own_blk (Kd.R_away HO_3.out (fun _ hk => hk))) | (dsimp only; exact Kd.own_blk (Kd.R_away HO_3.out (fun _ hk => hk)))) _).trans (hHeld.2.1)))))), ((cell_far (p := ⟨gb278, _, none⟩) (by first | exact Kd.own_blk (Kd.R_away HO_3.out (fun _ hk => hk)) | (rw [add_block]; exact Kd.own_blk (Kd.R_away HO_3.out (fun _ hk => hk))) | (show (Addr.add _ _).block ≠ _; rw [add_block]; exact Kd.own_blk (Kd.R_away HO_3.out (fun _ hk => hk))) | (dsimp only; exact Kd.own_blk (Kd.R_away HO_3.out (fun _ hk => hk)))) _).trans (((cell_far (p := ⟨gb278, _, none⟩) (by first | exact Kd.own_blk (Kd.R_away HO_3.out (fun _ hk => hk)) | (rw [add_block]; exact Kd.own_blk (Kd.R_away HO_3.out (fun _ hk => hk))) | (show (Addr.add _ _).block ≠ _; rw [add_block]; exact Kd.own_blk (Kd.R_away HO_3.out (fun _ hk => hk))) | (dsimp only; exact Kd.own_blk (Kd.R_away HO_3.out (fun _ hk => hk)))) _).trans (((cell_far (p := ⟨gb278, _, none⟩) (by first | exact Kd.own_blk (Kd.R_away HO_3.out (fun _ hk => hk)) | (rw [add_block]; exact Kd.own_blk (Kd.R_away HO_3.out (fun _ hk => hk))) | (show (Addr.add _ _).block ≠ _; rw [add_block]; exact Kd.own_blk (Kd.R_away HO_3.out (fun _ hk => hk))) | (dsimp only; exact Kd.own_blk (Kd.R_away HO_3.out (fun _ hk => hk)))) _).trans (hHeld.2.2.1)))))), ((cell_far (p := ⟨gb278, _, none⟩) (by first | exact Kd.own_blk (Kd.R_away HO_3.out (fun _ hk => hk)) | (rw [add_block]; exact Kd.own_blk (Kd.R_away HO_3.out (fun _ hk => hk))) | (show (Addr.add _ _).block ≠ _; rw [add_block]; exact Kd.own_blk (Kd.R_away HO_3.out (fun _ hk => hk))) | (dsimp only; exact Kd.own_blk (Kd.R_away HO_3.out (fun _ hk => hk)))) _).trans (((cell_far (p := ⟨gb278, _, none⟩) (by first | exact Kd.own_blk (Kd.R_away HO_3.out (fun _ hk => hk)) | (rw [add_block]; exact Kd.own_blk (Kd.R_away HO_3.out (fun _ hk => hk))) | (show (Addr.add _ _).block ≠ _; rw [add_block]; exact Kd.own_blk (Kd.R_away HO_3.out (fun _ hk => hk))) | (dsimp only; exact Kd.own_blk (Kd.R_away HO_3.out (fun _ hk => hk)))) _).trans (((cell_far (p := ⟨gb278, _, none⟩) (by first | exact Kd.own_blk (Kd.R_away HO_3.out (fun _ hk => hk)) | (rw [add_block]; exact Kd.own_blk (Kd.R_away HO_3.out (fun _ hk => hk))) | (show (Addr.add _ _).block ≠ _; rw [add_block]; exact Kd.own_blk (Kd.R_away HO_3.out (fun _ hk => hk))) | (dsimp only; exact Kd.own_blk (Kd.R_away HO_3.out (fun _ hk => hk)))) _).trans (hHeld.2.2.2))))))⟩ (fun hHeld => ?_)
                    clear hK K; refine pure_ (i := 15) (N := some 12) (v := ?_) (a' := ?_) #[tT,tT,tT,tT,tT,tT,tT,tT,tT,tT,tT,tT,tT,tT,tT,tT] rfl rfl (any_of HT_.out (by kernel_rfl)) (fun _ _ _ h => h) (Or.inl ⟨by rfl, ?_⟩) ?_ ?_
                    rotate_left
                    ·intro w'
                     go_simp
                     with_reducible rfl
                    rotate_left
                    ·simp only [Act.put, sA, sB, sC, i64_w, i32_w]
                     rfl
                    refine done_ (done_of HT_.out (by kernel_rfl)) ?_
                    try go_wp2
                    have n0_ : Aside0 (Kd.R k37 37 (((w39.setCell ⟨gb278, 0, none⟩ (.string t274)).setCell ⟨gb278, 1, none⟩ (.int .i64 t275)).setCell ⟨gb278, 2, none⟩ (.string t276)) w.heap.size (fun k_ => k_ ≠ gb278) (.slice (some ad273) t255.length co13) t255) := ⟨rz (Kd.R_mono (Kd.R_far (p := ⟨gb278, 2, none⟩) (Kd.R_far (p := ⟨gb278, 1, none⟩) (Kd.R_far (p := ⟨gb278, 0, none⟩) (Kd.R_mono HO_3.out (fun k_ hk => (⟨hk, hk⟩ : _ ∧ k_ ≠ gb278))) (fun _ hk => hk.2) (.string t274)) (fun _ hk => hk.2) (.int .i64 t275)) (fun _ hk => hk.2) (.string t276)) (fun _ hk => hk.1))⟩; have n1_ : Aside0 ((((w39.setCell ⟨gb278, 0, none⟩ (.string t274)).setCell ⟨gb278, 1, none⟩ (.int .i64 t275)).setCell ⟨gb278, 2, none⟩ (.string t276)).heap[gb278]? = some (.cells #[.string t274, .int .i64 t275, .string t276] 37 (0, 0))) := ⟨by (with_reducible repeat (first | refine kN ?_ _ | refine kD ?_ | refine kA ?_ _)); refine blk_put (cs := #[.string t274, .int .i64 t275, .string (⟨#[]⟩ : ByteArray)]) ?_ 2 _ rfl; (with_reducible repeat (first | refine kN ?_ _ | refine kD ?_ | refine kA ?_ _)); refine blk_put (cs := #[.string t274, .int .i64 0, .string (⟨#[]⟩ : ByteArray)]) ?_ 1 _ rfl; (with_reducible repeat (first | refine kN ?_ _ | refine kD ?_ | refine kA ?_ _)); refine blk_put (cs := #[.string (⟨#[]⟩ : ByteArray), .int .i64 0, .string (⟨#[]⟩ : ByteArray)]) ?_ 0 _ rfl; (with_reducible repeat (first | refine kN ?_ _ | refine kD ?_ | refine kA ?_ _)); exact BK278.out⟩
                    have n2_ : Aside0 (Below w.heap.size w (((w39.setCell ⟨gb278, 0, none⟩ (.string t274)).setCell ⟨gb278, 1, none⟩ (.int .i64 t275)).setCell ⟨gb278, 2, none⟩ (.string t276))) := ⟨bq⟩; (try clear HO_3); (try clear BK278); (try clear HB); generalize (((w39.setCell ⟨gb278, 0, none⟩ (.string t274)).setCell ⟨gb278, 1, none⟩ (.int .i64 t275)).setCell ⟨gb278, 2, none⟩ (.string t276)) = w43 at n0_ n1_ n2_ ⊢
                    have HO_3 := n0_; have BK278 := n1_; have HB := n2_; clear n0_ n1_ n2_; replace HO_3 := am (rD HO_3.out); replace BK278 := am (kD BK278.out); replace HB := am (bO HB.out); refine start_ (n := 13) (S := fun w' => True) (ds := []) #[fF,fF,fF,fF,fF,fF,fF,fF,fF,fF,fF,fF,fF] (by kernel_rfl) rfl rfl trivial (fun hHeld => ?_); refine with_tabW hogsheadlaw4_UnionFirst.tab22 hogsheadlaw4_UnionFirst.bits22 (fun HT_ HW_ => ?_)
                    generalize w43.drew = w44 at HO_3 BK278 HB hHeld ⊢
                    refine pu 0 (some 106) ?_
                    refine pu 1 (some 107) ?_
                    refine pure_ (i := 2) (N := some 108) (v := undef) (a' := ?_) #[tT,tT,tT,fF,fF,fF,fF,fF,fF,fF,fF,fF,fF] rfl rfl (any_of HT_.out (by kernel_rfl)) (fun _ _ _ h => h) (Or.inr ⟨by rfl, rfl⟩) ?_ ?_
                    rotate_left
                    ·simp only [Act.put, sA, sB, sC, i64_w, i32_w]
                     rfl
                    refine pure_ (i := 3) (N := some 109) (v := undef) (a' := ?_) #[tT,tT,tT,tT,fF,fF,fF,fF,fF,fF,fF,fF,fF] rfl rfl (any_of HT_.out (by kernel_rfl)) (fun _ _ _ h => h) (Or.inr ⟨by rfl, rfl⟩) ?_ ?_
                    rotate_left
                    ·simp only [Act.put, sA, sB, sC, i64_w, i32_w]
                     rfl
                    refine pure_ (i := 4) (N := some 110) (v := undef) (a' := ?_) #[tT,tT,tT,tT,tT,fF,fF,fF,fF,fF,fF,fF,fF] rfl rfl (any_of HT_.out (by kernel_rfl)) (fun _ _ _ h => h) (Or.inr ⟨by rfl, rfl⟩) ?_ ?_
                    rotate_left
                    ·simp only [Act.put, sA, sB, sC, i64_w, i32_w]
                     rfl
                    refine pure_ (i := 5) (N := some 111) (v := undef) (a' := ?_) #[tT,tT,tT,tT,tT,tT,fF,fF,fF,fF,fF,fF,fF] rfl rfl (any_of HT_.out (by kernel_rfl)) (fun _ _ _ h => h) (Or.inr ⟨by rfl, rfl⟩) ?_ ?_
                    rotate_left
                    ·simp only [Act.put, sA, sB, sC, i64_w, i32_w]
                     rfl
                    refine pure_ (i := 6) (N := some 112) (v := undef) (a' := ?_) #[tT,tT,tT,tT,tT,tT,tT,fF,fF,fF,fF,fF,fF] rfl rfl (any_of HT_.out (by kernel_rfl)) (fun _ _ _ h => h) (Or.inr ⟨by rfl, rfl⟩) ?_ ?_
                    rotate_left
                    ·simp only [Act.put, sA, sB, sC, i64_w, i32_w]
                     rfl
                    refine pure_ (i := 7) (N := some 113) (v := undef) (a' := ?_) #[tT,tT,tT,tT,tT,tT,tT,tT,fF,fF,fF,fF,fF] rfl rfl (any_of HT_.out (by kernel_rfl)) (fun _ _ _ h => h) (Or.inr ⟨by rfl, rfl⟩) ?_ ?_
                    rotate_left
                    ·simp only [Act.put, sA, sB, sC, i64_w, i32_w]
                     rfl
                    refine pure_ (i := 8) (N := some 114) (v := undef) (a' := ?_) #[tT,tT,tT,tT,tT,tT,tT,tT,tT,fF,fF,fF,fF] rfl rfl (any_of HT_.out (by kernel_rfl)) (fun _ _ _ h => h) (Or.inr ⟨by rfl, rfl⟩) ?_ ?_
                    rotate_left
                    ·simp only [Act.put, sA, sB, sC, i64_w, i32_w]
                     rfl
                    refine pure_ (i := 9) (N := some 115) (v := undef) (a' := ?_) #[tT,tT,tT,tT,tT,tT,tT,tT,tT,tT,fF,fF,fF] rfl rfl (any_of HT_.out (by kernel_rfl)) (fun _ _ _ h => h) (Or.inr ⟨by rfl, rfl⟩) ?_ ?_
                    rotate_left
                    ·simp only [Act.put, sA, sB, sC, i64_w, i32_w]
                     rfl
                    refine pure_ (i := 10) (N := some 116) (v := undef) (a' := ?_) #[tT,tT,tT,tT,tT,tT,tT,tT,tT,tT,tT,fF,fF] rfl rfl (any_of HT_.out (by kernel_rfl)) (fun _ _ _ h => h) (Or.inr ⟨by rfl, rfl⟩) ?_ ?_
                    rotate_left
                    ·simp only [Act.put, sA, sB, sC, i64_w, i32_w]
                     rfl
                    refine pu 11 (some 117) ?_
                    refine pu 12 (some 9) ?_
                    refine done_ (done_of HT_.out (by kernel_rfl)) ?_
                    try go_wp2
                    go_roundg k4
                    case measure => have := HJ1.out; have := HK2.out; have := HK3.out; have := HK4.out; omega
                    case rel => exact ⟨(true), (wrap64 (x10_4 + 1)), (by first | rfl | (simp; done) | (simp [*]; done)), (by first | rfl | (simp; done) | (simp [*]; done)), H', ⟨by have := HJ1.out; have := HK2.out; have := HK3.out; have := HK4.out; omega⟩, ⟨rz (Kd.R_mono HO_3.out (fun _ hk => trivial))⟩, ⟨bq⟩⟩
                   ·replace c35 := Bool.eq_false_iff.mpr c35
                    subst c35; have H1 : (if t277 = true then (hogsheadlaw4_UnionFirst.l2 k4 l0 t255 x8_3 (t274.toList == (((rd_T37 t255 x8_3).f0).toList) && (t275 == ((rd_T37 t255 x8_3).f1) && (t276.toList == (((rd_T37 t255 x8_3).f2).toList)))) (wrap64 (x10_4 + 1))) else (hogsheadlaw4_UnionFirst.l2 k4 l0 t255 x8_3 false (wrap64 (x10_4 + 1)))) = some true := by rw [if_neg (show ¬ (false = true) by decide)] at H; exact H
                    clear H; have H := H1; clear H1; by_cases c45 : t277 = true
                    ·subst c45
                     have H1 : (hogsheadlaw4_UnionFirst.l2 k4 l0 t255 x8_3 (t274.toList == (((rd_T37 t255 x8_3).f0).toList) && (t275 == ((rd_T37 t255 x8_3).f1) && (t276.toList == (((rd_T37 t255 x8_3).f2).toList)))) (wrap64 (x10_4 + 1))) = some true := by rw [if_pos rfl] at H; exact H
                     clear H; have H := H1; clear H1; have H' := am H; clear H; try go_wp2
                     replace HO_3 := am (rD HO_3.out); replace HB := am (bO HB.out); have p272 : 0 ≤ (x10_4 : Int) := of_decide_eq_true (by assumption); have q272 : x10_4 < (l0.length : Int) := of_decide_eq_true (by assumption); obtain ⟨ad272, A272_0, c272_0, e272, hx272_0, hl272_0, hi272_0⟩ := at_L4 HR0.out x10_4 p272 q272; have hw272_0 := hx272_0; obtain rfl : ad262 = ad272 := (by injection e272); replace hx272_0 := (HB.out.cell (wB w _ hx272_0)).trans hx272_0; have HR272_0 := am hi272_0; have HC272_0 := am hl272_0; clear hi272_0 hl272_0; replace p272 := eq_true p272; replace q272 := eq_true q272; have p273 : 0 ≤ (x8_3 : Int) := of_decide_eq_true (by assumption); have q273 : x8_3 < (t255.length : Int) := of_decide_eq_true (by assumption); obtain ⟨ad273, e273, hx273_0, hx273_1, hx273_2⟩ := at_T37 (Kd.R_reads' HO_3.out).2.2 x8_3 p273 q273; cases e273; replace p273 := eq_true p273; replace q273 := eq_true q273; refine start_ (n := 16) (S := fun w' => w'.cell? (ad262.add (x10_4).toNat) = some (.slice A272_0 (rd_L4 l0 x10_4).length c272_0) ∧ w'.cell? (ad273.add ((x8_3).toNat * 3)) = some (.string ((rd_T37 t255 x8_3).f0)) ∧ w'.cell? ⟨(ad273.add ((x8_3).toNat * 3)).block, (ad273.add ((x8_3).toNat * 3)).off + 1, none⟩ = some (.int .i64 ((rd_T37 t255 x8_3).f1)) ∧ w'.cell? ⟨(ad273.add ((x8_3).toNat * 3)).block, (ad273.add ((x8_3).toNat * 3)).off + 2, none⟩ = some (.string ((rd_T37 t255 x8_3).f2))) (ds := []) #[fF,fF,fF,fF,fF,fF,fF,fF,fF,fF,fF,fF,fF,fF,fF,fF] (by kernel_rfl) rfl rfl ⟨((HB.out.cell (wB w _ hw272_0)).trans hw272_0), hx273_0, hx273_1, hx273_2⟩ (fun hHeld => ?_); refine with_tabW hogsheadlaw4_UnionFirst.tab21 hogsheadlaw4_UnionFirst.bits21 (fun HT_ HW_ => ?_)
                     generalize wr.drew = w46 at HO_3 HB HR272_0 hx272_0 hx273_0 hx273_1 hx273_2 hHeld ⊢
                     refine pu 0 (some 94) ?_
                     refine pu 1 (some 95) ?_
                     refine pu 2 (some 96) ?_
                     refine pu 4 (some 98) ?_
                     refine pu 5 (some 99) ?_
                     refine pu 6 (some 100) ?_
                     refine pu 7 (some 101) ?_
                     refine take_ (i := 3) (N := some 97) (v := ?_) (a' := ?_) #[tT,tT,tT,tT,tT,tT,tT,tT,fF,fF,fF,fF,fF,fF,fF,fF] rfl rfl (take_ofW HT_.out HW_.out (by kernel_rfl)) (fun _ _ _ h => h) (Or.inl ⟨by rfl, ?_⟩) hHeld ?_ ?_
                     rotate_left
                     ·rintro w' ⟨s0, s1, s2, s3⟩
                      go_simp
                      with_reducible rfl
                     rotate_left
                     ·simp only [Act.put, sA, sB, sC, i64_w, i32_w]
                      rfl
                     refine take_ (i := 8) (N := some 102) (v := ?_) (a' := ?_) #[tT,tT,tT,tT,tT,tT,tT,tT,tT,fF,fF,fF,fF,fF,fF,fF] rfl rfl (take_ofW HT_.out HW_.out (by kernel_rfl)) (fun _ _ _ h => h) (Or.inl ⟨by rfl, ?_⟩) hHeld ?_ ?_
                     rotate_left
                     ·rintro w' ⟨s0, s1, s2, s3⟩
                      go_simp
                      with_reducible rfl
                     rotate_left
                     ·simp only [Act.put, sA, sB, sC, i64_w, i32_w]
                      rfl
                     refine join_ (σ := Nat) 2 #[tT,tT,tT,tT,tT,tT,tT,tT,tT,tT,tT,tT,tT,tT,fF,fF] (fun s_ => [(103, .tuple #[.agg #[.string t274, .int .i64 t275, .string t276], .bool true]), (11, .pointer (some ⟨s_, 0, none⟩)), (93, .tuple #[.agg #[.string t274, .int .i64 t275, .string t276], .bool true]), (104, .agg #[.string t274, .int .i64 t275, .string t276]), (105, .bool true)]) (fun s_ w' => (w'.cell? (ad262.add (x10_4).toNat) = some (.slice A272_0 (rd_L4 l0 x10_4).length c272_0) ∧ w'.cell? (ad273.add ((x8_3).toNat * 3)) = some (.string ((rd_T37 t255 x8_3).f0)) ∧ w'.cell? ⟨(ad273.add ((x8_3).toNat * 3)).block, (ad273.add ((x8_3).toNat * 3)).off + 1, none⟩ = some (.int .i64 ((rd_T37 t255 x8_3).f1)) ∧ w'.cell? ⟨(ad273.add ((x8_3).toNat * 3)).block, (ad273.add ((x8_3).toNat * 3)).off + 2, none⟩ = some (.string ((rd_T37 t255 x8_3).f2))) ∧ (Kd.R k37 37 w' w.heap.size (fun k_ => k_ ≠ s_) (.slice (some ad273) t255.length co13) t255) ∧ (w'.heap[s_]? = some (.cells #[.string (⟨#[]⟩ : ByteArray), .int .i64 0, .string (⟨#[]⟩ : ByteArray)] 37 (0, 0))) ∧ (w.heap.size ≤ s_) ∧ (w.heap.size ≤ s_) ∧ (Below w.heap.size w w')) ?_ ?_
                     rotate_left
                     ·intro hCont
                      refine two_ (i := 9) (j := 13) (Ni := some 103) (Nj := some 11) #[tT,tT,tT,tT,tT,tT,tT,tT,tT,tT,fF,fF,fF,fF,fF,fF] #[tT,tT,tT,tT,tT,tT,tT,tT,tT,fF,fF,fF,fF,tT,fF,fF] rfl rfl rfl rfl (two_of HT_.out (by kernel_rfl)) (by decide) (by decide) (fun K hK => ?_) (fun K hK => ?_)
                      ·skip
                       refine goes_ Tryd.func16 (by kernel_rfl) rfl #[.slice A272_0 (rd_L4 l0 x10_4).length c272_0, .string ((rd_T37 t255 x8_3).f0)] (by rfl) rfl rfl (by (try simp only [mT, mC, mN]); first | done | rfl | (simp only [lD, lT]; rfl)) ?_
                       with_reducible refine (find_Lookup.calls k4 _ _ (rd_L4 l0 x10_4) ((rd_T37 t255 x8_3).f0) t274 t275 t276 true _ ?side1 ?side2 A34.out).mono ?_
                       (case side1 => exact cz (Kd.C_below HR272_0.out HB.out))
                       (case side2 => exact HC272_0.out)
                       rintro e w47 ⟨rfl, hb⟩; have HS1_ := (hb.cell (wB _ _ (hHeld.2.1))).trans (hHeld.2.1); have HS2_ := (hb.cell (wB _ _ (hHeld.2.2.1))).trans (hHeld.2.2.1); have HS3_ := (hb.cell (wB _ _ (hHeld.2.2.2))).trans (hHeld.2.2.2); refine ⟨_, rfl, ?_⟩
                       replace HO_3 := am (Kd.R_below (rz HO_3.out) hb); replace HB := bs hb; refine hK.out _ _ ⟨((HB.out.cell (wB w _ hw272_0)).trans hw272_0), HS1_, HS2_, HS3_⟩ (fun hHeld => ?_)
                       clear hK K; refine norm_ (a' := ?_) ?_ ?_
                       rotate_left
                       ·show Act.put _ (some 103) _ = _
                        simp only [Act.put, sA, sB, sC, i64_w, i32_w]
                        rfl
                       refine pu 10 (some 93) ?_
                       refine pu 11 (some 104) ?_
                       refine pu 12 (some 105) ?_
                       refine one_ (i := 13) (N := some 11) #[tT,tT,tT,tT,tT,tT,tT,tT,tT,tT,tT,tT,tT,tT,fF,fF] rfl rfl (one_of HT_.out (by kernel_rfl)) (by decide) (fun K hK => ?_)
                       refine box_step ?hg (N := 11) ?hd (cs := #[.string (⟨#[]⟩ : ByteArray), .int .i64 0, .string (⟨#[]⟩ : ByteArray)]) (t := 37) ?hr ?_; (case hd => rfl); (case hg => rfl); (case hr => first | (go_simp; done) | (go_simp; rfl))
                       intro gb278 hg w48 hbox hb; have HS1_ := (hb.cell (wB _ _ (hHeld.2.1))).trans (hHeld.2.1); have HS2_ := (hb.cell (wB _ _ (hHeld.2.2.1))).trans (hHeld.2.2.1); have HS3_ := (hb.cell (wB _ _ (hHeld.2.2.2))).trans (hHeld.2.2.2); replace HO_3 := am (Kd.R_below (Kd.R_elderB (rz HO_3.out) gb278 (Nat.le_of_eq hg.symm)) hb); have BK278 := am (hbox); have GW278 := gz hg; have GE278 := gz hg; replace HB := bs hb; clear hb hbox hg; refine hK.out _ _ ⟨((HB.out.cell (wB w _ hw272_0)).trans hw272_0), HS1_, HS2_, HS3_⟩ (fun hHeld => ?_)
                       clear hK K; refine norm_ (a' := ?_) ?_ ?_
                       rotate_left
                       ·show Act.put _ (some 11) _ = _
                        simp only [Act.put, sA, sB, sC, i64_w, i32_w]
                        rfl
                       exact norm_ (by simp only [putAll, Act.put, sA, sB, sC]) (hCont (gb278) _ ⟨hHeld, (rz (Kd.R_mono HO_3.out (fun _ hk => hk.2))), (bk BK278.out), GW278.out, GE278.out, bq⟩)
                      ·skip
                       refine box_step ?hg (N := 11) ?hd (cs := #[.string (⟨#[]⟩ : ByteArray), .int .i64 0, .string (⟨#[]⟩ : ByteArray)]) (t := 37) ?hr ?_; (case hd => rfl); (case hg => rfl); (case hr => first | (go_simp; done) | (go_simp; rfl))
                       intro gb278 hg w47 hbox hb; have HS1_ := (hb.cell (wB _ _ (hHeld.2.1))).trans (hHeld.2.1); have HS2_ := (hb.cell (wB _ _ (hHeld.2.2.1))).trans (hHeld.2.2.1); have HS3_ := (hb.cell (wB _ _ (hHeld.2.2.2))).trans (hHeld.2.2.2); replace HO_3 := am (Kd.R_below (Kd.R_elderB (rz HO_3.out) gb278 (Nat.le_of_eq hg.symm)) hb); have BK278 := am (hbox); have GW278 := gz hg; have GE278 := gz hg; replace HB := bs hb; clear hb hbox hg; refine hK.out _ _ ⟨((HB.out.cell (wB w _ hw272_0)).trans hw272_0), HS1_, HS2_, HS3_⟩ (fun hHeld => ?_)
                       clear hK K; refine norm_ (a' := ?_) ?_ ?_
                       rotate_left
                       ·show Act.put _ (some 11) _ = _
                        simp only [Act.put, sA, sB, sC, i64_w, i32_w]
                        rfl
                       refine one_ (i := 9) (N := some 103) #[tT,tT,tT,tT,tT,tT,tT,tT,tT,tT,fF,fF,fF,tT,fF,fF] rfl rfl (one_of HT_.out (by kernel_rfl)) (by decide) (fun K hK => ?_)
                       refine goes_ Tryd.func16 (by kernel_rfl) rfl #[.slice A272_0 (rd_L4 l0 x10_4).length c272_0, .string ((rd_T37 t255 x8_3).f0)] (by rfl) rfl rfl (by (try simp only [mT, mC, mN]); first | done | rfl | (simp only [lD, lT]; rfl)) ?_
                       with_reducible refine (find_Lookup.calls k4 _ _ (rd_L4 l0 x10_4) ((rd_T37 t255 x8_3).f0) t274 t275 t276 true _ ?side1 ?side2 A34.out).mono ?_
                       (case side1 => exact cz (Kd.C_below HR272_0.out HB.out))
                       (case side2 => exact HC272_0.out)
                       rintro e w48 ⟨rfl, hb⟩; have HS1_ := (hb.cell (wB _ _ (hHeld.2.1))).trans (hHeld.2.1); have HS2_ := (hb.cell (wB _ _ (hHeld.2.2.1))).trans (hHeld.2.2.1); have HS3_ := (hb.cell (wB _ _ (hHeld.2.2.2))).trans (hHeld.2.2.2); refine ⟨_, rfl, ?_⟩
                       replace HO_3 := am (Kd.R_below (rz HO_3.out) hb); replace BK278 := am (blk_below (g := gb278) (o := .cells #[.string (⟨#[]⟩ : ByteArray), .int .i64 0, .string (⟨#[]⟩ : ByteArray)] 37 (0, 0)) (bk BK278.out) hb); replace HB := bw hb; refine hK.out _ _ ⟨((HB.out.cell (wB w _ hw272_0)).trans hw272_0), HS1_, HS2_, HS3_⟩ (fun hHeld => ?_)
                       clear hK K; refine norm_ (a' := ?_) ?_ ?_
                       rotate_left
                       ·show Act.put _ (some 103) _ = _
                        simp only [Act.put, sA, sB, sC, i64_w, i32_w]
                        rfl
                       refine pu 10 (some 93) ?_
                       refine pu 11 (some 104) ?_
                       refine pu 12 (some 105) ?_
                       exact norm_ (by simp only [putAll, Act.put, sA, sB, sC]) (hCont (gb278) _ ⟨hHeld, (rz (Kd.R_mono HO_3.out (fun _ hk => hk.2))), (bk BK278.out), GW278.out, GE278.out, bq⟩)
                     rintro gb278 w49 ⟨hS_, h0_, h1_, h2_, h3_, h4_⟩; have n0_ : Aside0 (Kd.R k37 37 w49 w.heap.size (fun k_ => k_ ≠ gb278) (.slice (some ad273) t255.length co13) t255) := ⟨h0_⟩; have n1_ : Aside0 (w49.heap[gb278]? = some (.cells #[.string (⟨#[]⟩ : ByteArray), .int .i64 0, .string (⟨#[]⟩ : ByteArray)] 37 (0, 0))) := ⟨h1_⟩; have n2_ : Aside0 (w.heap.size ≤ gb278) := ⟨h2_⟩; have n3_ : Aside0 (w.heap.size ≤ gb278) := ⟨h3_⟩; have n4_ : Aside0 (Below w.heap.size w w49) := ⟨h4_⟩; clear HO_3; clear HB; clear h0_ h1_ h2_ h3_ h4_; have HO_3 := n0_; have BK278 := n1_; have GW278 := n2_; have GE278 := n3_; have HB := n4_; clear n0_ n1_ n2_ n3_ n4_; have hHeld : w49.cell? (ad262.add (x10_4).toNat) = some (.slice A272_0 (rd_L4 l0 x10_4).length c272_0) ∧ w49.cell? (ad273.add ((x8_3).toNat * 3)) = some (.string ((rd_T37 t255 x8_3).f0)) ∧ w49.cell? ⟨(ad273.add ((x8_3).toNat * 3)).block, (ad273.add ((x8_3).toNat * 3)).off + 1, none⟩ = some (.int .i64 ((rd_T37 t255 x8_3).f1)) ∧ w49.cell? ⟨(ad273.add ((x8_3).toNat * 3)).block, (ad273.add ((x8_3).toNat * 3)).off + 2, none⟩ = some (.string ((rd_T37 t255 x8_3).f2)) := hS_; refine norm_ (a' := ?_) ?_ ?_
                     rotate_left
                     ·simp only [putAll, Act.put, sA, sB, sC]
                      rfl
                     refine one_ (i := 14) (N := none) #[tT,tT,tT,tT,tT,tT,tT,tT,tT,tT,tT,tT,tT,tT,tT,fF] rfl rfl (one_of HT_.out (by kernel_rfl)) (by decide) (fun K hK => ?_)
                     have hs50 : w49.cell? ⟨gb278, 0, none⟩ = some (.string (⟨#[]⟩ : ByteArray)) := (blk_cell BK278.out 0).trans rfl; have hfs50 := blk_frozen BK278.out 0; have hs51 : w49.cell? ⟨gb278, 1, none⟩ = some (.int .i64 0) := (blk_cell BK278.out 1).trans rfl; have hfs51 := blk_frozen BK278.out 1; have hs52 : w49.cell? ⟨gb278, 2, none⟩ = some (.string (⟨#[]⟩ : ByteArray)) := (blk_cell BK278.out 2).trans rfl; have hfs52 := blk_frozen BK278.out 2; refine skip_ (w1 := ?_) (by rfl) rfl ?_ ?_
                     rotate_left
                     ·go_simp
                      rfl
                     refine hK.out _ _ ⟨((cell_far (p := ⟨gb278, _, none⟩) (by first | exact Nat.ne_of_lt (Nat.lt_of_lt_of_le (by have := wB _ _ hw272_0; first | rwa [add_block] at this | exact this) GW278.out) | (rw [add_block]; exact Nat.ne_of_lt (Nat.lt_of_lt_of_le (by have := wB _ _ hw272_0; first | rwa [add_block] at this | exact this) GW278.out)) | (show (Addr.add _ _).block ≠ _; rw [add_block]; exact Nat.ne_of_lt (Nat.lt_of_lt_of_le (by have := wB _ _ hw272_0; first | rwa [add_block] at this | exact this) GW278.out)) | (dsimp only; exact Nat.ne_of_lt (Nat.lt_of_lt_of_le (by have := wB _ _ hw272_0; first | rwa [add_block] at this | exact this) GW278.out))) _).trans (((cell_far (p := ⟨gb278, _, none⟩) (by first | exact Nat.ne_of_lt (Nat.lt_of_lt_of_le (by have := wB _ _ hw272_0; first | rwa [add_block] at this | exact this) GW278.out) | (rw [add_block]; exact Nat.ne_of_lt (Nat.lt_of_lt_of_le (by have := wB _ _ hw272_0; first | rwa [add_block] at this | exact this) GW278.out)) | (show (Addr.add _ _).block ≠ _; rw [add_block]; exact Nat.ne_of_lt (Nat.lt_of_lt_of_le (by have := wB _ _ hw272_0; first | rwa [add_block] at this | exact this) GW278.out)) | (dsimp only; exact Nat.ne_of_lt (Nat.lt_of_lt_of_le (by have := wB _ _ hw272_0; first | rwa [add_block] at this | exact this) GW278.out))) _).trans (((cell_far (p := ⟨gb278, _, none⟩) (by first | exact Nat.ne_of_lt (Nat.lt_of_lt_of_le (by have := wB _ _ hw272_0; first | rwa [add_block] at this | exact this) GW278.out) | (rw [add_block]; exact Nat.ne_of_lt (Nat.lt_of_lt_of_le (by have := wB _ _ hw272_0; first | rwa [add_block] at this | exact this) GW278.out)) | (show (Addr.add _ _).block ≠ _; rw [add_block]; exact Nat.ne_of_lt (Nat.lt_of_lt_of_le (by have := wB _ _ hw272_0; first | rwa [add_block] at this | exact this) GW278.out)) | (dsimp only; exact Nat.ne_of_lt (Nat.lt_of_lt_of_le (by have := wB _ _ hw272_0; first | rwa [add_block] at this | exact this) GW278.out))) _).trans (hHeld.1)))))), ((cell_far (p := ⟨gb278, _, none⟩) (by first | exact Kd.own_blk (Kd.R_away HO_3.out (fun _ hk => hk)) | (rw [add_block]; exact Kd.own_blk (Kd.R_away HO_3.out (fun _ hk => hk))) | (show (Addr.add _ _).block ≠ _; rw [add_block]; exact Kd.own_blk (Kd.R_away HO_3.out (fun _ hk => hk))) | (dsimp only; exact Kd.own_blk (Kd.R_away HO_3.out (fun _ hk => hk)))) _).trans (((cell_far (p := ⟨gb278, _, none⟩) (by first | exact Kd.own_blk (Kd.R_away HO_3.out (fun _ hk => hk)) | (rw [add_block]; exact Kd.own_blk (Kd.R_away HO_3.out (fun _ hk => hk))) | (show (Addr.add _ _).block ≠ _; rw [add_block]; exact Kd.own_blk (Kd.R_away HO_3.out (fun _ hk => hk))) | (dsimp only; exact Kd.own_blk (Kd.R_away HO_3.out (fun _ hk => hk)))) _).trans (((cell_far (p := ⟨gb278, _, none⟩) (by first | exact Kd.own_blk (Kd.R_away HO_3.out (fun _ hk => hk)) | (rw [add_block]; exact Kd.own_blk (Kd.R_away HO_3.out (fun _ hk => hk))) | (show (Addr.add _ _).block ≠ _; rw [add_block]; exact Kd.own_blk (Kd.R_away HO_3.out (fun _ hk => hk))) | (dsimp only; exact Kd.own_blk (Kd.R_away HO_3.out (fun _ hk => hk)))) _).trans (hHeld.2.1)))))), ((cell_far (p := ⟨gb278, _, none⟩) (by first | exact Kd.own_blk (Kd.R_away HO_3.out (fun _ hk => hk)) | (rw [add_block]; exact Kd.own_blk (Kd.R_away HO_3.out (fun _ hk => hk))) | (show (Addr.add _ _).block ≠ _; rw [add_block]; exact Kd.own_blk (Kd.R_away HO_3.out (fun _ hk => hk))) | (dsimp only; exact Kd.own_blk (Kd.R_away HO_3.out (fun _ hk => hk)))) _).trans (((cell_far (p := ⟨gb278, _, none⟩) (by first | exact Kd.own_blk (Kd.R_away HO_3.out (fun _ hk => hk)) | (rw [add_block]; exact Kd.own_blk (Kd.R_away HO_3.out (fun _ hk => hk))) | (show (Addr.add _ _).block ≠ _; rw [add_block]; exact Kd.own_blk (Kd.R_away HO_3.out (fun _ hk => hk))) | (dsimp only; exact Kd.own_blk (Kd.R_away HO_3.out (fun _ hk => hk)))) _).trans (((cell_far (p := ⟨gb278, _, none⟩) (by first | exact Kd.own_blk (Kd.R_away HO_3.out (fun _ hk => hk)) | (rw [add_block]; exact Kd.own_blk (Kd.R_away HO_3.out (fun _ hk => hk))) | (show (Addr.add _ _).block ≠ _; rw [add_block]; exact Kd.own_blk (Kd.R_away HO_3.out (fun _ hk => hk))) | (dsimp only; exact Kd.own_blk (Kd.R_away HO_3.out (fun _ hk => hk)))) _).trans (hHeld.2.2.1)))))), ((cell_far (p := ⟨gb278, _, none⟩) (by first | exact Kd.own_blk (Kd.R_away HO_3.out (fun _ hk => hk)) | (rw [add_block]; exact Kd.own_blk (Kd.R_away HO_3.out (fun _ hk => hk))) | (show (Addr.add _ _).block ≠ _; rw [add_block]; exact Kd.own_blk (Kd.R_away HO_3.out (fun _ hk => hk))) | (dsimp only; exact Kd.own_blk (Kd.R_away HO_3.out (fun _ hk => hk)))) _).trans (((cell_far (p := ⟨gb278, _, none⟩) (by first | exact Kd.own_blk (Kd.R_away HO_3.out (fun _ hk => hk)) | (rw [add_block]; exact Kd.own_blk (Kd.R_away HO_3.out (fun _ hk => hk))) | (show (Addr.add _ _).block ≠ _; rw [add_block]; exact Kd.own_blk (Kd.R_away HO_3.out (fun _ hk => hk))) | (dsimp only; exact Kd.own_blk (Kd.R_away HO_3.out (fun _ hk => hk)))) _).trans (((cell_far (p := ⟨gb278, _, none⟩) (by first | exact Kd.own_blk (Kd.R_away HO_3.out (fun _ hk => hk)) | (rw [add_block]; exact Kd.own_blk (Kd.R_away HO_3.out (fun _ hk => hk))) | (show (Addr.add _ _).block ≠ _; rw [add_block]; exact Kd.own_blk (Kd.R_away HO_3.out (fun _ hk => hk))) | (dsimp only; exact Kd.own_blk (Kd.R_away HO_3.out (fun _ hk => hk)))) _).trans (hHeld.2.2.2))))))⟩ (fun hHeld => ?_)
                     clear hK K; refine pure_ (i := 15) (N := some 12) (v := ?_) (a' := ?_) #[tT,tT,tT,tT,tT,tT,tT,tT,tT,tT,tT,tT,tT,tT,tT,tT] rfl rfl (any_of HT_.out (by kernel_rfl)) (fun _ _ _ h => h) (Or.inl ⟨by rfl, ?_⟩) ?_ ?_
                     rotate_left
                     ·intro w'
                      go_simp
                      with_reducible rfl
                     rotate_left
                     ·simp only [Act.put, sA, sB, sC, i64_w, i32_w]
                      rfl
                     refine done_ (done_of HT_.out (by kernel_rfl)) ?_
                     try go_wp2
                     have n0_ : Aside0 (Kd.R k37 37 (((w49.setCell ⟨gb278, 0, none⟩ (.string t274)).setCell ⟨gb278, 1, none⟩ (.int .i64 t275)).setCell ⟨gb278, 2, none⟩ (.string t276)) w.heap.size (fun k_ => k_ ≠ gb278) (.slice (some ad273) t255.length co13) t255) := ⟨rz (Kd.R_mono (Kd.R_far (p := ⟨gb278, 2, none⟩) (Kd.R_far (p := ⟨gb278, 1, none⟩) (Kd.R_far (p := ⟨gb278, 0, none⟩) (Kd.R_mono HO_3.out (fun k_ hk => (⟨hk, hk⟩ : _ ∧ k_ ≠ gb278))) (fun _ hk => hk.2) (.string t274)) (fun _ hk => hk.2) (.int .i64 t275)) (fun _ hk => hk.2) (.string t276)) (fun _ hk => hk.1))⟩; have n1_ : Aside0 ((((w49.setCell ⟨gb278, 0, none⟩ (.string t274)).setCell ⟨gb278, 1, none⟩ (.int .i64 t275)).setCell ⟨gb278, 2, none⟩ (.string t276)).heap[gb278]? = some (.cells #[.string t274, .int .i64 t275, .string t276] 37 (0, 0))) := ⟨by (with_reducible repeat (first | refine kN ?_ _ | refine kD ?_ | refine kA ?_ _)); refine blk_put (cs := #[.string t274, .int .i64 t275, .string (⟨#[]⟩ : ByteArray)]) ?_ 2 _ rfl; (with_reducible repeat (first | refine kN ?_ _ | refine kD ?_ | refine kA ?_ _)); refine blk_put (cs := #[.string t274, .int .i64 0, .string (⟨#[]⟩ : ByteArray)]) ?_ 1 _ rfl; (with_reducible repeat (first | refine kN ?_ _ | refine kD ?_ | refine kA ?_ _)); refine blk_put (cs := #[.string (⟨#[]⟩ : ByteArray), .int .i64 0, .string (⟨#[]⟩ : ByteArray)]) ?_ 0 _ rfl; (with_reducible repeat (first | refine kN ?_ _ | refine kD ?_ | refine kA ?_ _)); exact BK278.out⟩
                     have n2_ : Aside0 (Below w.heap.size w (((w49.setCell ⟨gb278, 0, none⟩ (.string t274)).setCell ⟨gb278, 1, none⟩ (.int .i64 t275)).setCell ⟨gb278, 2, none⟩ (.string t276))) := ⟨bq⟩; (try clear HO_3); (try clear BK278); (try clear HB); generalize (((w49.setCell ⟨gb278, 0, none⟩ (.string t274)).setCell ⟨gb278, 1, none⟩ (.int .i64 t275)).setCell ⟨gb278, 2, none⟩ (.string t276)) = w53 at n0_ n1_ n2_ ⊢
                     have HO_3 := n0_; have BK278 := n1_; have HB := n2_; clear n0_ n1_ n2_; replace HO_3 := am (rD HO_3.out); replace BK278 := am (kD BK278.out); replace HB := am (bO HB.out); have p279 : 0 ≤ (x8_3 : Int) := of_decide_eq_true (by assumption); have q279 : x8_3 < (t255.length : Int) := of_decide_eq_true (by assumption); obtain ⟨ad279, e279, hx279_0, hx279_1, hx279_2⟩ := at_T37 (Kd.R_reads' HO_3.out).2.2 x8_3 p279 q279; obtain rfl : ad273 = ad279 := (by injection e279); replace p279 := eq_true p279; replace q279 := eq_true q279; refine start_ (n := 13) (S := fun w' => w'.cell? ⟨gb278, 0, none⟩ = some (.string t274) ∧ w'.cell? ⟨gb278, 1, none⟩ = some (.int .i64 t275) ∧ w'.cell? ⟨gb278, 2, none⟩ = some (.string t276) ∧ w'.cell? (ad273.add ((x8_3).toNat * 3)) = some (.string ((rd_T37 t255 x8_3).f0)) ∧ w'.cell? ⟨(ad273.add ((x8_3).toNat * 3)).block, (ad273.add ((x8_3).toNat * 3)).off + 1, none⟩ = some (.int .i64 ((rd_T37 t255 x8_3).f1)) ∧ w'.cell? ⟨(ad273.add ((x8_3).toNat * 3)).block, (ad273.add ((x8_3).toNat * 3)).off + 2, none⟩ = some (.string ((rd_T37 t255 x8_3).f2))) (ds := []) #[fF,fF,fF,fF,fF,fF,fF,fF,fF,fF,fF,fF,fF] (by kernel_rfl) rfl rfl ⟨(blk_cell BK278.out 0).trans rfl, (blk_cell BK278.out 1).trans rfl, (blk_cell BK278.out 2).trans rfl, hx279_0, hx279_1, hx279_2⟩ (fun hHeld => ?_); refine with_tabW hogsheadlaw4_UnionFirst.tab22 hogsheadlaw4_UnionFirst.bits22 (fun HT_ HW_ => ?_)
                     generalize w53.drew = w54 at HO_3 BK278 HB hx279_0 hx279_1 hx279_2 hHeld ⊢
                     refine pu 0 (some 106) ?_
                     refine pu 1 (some 107) ?_
                     refine pu 2 (some 108) ?_
                     refine pu 3 (some 109) ?_
                     refine pu 5 (some 111) ?_
                     refine pu 6 (some 112) ?_
                     refine pu 7 (some 113) ?_
                     refine take_ (i := 4) (N := some 110) (v := ?_) (a' := ?_) #[tT,tT,tT,tT,tT,tT,tT,tT,fF,fF,fF,fF,fF] rfl rfl (take_ofW HT_.out HW_.out (by kernel_rfl)) (fun _ _ _ h => h) (Or.inl ⟨by rfl, ?_⟩) hHeld ?_ ?_
                     rotate_left
                     ·rintro w' ⟨s0, s1, s2, s3, s4, s5⟩
                      go_simp
                      with_reducible rfl
                     rotate_left
                     ·simp only [Act.put, sA, sB, sC, i64_w, i32_w]
                      rfl
                     refine take_ (i := 8) (N := some 114) (v := ?_) (a' := ?_) #[tT,tT,tT,tT,tT,tT,tT,tT,tT,fF,fF,fF,fF] rfl rfl (take_ofW HT_.out HW_.out (by kernel_rfl)) (fun _ _ _ h => h) (Or.inl ⟨by rfl, ?_⟩) hHeld ?_ ?_
                     rotate_left
                     ·rintro w' ⟨s0, s1, s2, s3, s4, s5⟩
                      go_simp
                      with_reducible rfl
                     rotate_left
                     ·simp only [Act.put, sA, sB, sC, i64_w, i32_w]
                      rfl
                     refine pu 9 (some 115) ?_
                     refine pu 10 (some 116) ?_
                     refine pu 11 (some 117) ?_
                     refine pu 12 (some 9) ?_
                     refine done_ (done_of HT_.out (by kernel_rfl)) ?_
                     try go_wp2
                     go_roundg k4
                     case measure => have := HJ1.out; have := HK2.out; have := HK3.out; have := HK4.out; omega
                     case rel => exact ⟨((t274.toList == (((rd_T37 t255 x8_3).f0).toList) && (t275 == ((rd_T37 t255 x8_3).f1) && (t276.toList == (((rd_T37 t255 x8_3).f2).toList))))), (wrap64 (x10_4 + 1)), (by first | rfl | (simp; done) | (simp [*]; done)), (by first | rfl | (simp; done) | (simp [*]; done)), H', ⟨by have := HJ1.out; have := HK2.out; have := HK3.out; have := HK4.out; omega⟩, ⟨rz (Kd.R_mono HO_3.out (fun _ hk => trivial))⟩, ⟨bq⟩⟩
                    ·replace c45 := Bool.eq_false_iff.mpr c45
                     subst c45; have H1 : (hogsheadlaw4_UnionFirst.l2 k4 l0 t255 x8_3 false (wrap64 (x10_4 + 1))) = some true := by rw [if_neg (show ¬ (false = true) by decide)] at H; exact H
                     clear H; have H := H1; clear H1; have H' := am H; clear H; try go_wp2
                     replace HO_3 := am (rD HO_3.out); replace HB := am (bO HB.out); have p272 : 0 ≤ (x10_4 : Int) := of_decide_eq_true (by assumption); have q272 : x10_4 < (l0.length : Int) := of_decide_eq_true (by assumption); obtain ⟨ad272, A272_0, c272_0, e272, hx272_0, hl272_0, hi272_0⟩ := at_L4 HR0.out x10_4 p272 q272; have hw272_0 := hx272_0; obtain rfl : ad262 = ad272 := (by injection e272); replace hx272_0 := (HB.out.cell (wB w _ hx272_0)).trans hx272_0; have HR272_0 := am hi272_0; have HC272_0 := am hl272_0; clear hi272_0 hl272_0; replace p272 := eq_true p272; replace q272 := eq_true q272; have p273 : 0 ≤ (x8_3 : Int) := of_decide_eq_true (by assumption); have q273 : x8_3 < (t255.length : Int) := of_decide_eq_true (by assumption); obtain ⟨ad273, e273, hx273_0, hx273_1, hx273_2⟩ := at_T37 (Kd.R_reads' HO_3.out).2.2 x8_3 p273 q273; cases e273; replace p273 := eq_true p273; replace q273 := eq_true q273; refine start_ (n := 16) (S := fun w' => w'.cell? (ad262.add (x10_4).toNat) = some (.slice A272_0 (rd_L4 l0 x10_4).length c272_0) ∧ w'.cell? (ad273.add ((x8_3).toNat * 3)) = some (.string ((rd_T37 t255 x8_3).f0)) ∧ w'.cell? ⟨(ad273.add ((x8_3).toNat * 3)).block, (ad273.add ((x8_3).toNat * 3)).off + 1, none⟩ = some (.int .i64 ((rd_T37 t255 x8_3).f1)) ∧ w'.cell? ⟨(ad273.add ((x8_3).toNat * 3)).block, (ad273.add ((x8_3).toNat * 3)).off + 2, none⟩ = some (.string ((rd_T37 t255 x8_3).f2))) (ds := []) #[fF,fF,fF,fF,fF,fF,fF,fF,fF,fF,fF,fF,fF,fF,fF,fF] (by kernel_rfl) rfl rfl ⟨((HB.out.cell (wB w _ hw272_0)).trans hw272_0), hx273_0, hx273_1, hx273_2⟩ (fun hHeld => ?_); refine with_tabW hogsheadlaw4_UnionFirst.tab21 hogsheadlaw4_UnionFirst.bits21 (fun HT_ HW_ => ?_)
                     generalize wr.drew = w55 at HO_3 HB HR272_0 hx272_0 hx273_0 hx273_1 hx273_2 hHeld ⊢
                     refine pu 0 (some 94) ?_
                     refine pu 1 (some 95) ?_
                     refine pu 2 (some 96) ?_
                     refine pu 4 (some 98) ?_
                     refine pu 5 (some 99) ?_
                     refine pu 6 (some 100) ?_
                     refine pu 7 (some 101) ?_
                     refine take_ (i := 3) (N := some 97) (v := ?_) (a' := ?_) #[tT,tT,tT,tT,tT,tT,tT,tT,fF,fF,fF,fF,fF,fF,fF,fF] rfl rfl (take_ofW HT_.out HW_.out (by kernel_rfl)) (fun _ _ _ h => h) (Or.inl ⟨by rfl, ?_⟩) hHeld ?_ ?_
                     rotate_left
                     ·rintro w' ⟨s0, s1, s2, s3⟩
                      go_simp
                      with_reducible rfl
                     rotate_left
                     ·simp only [Act.put, sA, sB, sC, i64_w, i32_w]
                      rfl
                     refine take_ (i := 8) (N := some 102) (v := ?_) (a' := ?_) #[tT,tT,tT,tT,tT,tT,tT,tT,tT,fF,fF,fF,fF,fF,fF,fF] rfl rfl (take_ofW HT_.out HW_.out (by kernel_rfl)) (fun _ _ _ h => h) (Or.inl ⟨by rfl, ?_⟩) hHeld ?_ ?_
                     rotate_left
                     ·rintro w' ⟨s0, s1, s2, s3⟩
                      go_simp
                      with_reducible rfl
                     rotate_left
                     ·simp only [Act.put, sA, sB, sC, i64_w, i32_w]
                      rfl
                     refine join_ (σ := Nat) 2 #[tT,tT,tT,tT,tT,tT,tT,tT,tT,tT,tT,tT,tT,tT,fF,fF] (fun s_ => [(103, .tuple #[.agg #[.string t274, .int .i64 t275, .string t276], .bool false]), (11, .pointer (some ⟨s_, 0, none⟩)), (93, .tuple #[.agg #[.string t274, .int .i64 t275, .string t276], .bool false]), (104, .agg #[.string t274, .int .i64 t275, .string t276]), (105, .bool false)]) (fun s_ w' => (w'.cell? (ad262.add (x10_4).toNat) = some (.slice A272_0 (rd_L4 l0 x10_4).length c272_0) ∧ w'.cell? (ad273.add ((x8_3).toNat * 3)) = some (.string ((rd_T37 t255 x8_3).f0)) ∧ w'.cell? ⟨(ad273.add ((x8_3).toNat * 3)).block, (ad273.add ((x8_3).toNat * 3)).off + 1, none⟩ = some (.int .i64 ((rd_T37 t255 x8_3).f1)) ∧ w'.cell? ⟨(ad273.add ((x8_3).toNat * 3)).block, (ad273.add ((x8_3).toNat * 3)).off + 2, none⟩ = some (.string ((rd_T37 t255 x8_3).f2))) ∧ (Kd.R k37 37 w' w.heap.size (fun k_ => k_ ≠ s_) (.slice (some ad273) t255.length co13) t255) ∧ (w'.heap[s_]? = some (.cells #[.string (⟨#[]⟩ : ByteArray), .int .i64 0, .string (⟨#[]⟩ : ByteArray)] 37 (0, 0))) ∧ (w.heap.size ≤ s_) ∧ (w.heap.size ≤ s_) ∧ (Below w.heap.size w w')) ?_ ?_
                     rotate_left
                     ·intro hCont
                      refine two_ (i := 9) (j := 13) (Ni := some 103) (Nj := some 11) #[tT,tT,tT,tT,tT,tT,tT,tT,tT,tT,fF,fF,fF,fF,fF,fF] #[tT,tT,tT,tT,tT,tT,tT,tT,tT,fF,fF,fF,fF,tT,fF,fF] rfl rfl rfl rfl (two_of HT_.out (by kernel_rfl)) (by decide) (by decide) (fun K hK => ?_) (fun K hK => ?_)
                      ·skip
                       refine goes_ Tryd.func16 (by kernel_rfl) rfl #[.slice A272_0 (rd_L4 l0 x10_4).length c272_0, .string ((rd_T37 t255 x8_3).f0)] (by rfl) rfl rfl (by (try simp only [mT, mC, mN]); first | done | rfl | (simp only [lD, lT]; rfl)) ?_
                       with_reducible refine (find_Lookup.calls k4 _ _ (rd_L4 l0 x10_4) ((rd_T37 t255 x8_3).f0) t274 t275 t276 false _ ?side1 ?side2 A34.out).mono ?_
                       (case side1 => exact cz (Kd.C_below HR272_0.out HB.out))
                       (case side2 => exact HC272_0.out)
                       rintro e w56 ⟨rfl, hb⟩; have HS1_ := (hb.cell (wB _ _ (hHeld.2.1))).trans (hHeld.2.1); have HS2_ := (hb.cell (wB _ _ (hHeld.2.2.1))).trans (hHeld.2.2.1); have HS3_ := (hb.cell (wB _ _ (hHeld.2.2.2))).trans (hHeld.2.2.2); refine ⟨_, rfl, ?_⟩
                       replace HO_3 := am (Kd.R_below (rz HO_3.out) hb); replace HB := bs hb; refine hK.out _ _ ⟨((HB.out.cell (wB w _ hw272_0)).trans hw272_0), HS1_, HS2_, HS3_⟩ (fun hHeld => ?_)
                       clear hK K; refine norm_ (a' := ?_) ?_ ?_
                       rotate_left
                       ·show Act.put _ (some 103) _ = _
                        simp only [Act.put, sA, sB, sC, i64_w, i32_w]
                        rfl
                       refine pu 10 (some 93) ?_
                       refine pu 11 (some 104) ?_
                       refine pu 12 (some 105) ?_
                       refine one_ (i := 13) (N := some 11) #[tT,tT,tT,tT,tT,tT,tT,tT,tT,tT,tT,tT,tT,tT,fF,fF] rfl rfl (one_of HT_.out (by kernel_rfl)) (by decide) (fun K hK => ?_)
                       refine box_step ?hg (N := 11) ?hd (cs := #[.string (⟨#[]⟩ : ByteArray), .int .i64 0, .string (⟨#[]⟩ : ByteArray)]) (t := 37) ?hr ?_; (case hd => rfl); (case hg => rfl); (case hr => first | (go_simp; done) | (go_simp; rfl))
                       intro gb278 hg w57 hbox hb; have HS1_ := (hb.cell (wB _ _ (hHeld.2.1))).trans (hHeld.2.1); have HS2_ := (hb.cell (wB _ _ (hHeld.2.2.1))).trans (hHeld.2.2.1); have HS3_ := (hb.cell (wB _ _ (hHeld.2.2.2))).trans (hHeld.2.2.2); replace HO_3 := am (Kd.R_below (Kd.R_elderB (rz HO_3.out) gb278 (Nat.le_of_eq hg.symm)) hb); have BK278 := am (hbox); have GW278 := gz hg; have GE278 := gz hg; replace HB := bs hb; clear hb hbox hg; refine hK.out _ _ ⟨((HB.out.cell (wB w _ hw272_0)).trans hw272_0), HS1_, HS2_, HS3_⟩ (fun hHeld => ?_)
                       clear hK K; refine norm_ (a' := ?_) ?_ ?_
                       rotate_left
                       ·show Act.put _ (some 11) _ = _
                        simp only [Act.put, sA, sB, sC, i64_w, i32_w]
                        rfl
                       exact norm_ (by simp only [putAll, Act.put, sA, sB, sC]) (hCont (gb278) _ ⟨hHeld, (rz (Kd.R_mono HO_3.out (fun _ hk => hk.2))), (bk BK278.out), GW278.out, GE278.out, bq⟩)
                      ·skip
                       refine box_step ?hg (N := 11) ?hd (cs := #[.string (⟨#[]⟩ : ByteArray), .int .i64 0, .string (⟨#[]⟩ : ByteArray)]) (t := 37) ?hr ?_; (case hd => rfl); (case hg => rfl); (case hr => first | (go_simp; done) | (go_simp; rfl))
                       intro gb278 hg w56 hbox hb; have HS1_ := (hb.cell (wB _ _ (hHeld.2.1))).trans (hHeld.2.1); have HS2_ := (hb.cell (wB _ _ (hHeld.2.2.1))).trans (hHeld.2.2.1); have HS3_ := (hb.cell (wB _ _ (hHeld.2.2.2))).trans (hHeld.2.2.2); replace HO_3 := am (Kd.R_below (Kd.R_elderB (rz HO_3.out) gb278 (Nat.le_of_eq hg.symm)) hb); have BK278 := am (hbox); have GW278 := gz hg; have GE278 := gz hg; replace HB := bs hb; clear hb hbox hg; refine hK.out _ _ ⟨((HB.out.cell (wB w _ hw272_0)).trans hw272_0), HS1_, HS2_, HS3_⟩ (fun hHeld => ?_)
                       clear hK K; refine norm_ (a' := ?_) ?_ ?_
                       rotate_left
                       ·show Act.put _ (some 11) _ = _
                        simp only [Act.put, sA, sB, sC, i64_w, i32_w]
                        rfl
                       refine one_ (i := 9) (N := some 103) #[tT,tT,tT,tT,tT,tT,tT,tT,tT,tT,fF,fF,fF,tT,fF,fF] rfl rfl (one_of HT_.out (by kernel_rfl)) (by decide) (fun K hK => ?_)
                       refine goes_ Tryd.func16 (by kernel_rfl) rfl #[.slice A272_0 (rd_L4 l0 x10_4).length c272_0, .string ((rd_T37 t255 x8_3).f0)] (by rfl) rfl rfl (by (try simp only [mT, mC, mN]); first | done | rfl | (simp only [lD, lT]; rfl)) ?_
                       with_reducible refine (find_Lookup.calls k4 _ _ (rd_L4 l0 x10_4) ((rd_T37 t255 x8_3).f0) t274 t275 t276 false _ ?side1 ?side2 A34.out).mono ?_
                       (case side1 => exact cz (Kd.C_below HR272_0.out HB.out))
                       (case side2 => exact HC272_0.out)
                       rintro e w57 ⟨rfl, hb⟩; have HS1_ := (hb.cell (wB _ _ (hHeld.2.1))).trans (hHeld.2.1); have HS2_ := (hb.cell (wB _ _ (hHeld.2.2.1))).trans (hHeld.2.2.1); have HS3_ := (hb.cell (wB _ _ (hHeld.2.2.2))).trans (hHeld.2.2.2); refine ⟨_, rfl, ?_⟩
                       replace HO_3 := am (Kd.R_below (rz HO_3.out) hb); replace BK278 := am (blk_below (g := gb278) (o := .cells #[.string (⟨#[]⟩ : ByteArray), .int .i64 0, .string (⟨#[]⟩ : ByteArray)] 37 (0, 0)) (bk BK278.out) hb); replace HB := bw hb; refine hK.out _ _ ⟨((HB.out.cell (wB w _ hw272_0)).trans hw272_0), HS1_, HS2_, HS3_⟩ (fun hHeld => ?_)
                       clear hK K; refine norm_ (a' := ?_) ?_ ?_
                       rotate_left
                       ·show Act.put _ (some 103) _ = _
                        simp only [Act.put, sA, sB, sC, i64_w, i32_w]
                        rfl
                       refine pu 10 (some 93) ?_
                       refine pu 11 (some 104) ?_
                       refine pu 12 (some 105) ?_
                       exact norm_ (by simp only [putAll, Act.put, sA, sB, sC]) (hCont (gb278) _ ⟨hHeld, (rz (Kd.R_mono HO_3.out (fun _ hk => hk.2))), (bk BK278.out), GW278.out, GE278.out, bq⟩)
                     rintro gb278 w58 ⟨hS_, h0_, h1_, h2_, h3_, h4_⟩; have n0_ : Aside0 (Kd.R k37 37 w58 w.heap.size (fun k_ => k_ ≠ gb278) (.slice (some ad273) t255.length co13) t255) := ⟨h0_⟩; have n1_ : Aside0 (w58.heap[gb278]? = some (.cells #[.string (⟨#[]⟩ : ByteArray), .int .i64 0, .string (⟨#[]⟩ : ByteArray)] 37 (0, 0))) := ⟨h1_⟩; have n2_ : Aside0 (w.heap.size ≤ gb278) := ⟨h2_⟩; have n3_ : Aside0 (w.heap.size ≤ gb278) := ⟨h3_⟩; have n4_ : Aside0 (Below w.heap.size w w58) := ⟨h4_⟩; clear HO_3; clear HB; clear h0_ h1_ h2_ h3_ h4_; have HO_3 := n0_; have BK278 := n1_; have GW278 := n2_; have GE278 := n3_; have HB := n4_; clear n0_ n1_ n2_ n3_ n4_; have hHeld : w58.cell? (ad262.add (x10_4).toNat) = some (.slice A272_0 (rd_L4 l0 x10_4).length c272_0) ∧ w58.cell? (ad273.add ((x8_3).toNat * 3)) = some (.string ((rd_T37 t255 x8_3).f0)) ∧ w58.cell? ⟨(ad273.add ((x8_3).toNat * 3)).block, (ad273.add ((x8_3).toNat * 3)).off + 1, none⟩ = some (.int .i64 ((rd_T37 t255 x8_3).f1)) ∧ w58.cell? ⟨(ad273.add ((x8_3).toNat * 3)).block, (ad273.add ((x8_3).toNat * 3)).off + 2, none⟩ = some (.string ((rd_T37 t255 x8_3).f2)) := hS_; refine norm_ (a' := ?_) ?_ ?_
                     rotate_left
                     ·simp only [putAll, Act.put, sA, sB, sC]
                      rfl
                     refine one_ (i := 14) (N := none) #[tT,tT,tT,tT,tT,tT,tT,tT,tT,tT,tT,tT,tT,tT,tT,fF] rfl rfl (one_of HT_.out (by kernel_rfl)) (by decide) (fun K hK => ?_)
                     have hs59 : w58.cell? ⟨gb278, 0, none⟩ = some (.string (⟨#[]⟩ : ByteArray)) := (blk_cell BK278.out 0).trans rfl; have hfs59 := blk_frozen BK278.out 0; have hs60 : w58.cell? ⟨gb278, 1, none⟩ = some (.int .i64 0) := (blk_cell BK278.out 1).trans rfl; have hfs60 := blk_frozen BK278.out 1; have hs61 : w58.cell? ⟨gb278, 2, none⟩ = some (.string (⟨#[]⟩ : ByteArray)) := (blk_cell BK278.out 2).trans rfl; have hfs61 := blk_frozen BK278.out 2; refine skip_ (w1 := ?_) (by rfl) rfl ?_ ?_
                     rotate_left
                     ·go_simp
                      rfl
                     refine hK.out _ _ ⟨((cell_far (p := ⟨gb278, _, none⟩) (by first | exact Nat.ne_of_lt (Nat.lt_of_lt_of_le (by have := wB _ _ hw272_0; first | rwa [add_block] at this | exact this) GW278.out) | (rw [add_block]; exact Nat.ne_of_lt (Nat.lt_of_lt_of_le (by have := wB _ _ hw272_0; first | rwa [add_block] at this | exact this) GW278.out)) | (show (Addr.add _ _).block ≠ _; rw [add_block]; exact Nat.ne_of_lt (Nat.lt_of_lt_of_le (by have := wB _ _ hw272_0; first | rwa [add_block] at this | exact this) GW278.out)) | (dsimp only; exact Nat.ne_of_lt (Nat.lt_of_lt_of_le (by have := wB _ _ hw272_0; first | rwa [add_block] at this | exact this) GW278.out))) _).trans (((cell_far (p := ⟨gb278, _, none⟩) (by first | exact Nat.ne_of_lt (Nat.lt_of_lt_of_le (by have := wB _ _ hw272_0; first | rwa [add_block] at this | exact this) GW278.out) | (rw [add_block]; exact Nat.ne_of_lt (Nat.lt_of_lt_of_le (by have := wB _ _ hw272_0; first | rwa [add_block] at this | exact this) GW278.out)) | (show (Addr.add _ _).block ≠ _; rw [add_block]; exact Nat.ne_of_lt (Nat.lt_of_lt_of_le (by have := wB _ _ hw272_0; first | rwa [add_block] at this | exact this) GW278.out)) | (dsimp only; exact Nat.ne_of_lt (Nat.lt_of_lt_of_le (by have := wB _ _ hw272_0; first | rwa [add_block] at this | exact this) GW278.out))) _).trans (((cell_far (p := ⟨gb278, _, none⟩) (by first | exact Nat.ne_of_lt (Nat.lt_of_lt_of_le (by have := wB _ _ hw272_0; first | rwa [add_block] at this | exact this) GW278.out) | (rw [add_block]; exact Nat.ne_of_lt (Nat.lt_of_lt_of_le (by have := wB _ _ hw272_0; first | rwa [add_block] at this | exact this) GW278.out)) | (show (Addr.add _ _).block ≠ _; rw [add_block]; exact Nat.ne_of_lt (Nat.lt_of_lt_of_le (by have := wB _ _ hw272_0; first | rwa [add_block] at this | exact this) GW278.out)) | (dsimp only; exact Nat.ne_of_lt (Nat.lt_of_lt_of_le (by have := wB _ _ hw272_0; first | rwa [add_block] at this | exact this) GW278.out))) _).trans (hHeld.1)))))), ((cell_far (p := ⟨gb278, _, none⟩) (by first | exact Kd.own_blk (Kd.R_away HO_3.out (fun _ hk => hk)) | (rw [add_block]; exact Kd.own_blk (Kd.R_away HO_3.out (fun _ hk => hk))) | (show (Addr.add _ _).block ≠ _; rw [add_block]; exact Kd.own_blk (Kd.R_away HO_3.out (fun _ hk => hk))) | (dsimp only; exact Kd.own_blk (Kd.R_away HO_3.out (fun _ hk => hk)))) _).trans (((cell_far (p := ⟨gb278, _, none⟩) (by first | exact Kd.own_blk (Kd.R_away HO_3.out (fun _ hk => hk)) | (rw [add_block]; exact Kd.own_blk (Kd.R_away HO_3.out (fun _ hk => hk))) | (show (Addr.add _ _).block ≠ _; rw [add_block]; exact Kd.own_blk (Kd.R_away HO_3.out (fun _ hk => hk))) | (dsimp only; exact Kd.own_blk (Kd.R_away HO_3.out (fun _ hk => hk)))) _).trans (((cell_far (p := ⟨gb278, _, none⟩) (by first | exact Kd.own_blk (Kd.R_away HO_3.out (fun _ hk => hk)) | (rw [add_block]; exact Kd.own_blk (Kd.R_away HO_3.out (fun _ hk => hk))) | (show (Addr.add _ _).block ≠ _; rw [add_block]; exact Kd.own_blk (Kd.R_away HO_3.out (fun _ hk => hk))) | (dsimp only; exact Kd.own_blk (Kd.R_away HO_3.out (fun _ hk => hk)))) _).trans (hHeld.2.1)))))), ((cell_far (p := ⟨gb278, _, none⟩) (by first | exact Kd.own_blk (Kd.R_away HO_3.out (fun _ hk => hk)) | (rw [add_block]; exact Kd.own_blk (Kd.R_away HO_3.out (fun _ hk => hk))) | (show (Addr.add _ _).block ≠ _; rw [add_block]; exact Kd.own_blk (Kd.R_away HO_3.out (fun _ hk => hk))) | (dsimp only; exact Kd.own_blk (Kd.R_away HO_3.out (fun _ hk => hk)))) _).trans (((cell_far (p := ⟨gb278, _, none⟩) (by first | exact Kd.own_blk (Kd.R_away HO_3.out (fun _ hk => hk)) | (rw [add_block]; exact Kd.own_blk (Kd.R_away HO_3.out (fun _ hk => hk))) | (show (Addr.add _ _).block ≠ _; rw [add_block]; exact Kd.own_blk (Kd.R_away HO_3.out (fun _ hk => hk))) | (dsimp only; exact Kd.own_blk (Kd.R_away HO_3.out (fun _ hk => hk)))) _).trans (((cell_far (p := ⟨gb278, _, none⟩) (by first | exact Kd.own_blk (Kd.R_away HO_3.out (fun _ hk => hk)) | (rw [add_block]; exact Kd.own_blk (Kd.R_away HO_3.out (fun _ hk => hk))) | (show (Addr.add _ _).block ≠ _; rw [add_block]; exact Kd.own_blk (Kd.R_away HO_3.out (fun _ hk => hk))) | (dsimp only; exact Kd.own_blk (Kd.R_away HO_3.out (fun _ hk => hk)))) _).trans (hHeld.2.2.1)))))), ((cell_far (p := ⟨gb278, _, none⟩) (by first | exact Kd.own_blk (Kd.R_away HO_3.out (fun _ hk => hk)) | (rw [add_block]; exact Kd.own_blk (Kd.R_away HO_3.out (fun _ hk => hk))) | (show (Addr.add _ _).block ≠ _; rw [add_block]; exact Kd.own_blk (Kd.R_away HO_3.out (fun _ hk => hk))) | (dsimp only; exact Kd.own_blk (Kd.R_away HO_3.out (fun _ hk => hk)))) _).trans (((cell_far (p := ⟨gb278, _, none⟩) (by first | exact Kd.own_blk (Kd.R_away HO_3.out (fun _ hk => hk)) | (rw [add_block]; exact Kd.own_blk (Kd.R_away HO_3.out (fun _ hk => hk))) | (show (Addr.add _ _).block ≠ _; rw [add_block]; exact Kd.own_blk (Kd.R_away HO_3.out (fun _ hk => hk))) | (dsimp only; exact Kd.own_blk (Kd.R_away HO_3.out (fun _ hk => hk)))) _).trans (((cell_far (p := ⟨gb278, _, none⟩) (by first | exact Kd.own_blk (Kd.R_away HO_3.out (fun _ hk => hk)) | (rw [add_block]; exact Kd.own_blk (Kd.R_away HO_3.out (fun _ hk => hk))) | (show (Addr.add _ _).block ≠ _; rw [add_block]; exact Kd.own_blk (Kd.R_away HO_3.out (fun _ hk => hk))) | (dsimp only; exact Kd.own_blk (Kd.R_away HO_3.out (fun _ hk => hk)))) _).trans (hHeld.2.2.2))))))⟩ (fun hHeld => ?_)
                     clear hK K; refine pure_ (i := 15) (N := some 12) (v := ?_) (a' := ?_) #[tT,tT,tT,tT,tT,tT,tT,tT,tT,tT,tT,tT,tT,tT,tT,tT] rfl rfl (any_of HT_.out (by kernel_rfl)) (fun _ _ _ h => h) (Or.inl ⟨by rfl, ?_⟩) ?_ ?_
                     rotate_left
                     ·intro w'
                      go_simp
                      with_reducible rfl
                     rotate_left
                     ·simp only [Act.put, sA, sB, sC, i64_w, i32_w]
                      rfl
                     refine done_ (done_of HT_.out (by kernel_rfl)) ?_
                     try go_wp2
                     have n0_ : Aside0 (Kd.R k37 37 (((w58.setCell ⟨gb278, 0, none⟩ (.string t274)).setCell ⟨gb278, 1, none⟩ (.int .i64 t275)).setCell ⟨gb278, 2, none⟩ (.string t276)) w.heap.size (fun k_ => k_ ≠ gb278) (.slice (some ad273) t255.length co13) t255) := ⟨rz (Kd.R_mono (Kd.R_far (p := ⟨gb278, 2, none⟩) (Kd.R_far (p := ⟨gb278, 1, none⟩) (Kd.R_far (p := ⟨gb278, 0, none⟩) (Kd.R_mono HO_3.out (fun k_ hk => (⟨hk, hk⟩ : _ ∧ k_ ≠ gb278))) (fun _ hk => hk.2) (.string t274)) (fun _ hk => hk.2) (.int .i64 t275)) (fun _ hk => hk.2) (.string t276)) (fun _ hk => hk.1))⟩; have n1_ : Aside0 ((((w58.setCell ⟨gb278, 0, none⟩ (.string t274)).setCell ⟨gb278, 1, none⟩ (.int .i64 t275)).setCell ⟨gb278, 2, none⟩ (.string t276)).heap[gb278]? = some (.cells #[.string t274, .int .i64 t275, .string t276] 37 (0, 0))) := ⟨by (with_reducible repeat (first | refine kN ?_ _ | refine kD ?_ | refine kA ?_ _)); refine blk_put (cs := #[.string t274, .int .i64 t275, .string (⟨#[]⟩ : ByteArray)]) ?_ 2 _ rfl; (with_reducible repeat (first | refine kN ?_ _ | refine kD ?_ | refine kA ?_ _)); refine blk_put (cs := #[.string t274, .int .i64 0, .string (⟨#[]⟩ : ByteArray)]) ?_ 1 _ rfl; (with_reducible repeat (first | refine kN ?_ _ | refine kD ?_ | refine kA ?_ _)); refine blk_put (cs := #[.string (⟨#[]⟩ : ByteArray), .int .i64 0, .string (⟨#[]⟩ : ByteArray)]) ?_ 0 _ rfl; (with_reducible repeat (first | refine kN ?_ _ | refine kD ?_ | refine kA ?_ _)); exact BK278.out⟩
                     have n2_ : Aside0 (Below w.heap.size w (((w58.setCell ⟨gb278, 0, none⟩ (.string t274)).setCell ⟨gb278, 1, none⟩ (.int .i64 t275)).setCell ⟨gb278, 2, none⟩ (.string t276))) := ⟨bq⟩; (try clear HO_3); (try clear BK278); (try clear HB); generalize (((w58.setCell ⟨gb278, 0, none⟩ (.string t274)).setCell ⟨gb278, 1, none⟩ (.int .i64 t275)).setCell ⟨gb278, 2, none⟩ (.string t276)) = w62 at n0_ n1_ n2_ ⊢
                     have HO_3 := n0_; have BK278 := n1_; have HB := n2_; clear n0_ n1_ n2_; replace HO_3 := am (rD HO_3.out); replace BK278 := am (kD BK278.out); replace HB := am (bO HB.out); refine start_ (n := 13) (S := fun w' => True) (ds := []) #[fF,fF,fF,fF,fF,fF,fF,fF,fF,fF,fF,fF,fF] (by kernel_rfl) rfl rfl trivial (fun hHeld => ?_); refine with_tabW hogsheadlaw4_UnionFirst.tab22 hogsheadlaw4_UnionFirst.bits22 (fun HT_ HW_ => ?_)
                     generalize w62.drew = w63 at HO_3 BK278 HB hHeld ⊢
                     refine pu 0 (some 106) ?_
                     refine pu 1 (some 107) ?_
                     refine pu 2 (some 108) ?_
                     refine pu 3 (some 109) ?_
                     refine pure_ (i := 4) (N := some 110) (v := undef) (a' := ?_) #[tT,tT,tT,tT,tT,fF,fF,fF,fF,fF,fF,fF,fF] rfl rfl (any_of HT_.out (by kernel_rfl)) (fun _ _ _ h => h) (Or.inr ⟨by rfl, rfl⟩) ?_ ?_
                     rotate_left
                     ·simp only [Act.put, sA, sB, sC, i64_w, i32_w]
                      rfl
                     refine pure_ (i := 5) (N := some 111) (v := undef) (a' := ?_) #[tT,tT,tT,tT,tT,tT,fF,fF,fF,fF,fF,fF,fF] rfl rfl (any_of HT_.out (by kernel_rfl)) (fun _ _ _ h => h) (Or.inr ⟨by rfl, rfl⟩) ?_ ?_
                     rotate_left
                     ·simp only [Act.put, sA, sB, sC, i64_w, i32_w]
                      rfl
                     refine pure_ (i := 6) (N := some 112) (v := undef) (a' := ?_) #[tT,tT,tT,tT,tT,tT,tT,fF,fF,fF,fF,fF,fF] rfl rfl (any_of HT_.out (by kernel_rfl)) (fun _ _ _ h => h) (Or.inr ⟨by rfl, rfl⟩) ?_ ?_
                     rotate_left
                     ·simp only [Act.put, sA, sB, sC, i64_w, i32_w]
                      rfl
                     refine pure_ (i := 7) (N := some 113) (v := undef) (a' := ?_) #[tT,tT,tT,tT,tT,tT,tT,tT,fF,fF,fF,fF,fF] rfl rfl (any_of HT_.out (by kernel_rfl)) (fun _ _ _ h => h) (Or.inr ⟨by rfl, rfl⟩) ?_ ?_
                     rotate_left
                     ·simp only [Act.put, sA, sB, sC, i64_w, i32_w]
                      rfl
                     refine pure_ (i := 8) (N := some 114) (v := undef) (a' := ?_) #[tT,tT,tT,tT,tT,tT,tT,tT,tT,fF,fF,fF,fF] rfl rfl (any_of HT_.out (by kernel_rfl)) (fun _ _ _ h => h) (Or.inr ⟨by rfl, rfl⟩) ?_ ?_
                     rotate_left
                     ·simp only [Act.put, sA, sB, sC, i64_w, i32_w]
                      rfl
                     refine pure_ (i := 9) (N := some 115) (v := undef) (a' := ?_) #[tT,tT,tT,tT,tT,tT,tT,tT,tT,tT,fF,fF,fF] rfl rfl (any_of HT_.out (by kernel_rfl)) (fun _ _ _ h => h) (Or.inr ⟨by rfl, rfl⟩) ?_ ?_
                     rotate_left
                     ·simp only [Act.put, sA, sB, sC, i64_w, i32_w]
                      rfl
                     refine pu 10 (some 116) ?_
                     refine pu 11 (some 117) ?_
                     refine pu 12 (some 9) ?_
                     refine done_ (done_of HT_.out (by kernel_rfl)) ?_
                     try go_wp2
                     go_roundg k4
                     case measure => have := HJ1.out; have := HK2.out; have := HK3.out; have := HK4.out; omega
                     case rel => exact ⟨(false), (wrap64 (x10_4 + 1)), (by first | rfl | (simp; done) | (simp [*]; done)), (by first | rfl | (simp; done) | (simp [*]; done)), H', ⟨by have := HJ1.out; have := HK2.out; have := HK3.out; have := HK4.out; omega⟩, ⟨rz (Kd.R_mono HO_3.out (fun _ hk => trivial))⟩, ⟨bq⟩⟩
                  ·rw [if_neg c33] at H
                   exact absurd H (by simp)
                 ·rw [if_neg c32] at H
                  exact absurd H (by simp)
                ·rw [if_neg c31] at H
                 exact absurd H (by simp)
               ·rw [if_neg c30] at H
                have c30b0 : decide (x10_4 < (l0.length : Int)) = false := decide_eq_false c30; clear c30; by_cases c64 : x9_4 = true
                ·subst c64
                 have H1 : (hogsheadlaw4_UnionFirst.l1 k4 l0 t255 (wrap64 (x8_3 + 1))) = some true := by rw [if_pos rfl] at H; exact H
                 clear H; have H := H1; clear H1; have H' := am H; clear H; go_wp2
                 go_roundg k4
                 case measure => have := HJ1.out; have := HK2.out; have := HK3.out; have := HK4.out; omega
                 case rel => exact ⟨(wrap64 (x8_3 + 1)), (by first | rfl | (simp; done) | (simp [*]; done)), H', ⟨by have := HJ1.out; have := HK2.out; have := HK3.out; have := HK4.out; omega⟩, ⟨rz HO_3.out⟩, ⟨bz⟩⟩
                ·replace c64 := Bool.eq_false_iff.mpr c64
                 subst c64; have H1 : (some false) = some true := by rw [if_neg (show ¬ (false = true) by decide)] at H; exact H
                 exact absurd H1 (by simp)
            ·rw [if_neg c29] at H
             have c29b0 : decide (x8_3 < (t255.length : Int)) = false := decide_eq_false c29; clear c29; by_cases c65 : 0 < (l0.length : Int)
             ·rw [if_pos c65] at H
              have c65b0 : decide (0 < (l0.length : Int)) = true := decide_eq_true c65; have c65b1 : decide (0 < l0.length) = true := decide_eq_true (by omega); clear c65; replace H := oB H; obtain ⟨⟨t282, t283⟩, A660, H⟩ := H; replace H : ((union_Two.f k3 1 t255 t255).bind fun bt286 => (if t283 = 0 then ((hogsheadlaw0_SameNodes.f k3 t282 (rd_L4 l0 0)).bind fun t291 => (if t291 = true then (if bt286.2 = 0 then ((hogsheadlaw0_SameNodes.f k3 bt286.1 t255).bind fun t292 => (if t292 = true then ((hogsheadlaw4_awake.f k3).bind fun t293 => (some t293)) else (some false))) else (some false)) else (some false))) else (some false))) = some true := H; have A66 := am A660; clear A660; replace H := oB H; obtain ⟨⟨t286, t287⟩, A670, H⟩ := H; replace H : (if t283 = 0 then ((hogsheadlaw0_SameNodes.f k3 t282 (rd_L4 l0 0)).bind fun t291 => (if t291 = true then (if t287 = 0 then ((hogsheadlaw0_SameNodes.f k3 t286 t255).bind fun t292 => (if t292 = true then ((hogsheadlaw4_awake.f k3).bind fun t293 => (some t293)) else (some false))) else (some false)) else (some false))) else (some false)) = some true := H; have A67 := am A670; clear A670; by_cases c68 : t283 = 0
              ·rw [if_pos c68] at H
               have c68b0 : (t283 == 0) = true := beq_iff_eq.mpr c68; have c68b1 : (t283 != 0) = false := bne_eq_false_iff_eq.mpr c68; clear c68; refine oR H ?_; clear H; intro t291 A69 H; by_cases c70 : t291 = true
               ·subst c70
                have H1 : (if t287 = 0 then ((hogsheadlaw0_SameNodes.f k3 t286 t255).bind fun t292 => (if t292 = true then ((hogsheadlaw4_awake.f k3).bind fun t293 => (some t293)) else (some false))) else (some false)) = some true := by rw [if_pos rfl] at H; exact H
                clear H; have H := H1; clear H1; by_cases c71 : t287 = 0
                ·rw [if_pos c71] at H
                 have c71b0 : (t287 == 0) = true := beq_iff_eq.mpr c71; have c71b1 : (t287 != 0) = false := bne_eq_false_iff_eq.mpr c71; clear c71; refine oR H ?_; clear H; intro t292 A72 H; by_cases c73 : t292 = true
                 ·subst c73
                  have H1 : ((hogsheadlaw4_awake.f k3).bind fun t293 => (some t293)) = some true := by rw [if_pos rfl] at H; exact H
                  clear H; have H := H1; clear H1; refine oR H ?_; clear H; intro t293 A74 H; obtain rfl := Option.some.inj H; try go_wp2
                  replace HO_3 := am (rD HO_3.out); replace HB := am (bO HB.out); have p280 : 0 ≤ (0 : Int) := (by omega); have q280 : 0 < (l0.length : Int) := of_decide_eq_true (by assumption); obtain ⟨ad280, A280_0, c280_0, e280, hx280_0, hl280_0, hi280_0⟩ := at_L4 HR0.out 0 p280 q280; have hw280_0 := hx280_0; (try rw [show ((0 : Int)).toNat = 0 from rfl] at hw280_0)
                  (try rw [show 0 * 1 = 0 from rfl] at hw280_0)
                  (try rw [Addr.add_zero'] at hw280_0)
                  obtain rfl : ad262 = ad280 := (by injection e280); have qi280 : (0 < l0.length) = True := eq_true (by omega); (try rw [show ((0 : Int)).toNat = 0 from rfl] at hx280_0)
                  (try rw [Addr.add_zero'] at hx280_0)
                  replace hx280_0 := (HB.out.cell (wB w _ hx280_0)).trans hx280_0; have HR280_0 := am hi280_0; have HC280_0 := am hl280_0; clear hi280_0 hl280_0; replace p280 := eq_true p280; replace q280 := eq_true q280; have p281 : 0 ≤ (0 : Int) := (by omega); have q281 : 0 < (l0.length : Int) := of_decide_eq_true (by assumption); obtain ⟨ad281, A281_0, c281_0, e281, hx281_0, hl281_0, hi281_0⟩ := at_L4 HR0.out 0 p281 q281; have hw281_0 := hx281_0; (try rw [show ((0 : Int)).toNat = 0 from rfl] at hw281_0)
                  (try rw [show 0 * 1 = 0 from rfl] at hw281_0)
                  (try rw [Addr.add_zero'] at hw281_0)
                  obtain rfl : ad262 = ad281 := (by injection e281); have qi281 : (0 < l0.length) = True := eq_true (by omega); (try rw [show ((0 : Int)).toNat = 0 from rfl] at hx281_0)
                  (try rw [Addr.add_zero'] at hx281_0)
                  replace hx281_0 := (HB.out.cell (wB w _ hx281_0)).trans hx281_0; have HR281_0 := am hi281_0; have HC281_0 := am hl281_0; clear hi281_0 hl281_0; replace p281 := eq_true p281; replace q281 := eq_true q281; have ea_ := Option.some.inj (hx280_0.symm.trans hx281_0); injection ea_ with ea_ en_ ec_; subst ea_; subst ec_; clear en_; refine start_ (n := 13) (S := fun w' => w'.cell? ad262 = some (.slice A280_0 (rd_L4 l0 0).length c280_0) ∧ w'.cell? ad262 = some (.slice A280_0 (rd_L4 l0 0).length c280_0)) (ds := []) #[fF,fF,fF,fF,fF,fF,fF,fF,fF,fF,fF,fF,fF] (by kernel_rfl) rfl rfl ⟨((HB.out.cell (wB w _ hw280_0)).trans hw280_0), ((HB.out.cell (wB w _ hw281_0)).trans hw281_0)⟩ (fun hHeld => ?_); refine with_tabW hogsheadlaw4_UnionFirst.tab25 hogsheadlaw4_UnionFirst.bits25 (fun HT_ HW_ => ?_)
                  generalize wr.drew = w75 at HO_3 HB HR280_0 HR281_0 hx280_0 hx281_0 hHeld ⊢
                  refine pu 0 (some 121) ?_
                  refine pu 1 (some 122) ?_
                  refine pu 3 (some 124) ?_
                  refine pu 4 (some 125) ?_
                  refine take_ (i := 2) (N := some 123) (v := ?_) (a' := ?_) #[tT,tT,tT,tT,tT,fF,fF,fF,fF,fF,fF,fF,fF] rfl rfl (take_ofW HT_.out HW_.out (by kernel_rfl)) (fun _ _ _ h => h) (Or.inl ⟨by rfl, ?_⟩) hHeld ?_ ?_
                  rotate_left
                  ·rintro w' ⟨s0, s1⟩
                   go_simp
                   with_reducible rfl
                  rotate_left
                  ·simp only [Act.put, sA, sB, sC, i64_w, i32_w]
                   rfl
                  refine take_ (i := 5) (N := some 126) (v := ?_) (a' := ?_) #[tT,tT,tT,tT,tT,tT,fF,fF,fF,fF,fF,fF,fF] rfl rfl (take_ofW HT_.out HW_.out (by kernel_rfl)) (fun _ _ _ h => h) (Or.inl ⟨by rfl, ?_⟩) hHeld ?_ ?_
                  rotate_left
                  ·rintro w' ⟨s0, s1⟩
                   go_simp
                   with_reducible rfl
                  rotate_left
                  ·simp only [Act.put, sA, sB, sC, i64_w, i32_w]
                   rfl
                  refine one_ (i := 6) (N := some 127) #[tT,tT,tT,tT,tT,tT,tT,fF,fF,fF,fF,fF,fF] rfl rfl (one_of HT_.out (by kernel_rfl)) (by decide) (fun K hK => ?_)
                  refine Kd.R_lit_step rawV _ 25 (by rfl) (N := 127) rfl (xs := [.slice A280_0 (rd_L4 l0 0).length c280_0, .slice A280_0 (rd_L4 l0 0).length c280_0]) (inner := [.slice A280_0 (rd_L4 l0 0).length c280_0, .slice A280_0 (rd_L4 l0 0).length c280_0]) (ok := fun _ => True) (okp := fun _ => True) ?hr ?hp (fun _ hk => hk) trivial (Below.refl _ _) (Nat.le_refl _) (by simp) ?_
                  (case hr => first | (go_simp; done) | (go_simp; rfl))
                  (case hp => exact rawV_two rfl rfl)
                  intro v127_ w127_ ho_ hb hg_ hnew_; clear hg_ hnew_; obtain ⟨A127_, c127_, e127_⟩ := Kd.R_slice ho_; subst e127_; have HV127 := am ho_; have n_ := am (Kd.R_below (rz HO_3.out) hb); clear HO_3; have HO_3 := n_; clear n_; have n_ := bs hb; clear HB; have HB := n_; clear n_; clear hb ho_; refine hK.out _ _ ⟨((HB.out.cell (wB w _ hw280_0)).trans hw280_0), ((HB.out.cell (wB w _ hw281_0)).trans hw281_0)⟩ (fun hHeld => ?_)
                  clear hK K; refine norm_ (a' := ?_) ?_ ?_
                  rotate_left
                  ·show Act.put _ (some 127) _ = _
                   simp only [Act.put, sA, sB, sC, i64_w, i32_w]
                   rfl
                  refine one_ (i := 7) (N := some 128) #[tT,tT,tT,tT,tT,tT,tT,tT,fF,fF,fF,fF,fF] rfl rfl (one_of HT_.out (by kernel_rfl)) (by decide) (fun K hK => ?_)
                  refine goes_ Tryd.func9 (by kernel_rfl) rfl #[.int .i64 0, .slice A127_ 2 c127_] (by rfl) rfl rfl (by (try simp only [mT, mC, mN]); first | done | rfl | (simp only [lD, lT]; rfl)) ?_
                  with_reducible refine (union_Two.calls k3 0 A280_0 c280_0 (rd_L4 l0 0) A280_0 c280_0 (rd_L4 l0 0) t282 t283 A127_ c127_ _ ?sideV ?sideW ?side1 ?side2 ?side3 ?side4 A66.out).mono ?_
                  (case sideV => exact cz (Kd.R_reads' HV127.out).2.2)
                  (case sideW => exact (Kd.R_reads' HV127.out).2.1)
                  (case side1 => exact cz (Kd.C_below HR280_0.out HB.out))
                  (case side2 => exact HC280_0.out)
                  (case side3 => exact cz (Kd.C_below HR281_0.out HB.out))
                  (case side4 => exact HC281_0.out)
                  rintro e w76 ⟨v284, rfl, ho0, hb⟩; refine ⟨_, rfl, ?_⟩
                  have HO285 := am (Kd.R_lower (Kd.R_new' ho0 (Kd.R_lt (rz HO_3.out))) siz); replace HO_3 := am (Kd.R_elder' (rz HO_3.out) (Kd.R_base ho0) hb); replace HB := bs hb; (try clear ho0); refine hK.out _ _ ⟨((HB.out.cell (wB w _ hw280_0)).trans hw280_0), ((HB.out.cell (wB w _ hw281_0)).trans hw281_0)⟩ (fun hHeld => ?_)
                  clear hK K; refine norm_ (a' := ?_) ?_ ?_
                  rotate_left
                  ·show Act.put _ (some 128) _ = _
                   simp only [Act.put, sA, sB, sC, i64_w, i32_w]
                   rfl
                  refine pu 8 (some 120) ?_
                  refine pu 9 (some 129) ?_
                  refine pu 10 (some 130) ?_
                  refine pu 11 (some 13) ?_
                  refine pu 12 (some 14) ?_
                  refine done_ (done_of HT_.out (by kernel_rfl)) ?_
                  try go_wp2_with (first | ((with_reducible refine gate_dst (N := 134) rfl ?_); refine Kd.R_lit rawV _ 25 ?hg (N := 134) ?hd (xs := [.slice Ao13 t255.length co13, .slice Ao13 t255.length co13]) (inner := [.slice Ao13 t255.length co13, .slice Ao13 t255.length co13]) (ok := fun _ => True) (okp := fun _ => True) ?hr ?hp (fun _ hk => hk) trivial (Below.refl _ _) (Nat.le_refl _) (by simp) ?_; (case hd => rfl); (case hg => rfl); (case hr => first | (go_simp; done) | (go_simp; rfl)); (case hp => exact rawV_two rfl rfl); intro v134_ w134_ ho_ hb hg_ hnew_; clear hg_ hnew_; obtain ⟨A134_, c134_, e134_⟩ := Kd.R_slice ho_; subst e134_; have HV134 := am ho_; (try (have n_ := am (Kd.R_below (rz HO_3.out) hb); clear HO_3; have HO_3 := n_; clear n_)); (try (have n_ := am (Kd.R_below (rz HO285.out) hb); clear HO285; have HO285 := n_; clear n_)); (try (have n_ := am (Kd.R_below (rz HO289.out) hb); clear HO289; have HO289 := n_; clear n_)); have n_ := bs hb; clear HB; have HB := n_; clear n_; clear hb ho_) | ((with_reducible refine gate_callee (f := 9) rfl ?_); refine gL (some 135) Tryd.func9 #[.int .i64 1, .slice A134_ 2 c134_] ?_; (with_reducible refine (union_Two.calls k3 1 Ao13 co13 t255 Ao13 co13 t255 t286 t287 A134_ c134_ _ ?sideV ?sideW ?side1 ?side2 ?side3 ?side4 A67.out).mono ?_); (case sideV => exact cz (Kd.R_reads' HV134.out).2.2); (case sideW => exact (Kd.R_reads' HV134.out).2.1); (case side1 => exact cz (Kd.R_reads' HO_3.out).2.2); (case side2 => exact (Kd.R_reads' HO_3.out).2.1); (case side3 => exact cz (Kd.R_reads' HO_3.out).2.2); (case side4 => exact (Kd.R_reads' HO_3.out).2.1); rintro e w77 ⟨v288, rfl, ho0, hb⟩; refine ⟨_, rfl, ?_⟩; have HO289 := am (Kd.R_lower (Kd.R_new' (Kd.R_new' ho0 (Kd.R_lt (rz HO_3.out))) (Kd.R_lt (rz HO285.out))) siz); replace HO_3 := am (Kd.R_elder' (rz HO_3.out) (Kd.R_base ho0) hb); replace HO285 := am (Kd.R_elder' (rz HO285.out) (Kd.R_base ho0) hb); replace HB := bs hb; (try clear ho0); have p290 : 0 ≤ (0 : Int) := (by omega); have q290 : 0 < (l0.length : Int) := of_decide_eq_true (by assumption); obtain ⟨ad290, A290_0, c290_0, e290, hx290_0, hl290_0, hi290_0⟩ := at_L4 HR0.out 0 p290 q290; obtain rfl : ad262 = ad290 := (by injection e290); have qi290 : (0 < l0.length) = True := eq_true (by omega); (try rw [show ((0 : Int)).toNat = 0 from rfl] at hx290_0); (try rw [Addr.add_zero'] at hx290_0); replace hx290_0 := (HB.out.cell (wB w _ hx290_0)).trans hx290_0; have HR290_0 := am hi290_0; have HC290_0 := am hl290_0; clear hi290_0 hl290_0; replace p290 := eq_true p290; replace q290 := eq_true q290; obtain ⟨Ao78, co78, eo78⟩ := Kd.R_slice HO285.out; subst eo78) | (go_at_call 11; (with_reducible refine (hogsheadlaw0_SameNodes.calls k3 _ _ t282 _ _ (rd_L4 l0 0) true _ ?side1 ?side2 ?side3 ?side4 A69.out).mono ?_); (case side1 => exact cz (Kd.R_reads' HO285.out).2.2); (case side2 => exact (Kd.R_reads' HO285.out).2.1); (case side3 => exact cz (Kd.C_below HR290_0.out HB.out)); (case side4 => exact HC290_0.out); rintro e w' ⟨rfl, ⟨nd, rfl⟩⟩; obtain ⟨Ao79, co79, eo79⟩ := Kd.R_slice HO289.out; subst eo79) | (go_at_call 11; (with_reducible refine (hogsheadlaw0_SameNodes.calls k3 _ _ t286 _ _ t255 true _ ?side1 ?side2 ?side3 ?side4 A72.out).mono ?_); (case side1 => exact cz (Kd.R_reads' HO289.out).2.2); (case side2 => exact (Kd.R_reads' HO289.out).2.1); (case side3 => exact cz (Kd.R_reads' HO_3.out).2.2); (case side4 => exact (Kd.R_reads' HO_3.out).2.1); rintro e w' ⟨rfl, ⟨nd, rfl⟩⟩) | (go_at_call 8; (with_reducible refine (hogsheadlaw4_awake.calls k3  true _ A74.out).mono ?_); rintro e w80 ⟨rfl, hb⟩; replace HO_3 := am (Kd.R_below (rz HO_3.out) hb); replace HO285 := am (Kd.R_below (rz HO285.out) hb); replace HO289 := am (Kd.R_below (rz HO289.out) hb); replace HB := bs hb))
                  go_ret; exact ⟨ez, bz⟩
                 ·replace c73 := Bool.eq_false_iff.mpr c73
                  subst c73; have H1 : (some false) = some true := by rw [if_neg (show ¬ (false = true) by decide)] at H; exact H
                  exact absurd H1 (by simp)
                ·rw [if_neg c71] at H
                 exact absurd H (by simp)
               ·replace c70 := Bool.eq_false_iff.mpr c70
                subst c70; have H1 : (some false) = some true := by rw [if_neg (show ¬ (false = true) by decide)] at H; exact H
                exact absurd H1 (by simp)
              ·rw [if_neg c68] at H
               exact absurd H (by simp)
             ·rw [if_neg c65] at H
              exact absurd H (by simp)
        ·rw [if_neg c15] at H
         exact absurd H (by simp)
     ·replace c11 := Bool.eq_false_iff.mpr c11
      subst c11; have H1 : (some false) = some true := by rw [if_neg (show ¬ (false = true) by decide)] at H; exact H
      exact absurd H1 (by simp)
    ·rw [if_neg c9] at H
     have c9b0 : (t256 == 0) = false := beq_eq_false_iff_ne.mpr c9; have c9b1 : (t256 != 0) = true := bne_iff_ne.mpr c9; by_cases c100 : (t255.length : Int) = 0
     ·rw [if_pos c100] at H
      have c100b0 : ((t255.length : Int) == 0) = true := beq_iff_eq.mpr c100; have c100b1 : ((t255.length : Int) != 0) = false := bne_eq_false_iff_eq.mpr c100; clear c100; by_cases c101 : t256 = 7
      ·rw [if_pos c101] at H
       have c101b0 : (t256 == 7) = true := beq_iff_eq.mpr c101; have c101b1 : (t256 != 7) = false := bne_eq_false_iff_eq.mpr c101; clear c101; refine oR H ?_; clear H; intro t259 A102 H; obtain rfl := Option.some.inj H; go_wp2_with (first | ((with_reducible refine gate_callee (f := 9) rfl ?_); refine gL (some 27) Tryd.func9 #[.int .i64 1, .slice A0 l0.length c0] ?_; (with_reducible refine (union_Of.calls kj1 1 _ _ l0 t255 t256 _ ?side1 ?side2 A8.out).mono ?_); (case side1 => exact cz (Kd.C_below HR0.out HB.out)); (case side2 => exact HC0.out); rintro e w103 ⟨v257, rfl, ho0, hb⟩; refine ⟨_, rfl, ?_⟩; have HO258 := am (Kd.R_lower ho0 siz); replace HB := bs hb; (try clear ho0); obtain ⟨Ao104, co104, eo104⟩ := Kd.R_slice HO258.out; subst eo104) | (go_at_call 8; (with_reducible refine (hogsheadlaw4_awake.calls kj1  true _ A102.out).mono ?_); rintro e w105 ⟨rfl, hb⟩; replace HO258 := am (Kd.R_below (rz HO258.out) hb); replace HB := bs hb))
       go_ret; exact ⟨ez, bz⟩
      ·rw [if_neg c101] at H
       have c101b0 : (t256 == 7) = false := beq_eq_false_iff_ne.mpr c101; have c101b1 : (t256 != 7) = true := bne_iff_ne.mpr c101; by_cases c106 : t256 = 3
       ·rw [if_pos c106] at H
        have c106b0 : (t256 == 3) = true := beq_iff_eq.mpr c106; have c106b1 : (t256 != 3) = false := bne_eq_false_iff_eq.mpr c106; clear c106; refine oR H ?_; clear H; intro t260 A107 H; obtain rfl := Option.some.inj H; go_wp2_with (first | ((with_reducible refine gate_callee (f := 9) rfl ?_); refine gL (some 27) Tryd.func9 #[.int .i64 1, .slice A0 l0.length c0] ?_; (with_reducible refine (union_Of.calls kj1 1 _ _ l0 t255 t256 _ ?side1 ?side2 A8.out).mono ?_); (case side1 => exact cz (Kd.C_below HR0.out HB.out)); (case side2 => exact HC0.out); rintro e w108 ⟨v257, rfl, ho0, hb⟩; refine ⟨_, rfl, ?_⟩; have HO258 := am (Kd.R_lower ho0 siz); replace HB := bs hb; (try clear ho0); obtain ⟨Ao109, co109, eo109⟩ := Kd.R_slice HO258.out; subst eo109) | (go_at_call 8; (with_reducible refine (hogsheadlaw4_awake.calls kj1  true _ A107.out).mono ?_); rintro e w110 ⟨rfl, hb⟩; replace HO258 := am (Kd.R_below (rz HO258.out) hb); replace HB := bs hb))
        go_ret; exact ⟨ez, bz⟩
       ·rw [if_neg c106] at H
        exact absurd H (by simp)
     ·rw [if_neg c100] at H
      exact absurd H (by simp)
/-- The one plain statement of hogsheadlaw4_UnionFirst. -/
def hogsheadlaw4_UnionFirst.Pure : Prop := ∀ (l0 : List (List (S37))), (l0.length ≤ maxLen ∧ ∀ y1 ∈ l0, y1.length ≤ maxLen ∧ ∀ y2 ∈ y1, (y2.f0.size ≤ maxLen) ∧ ((Lit.int .i64 y2.f1).wf = true) ∧ (y2.f2.size ≤ maxLen)) → ∃ k, hogsheadlaw4_UnionFirst.f k l0 = some true

end Go.Proofs.YtiamdmlbhmgnjaaDoor.P
