/- Laid by a program of this session (wip/pr), after the printer of the kit: the functions that a statement reaches as plain Lean functions, and that the calls of the machine come to them. No condition. -/
import Derived.Test.YtmhdekdpfacjoaaDoorPx0
import Derived.Test.YtmhdekdpfacjoaaDoorPx1
import Derived.Test.YtmhdekdpfacjoaaDoorPx2
import Derived.Test.YtmhdekdpfacjoaaDoorPx3
namespace Go.Proofs.YtmhdekdpfacjoaaDoor.P
open Go.RowKit Go.Proofs.YtmhdekdpfacjoaaDoorX Go.Proofs.YtmhdekdpfacjoaaDoorW.PrintWords Go.Proofs.YtmhdekdpfacjoaaDoorW.PrintLast Go.Proofs.YtmhdekdpfacjoaaDoorW.PrintMore
attribute [local go_sem] max2_int min2_int max_two min_two max_three min_three max_four min_four   -- for this text's walks alone
set_option linter.unusedVariables false
set_option linter.unusedSimpArgs false

/-! ### hogsheadlaw1_PathLonger: function 7 -/
mutual
def hogsheadlaw1_PathLonger.j0 : Nat → ByteArray → ByteArray → Bool → Option (Bool)
  | 0, _, _, _ => none
  | k + 1, x0, x1, x28 => if x28 = true then ((hogsheadlaw1_awake.f k).bind fun t274 => (some t274)) else ((path_Split.f k x0).bind fun t275 => ((path_Split.f k x1).bind fun t278 => (if ([] : List ByteArray).length + t275.length < 8796093022208 then ((some (([] : List ByteArray) ++ t275 : List ByteArray)).bind fun y281 => (if y281.length + t278.length < 8796093022208 then ((some (y281 ++ t278 : List ByteArray)).bind fun y284 => ((path_Join.f k y284).bind fun bt287 => (if (t275.length : Int) > 0 then (hogsheadlaw1_PathLonger.j1 k x0 y284 bt287.1 bt287.2 (wrap64 ((x0.size : Int) + (x1.size : Int))) (decide ((t278.length : Int) > 0))) else (hogsheadlaw1_PathLonger.j1 k x0 y284 bt287.1 bt287.2 (wrap64 ((x0.size : Int) + (x1.size : Int))) false)))) else (none))) else (none))))
def hogsheadlaw1_PathLonger.j1 : Nat → ByteArray → List ByteArray → ByteArray → Bool → Int → Bool → Option (Bool)
  | 0, _, _, _, _, _, _ => none
  | k + 1, x0, x7, x8, x9, x10, x55 => if x55 = true then (hogsheadlaw1_PathLonger.j2 k x0 x7 x8 x9 (wrap64 (x10 + 1))) else (hogsheadlaw1_PathLonger.j2 k x0 x7 x8 x9 x10)
def hogsheadlaw1_PathLonger.j2 : Nat → ByteArray → List ByteArray → ByteArray → Bool → Int → Option (Bool)
  | 0, _, _, _, _, _ => none
  | k + 1, x0, x7, x8, x9, x10 => if (x7.length : Int) ≤ 10 then (hogsheadlaw1_PathLonger.j3 k x0 x7 x8 x9 x10 (x9 != (decide (x10 ≤ 200)))) else (hogsheadlaw1_PathLonger.j3 k x0 x7 x8 x9 x10 (x9 != false))
def hogsheadlaw1_PathLonger.j3 : Nat → ByteArray → List ByteArray → ByteArray → Bool → Int → Bool → Option (Bool)
  | 0, _, _, _, _, _, _ => none
  | k + 1, x0, x7, x8, x9, x10, x66 => if x66 = true then (some false) else (if x9 = true then (if (x8.size : Int) = x10 then ((path_Under.f k x8 x0).bind fun t289 => (if t289 = true then ((path_Split.f k x8).bind fun t290 => ((hogsheadlaw0_SameTexts.f k t290 x7).bind fun t293 => (if t293 = true then ((hogsheadlaw1_awake.f k).bind fun t294 => (some t294)) else (some false)))) else (some false))) else (some false)) else (if x8.toList = ([] : List UInt8) then ((hogsheadlaw1_awake.f k).bind fun t295 => (some t295)) else (some false)))
end
def hogsheadlaw1_PathLonger.f (k : Nat) (a0 : ByteArray) (a1 : ByteArray) : Option (Bool) := if (a0.size : Int) > 200 then (hogsheadlaw1_PathLonger.j0 k a0 a1 true) else (if (a1.size : Int) > 200 then (hogsheadlaw1_PathLonger.j0 k a0 a1 true) else ((path_May.f k a0).bind fun t272 => (if t272 = true then ((path_May.f k a1).bind fun t273 => (hogsheadlaw1_PathLonger.j0 k a0 a1 (!t273))) else (hogsheadlaw1_PathLonger.j0 k a0 a1 true))))
theorem hogsheadlaw1_PathLonger.mono_l : ∀ k, (∀ y0 y1 y2, LeO (hogsheadlaw1_PathLonger.j0 k y0 y1 y2) (hogsheadlaw1_PathLonger.j0 (k + 1) y0 y1 y2)) ∧ (∀ y0 y1 y2 y3 y4 y5, LeO (hogsheadlaw1_PathLonger.j1 k y0 y1 y2 y3 y4 y5) (hogsheadlaw1_PathLonger.j1 (k + 1) y0 y1 y2 y3 y4 y5)) ∧ (∀ y0 y1 y2 y3 y4, LeO (hogsheadlaw1_PathLonger.j2 k y0 y1 y2 y3 y4) (hogsheadlaw1_PathLonger.j2 (k + 1) y0 y1 y2 y3 y4)) ∧ (∀ y0 y1 y2 y3 y4 y5, LeO (hogsheadlaw1_PathLonger.j3 k y0 y1 y2 y3 y4 y5) (hogsheadlaw1_PathLonger.j3 (k + 1) y0 y1 y2 y3 y4 y5))
  | 0 => ⟨fun _ _ _ r h => by simp [hogsheadlaw1_PathLonger.j0] at h, fun _ _ _ _ _ _ r h => by simp [hogsheadlaw1_PathLonger.j1] at h, fun _ _ _ _ _ r h => by simp [hogsheadlaw1_PathLonger.j2] at h, fun _ _ _ _ _ _ r h => by simp [hogsheadlaw1_PathLonger.j3] at h⟩
  | k + 1 => by
    obtain ⟨ih0, ih1, ih2, ih3⟩ := hogsheadlaw1_PathLonger.mono_l k
    refine ⟨?_, ?_, ?_, ?_⟩
    · intro y0 y1 y2
      unfold hogsheadlaw1_PathLonger.j0
      repeat' first
      | (with_reducible exact ih0 _ _ _)
      | (with_reducible exact ih1 _ _ _ _ _ _)
      | (with_reducible exact ih2 _ _ _ _ _)
      | (with_reducible exact ih3 _ _ _ _ _ _)
      | (with_reducible exact hogsheadlaw0_SameTexts.mono _ _ _)
      | (with_reducible exact hogsheadlaw1_awake.mono _)
      | (with_reducible exact path_Join.mono _ _)
      | (with_reducible exact path_May.mono _ _)
      | (with_reducible exact path_Split.mono _ _)
      | (with_reducible exact path_Under.mono _ _ _)
      | (with_reducible exact LeO.refl _)
      | (with_reducible exact LeO.none _)
      | (with_reducible refine LeO.ite ?_ ?_)
      | (with_reducible refine LeO.bind ?_ (fun _ => ?_))
      | exact ih0 _ _ _
      | exact ih1 _ _ _ _ _ _
      | exact ih2 _ _ _ _ _
      | exact ih3 _ _ _ _ _ _
      | exact hogsheadlaw0_SameTexts.mono _ _ _
      | exact hogsheadlaw1_awake.mono _
      | exact path_Join.mono _ _
      | exact path_May.mono _ _
      | exact path_Split.mono _ _
      | exact path_Under.mono _ _ _
      | exact LeO.none _
      | refine LeO.ite ?_ ?_
      | refine LeO.bind ?_ (fun _ => ?_)
    · intro y0 y1 y2 y3 y4 y5
      unfold hogsheadlaw1_PathLonger.j1
      repeat' first
      | (with_reducible exact ih0 _ _ _)
      | (with_reducible exact ih1 _ _ _ _ _ _)
      | (with_reducible exact ih2 _ _ _ _ _)
      | (with_reducible exact ih3 _ _ _ _ _ _)
      | (with_reducible exact hogsheadlaw0_SameTexts.mono _ _ _)
      | (with_reducible exact hogsheadlaw1_awake.mono _)
      | (with_reducible exact path_Join.mono _ _)
      | (with_reducible exact path_May.mono _ _)
      | (with_reducible exact path_Split.mono _ _)
      | (with_reducible exact path_Under.mono _ _ _)
      | (with_reducible exact LeO.refl _)
      | (with_reducible exact LeO.none _)
      | (with_reducible refine LeO.ite ?_ ?_)
      | (with_reducible refine LeO.bind ?_ (fun _ => ?_))
      | exact ih0 _ _ _
      | exact ih1 _ _ _ _ _ _
      | exact ih2 _ _ _ _ _
      | exact ih3 _ _ _ _ _ _
      | exact hogsheadlaw0_SameTexts.mono _ _ _
      | exact hogsheadlaw1_awake.mono _
      | exact path_Join.mono _ _
      | exact path_May.mono _ _
      | exact path_Split.mono _ _
      | exact path_Under.mono _ _ _
      | exact LeO.none _
      | refine LeO.ite ?_ ?_
      | refine LeO.bind ?_ (fun _ => ?_)
    · intro y0 y1 y2 y3 y4
      unfold hogsheadlaw1_PathLonger.j2
      repeat' first
      | (with_reducible exact ih0 _ _ _)
      | (with_reducible exact ih1 _ _ _ _ _ _)
      | (with_reducible exact ih2 _ _ _ _ _)
      | (with_reducible exact ih3 _ _ _ _ _ _)
      | (with_reducible exact hogsheadlaw0_SameTexts.mono _ _ _)
      | (with_reducible exact hogsheadlaw1_awake.mono _)
      | (with_reducible exact path_Join.mono _ _)
      | (with_reducible exact path_May.mono _ _)
      | (with_reducible exact path_Split.mono _ _)
      | (with_reducible exact path_Under.mono _ _ _)
      | (with_reducible exact LeO.refl _)
      | (with_reducible exact LeO.none _)
      | (with_reducible refine LeO.ite ?_ ?_)
      | (with_reducible refine LeO.bind ?_ (fun _ => ?_))
      | exact ih0 _ _ _
      | exact ih1 _ _ _ _ _ _
      | exact ih2 _ _ _ _ _
      | exact ih3 _ _ _ _ _ _
      | exact hogsheadlaw0_SameTexts.mono _ _ _
      | exact hogsheadlaw1_awake.mono _
      | exact path_Join.mono _ _
      | exact path_May.mono _ _
      | exact path_Split.mono _ _
      | exact path_Under.mono _ _ _
      | exact LeO.none _
      | refine LeO.ite ?_ ?_
      | refine LeO.bind ?_ (fun _ => ?_)
    · intro y0 y1 y2 y3 y4 y5
      unfold hogsheadlaw1_PathLonger.j3
      repeat' first
      | (with_reducible exact ih0 _ _ _)
      | (with_reducible exact ih1 _ _ _ _ _ _)
      | (with_reducible exact ih2 _ _ _ _ _)
      | (with_reducible exact ih3 _ _ _ _ _ _)
      | (with_reducible exact hogsheadlaw0_SameTexts.mono _ _ _)
      | (with_reducible exact hogsheadlaw1_awake.mono _)
      | (with_reducible exact path_Join.mono _ _)
      | (with_reducible exact path_May.mono _ _)
      | (with_reducible exact path_Split.mono _ _)
      | (with_reducible exact path_Under.mono _ _ _)
      | (with_reducible exact LeO.refl _)
      | (with_reducible exact LeO.none _)
      | (with_reducible refine LeO.ite ?_ ?_)
      | (with_reducible refine LeO.bind ?_ (fun _ => ?_))
      | exact ih0 _ _ _
      | exact ih1 _ _ _ _ _ _
      | exact ih2 _ _ _ _ _
      | exact ih3 _ _ _ _ _ _
      | exact hogsheadlaw0_SameTexts.mono _ _ _
      | exact hogsheadlaw1_awake.mono _
      | exact path_Join.mono _ _
      | exact path_May.mono _ _
      | exact path_Split.mono _ _
      | exact path_Under.mono _ _ _
      | exact LeO.none _
      | refine LeO.ite ?_ ?_
      | refine LeO.bind ?_ (fun _ => ?_)
theorem hogsheadlaw1_PathLonger.mono : ∀ a0 a1 k, LeO (hogsheadlaw1_PathLonger.f k a0 a1) (hogsheadlaw1_PathLonger.f (k + 1) a0 a1) := by
  intro a0 a1 k
  obtain ⟨ih0, ih1, ih2, ih3⟩ := hogsheadlaw1_PathLonger.mono_l k
  unfold hogsheadlaw1_PathLonger.f
  repeat' first
      | (with_reducible exact ih0 _ _ _)
      | (with_reducible exact ih1 _ _ _ _ _ _)
      | (with_reducible exact ih2 _ _ _ _ _)
      | (with_reducible exact ih3 _ _ _ _ _ _)
      | (with_reducible exact hogsheadlaw0_SameTexts.mono _ _ _)
      | (with_reducible exact hogsheadlaw1_awake.mono _)
      | (with_reducible exact path_Join.mono _ _)
      | (with_reducible exact path_May.mono _ _)
      | (with_reducible exact path_Split.mono _ _)
      | (with_reducible exact path_Under.mono _ _ _)
      | (with_reducible exact LeO.refl _)
      | (with_reducible exact LeO.none _)
      | (with_reducible refine LeO.ite ?_ ?_)
      | (with_reducible refine LeO.bind ?_ (fun _ => ?_))
      | exact ih0 _ _ _
      | exact ih1 _ _ _ _ _ _
      | exact ih2 _ _ _ _ _
      | exact ih3 _ _ _ _ _ _
      | exact hogsheadlaw0_SameTexts.mono _ _ _
      | exact hogsheadlaw1_awake.mono _
      | exact path_Join.mono _ _
      | exact path_May.mono _ _
      | exact path_Split.mono _ _
      | exact path_Under.mono _ _ _
      | exact LeO.none _
      | refine LeO.ite ?_ ?_
      | refine LeO.bind ?_ (fun _ => ?_)
set_option maxHeartbeats 8000000 in
set_option maxRecDepth 100000 in
theorem hogsheadlaw1_PathLonger.calls (k : Nat) (a0 : ByteArray) (a1 : ByteArray) (r : Bool) (w : World) (h : hogsheadlaw1_PathLonger.f k a0 a1 = some r) :
    Calls Tryd.prog 7 #[.string a0, .string a1] w fun e w' => e = .returned (.bool r) ∧ Below w.heap.size w w' := by
  have HB := Aside0.mk (Below.refl w.heap.size w)
  have H : (if (a0.size : Int) > 200 then (hogsheadlaw1_PathLonger.j0 k a0 a1 true) else (if (a1.size : Int) > 200 then (hogsheadlaw1_PathLonger.j0 k a0 a1 true) else ((path_May.f k a0).bind fun t272 => (if t272 = true then ((path_May.f k a1).bind fun t273 => (hogsheadlaw1_PathLonger.j0 k a0 a1 (!t273))) else (hogsheadlaw1_PathLonger.j0 k a0 a1 true))))) = some r := h
  clear h
  have HC3 := Aside0.mk H
  clear H
  go_enter Tryd.func7, Tryd.ntmps7
  go_upto_region 1 with (fail)
  go_cut [28] (fun v28 wc => ∃ (kq : Nat) (x28_2 : Bool), v28 = .bool x28_2 ∧ Aside0 (hogsheadlaw1_PathLonger.j0 kq a0 a1 x28_2 = some r) ∧ Aside0 (kq ≤ k) ∧ Aside0 (Below w.heap.size w wc))
  case first =>
    have H := HC3.out
    clear HC3
    by_cases c4 : (a0.size : Int) > 200
    · rw [if_pos c4] at H
      have c4b0 : decide (200 < (a0.size : Int)) = true := decide_eq_true c4
      have c4b1 : decide (200 < a0.size) = true := decide_eq_true (by omega)
      clear c4
      (first | rw [c4b0] | (simp only [i64_w, i32_w]; rw [c4b0]) | skip)
      have H' := Aside0.mk H
      clear H
      go_wp2
      go_meet
      case rel => exact ⟨_, (true), (by first | rfl | (simp; done) | (simp [*]; done)), H', ⟨by first | omega | exact Nat.le_refl _⟩, ⟨by repeat (first | (with_reducible first | exact HB.out | apply below_alloc | apply pw_below_drewN | apply below_drew1) | exact HB.out)⟩⟩
    · rw [if_neg c4] at H
      have c4b0 : decide (200 < (a0.size : Int)) = false := decide_eq_false c4
      have c4b1 : decide (200 < a0.size) = false := decide_eq_false (by omega)
      clear c4
      (first | rw [c4b0] | (simp only [i64_w, i32_w]; rw [c4b0]) | skip)
      by_cases c5 : (a1.size : Int) > 200
      · rw [if_pos c5] at H
        have c5b0 : decide (200 < (a1.size : Int)) = true := decide_eq_true c5
        have c5b1 : decide (200 < a1.size) = true := decide_eq_true (by omega)
        clear c5
        have H' := Aside0.mk H
        clear H
        go_wp2
        go_meet
        case rel => exact ⟨_, (true), (by first | rfl | (simp; done) | (simp [*]; done)), H', ⟨by first | omega | exact Nat.le_refl _⟩, ⟨by repeat (first | (with_reducible first | exact HB.out | apply below_alloc | apply pw_below_drewN | apply below_drew1) | exact HB.out)⟩⟩
      · rw [if_neg c5] at H
        have c5b0 : decide (200 < (a1.size : Int)) = false := decide_eq_false c5
        have c5b1 : decide (200 < a1.size) = false := decide_eq_false (by omega)
        clear c5
        replace H := Option.bind_eq_some_iff.mp H
        obtain ⟨t272, A60, H⟩ := H
        replace H : (if t272 = true then ((path_May.f k a1).bind fun t273 => (hogsheadlaw1_PathLonger.j0 k a0 a1 (!t273))) else (hogsheadlaw1_PathLonger.j0 k a0 a1 true)) = some r := H
        have A6 := Aside0.mk A60
        clear A60
        by_cases c7 : t272 = true
        · subst c7
          have H1 : ((path_May.f k a1).bind fun t273 => (hogsheadlaw1_PathLonger.j0 k a0 a1 (!t273))) = some r := by rw [if_pos rfl] at H; exact H
          clear H
          have H := H1
          clear H1
          replace H := Option.bind_eq_some_iff.mp H
          obtain ⟨t273, A80, H⟩ := H
          replace H : (hogsheadlaw1_PathLonger.j0 k a0 a1 (!t273)) = some r := H
          have A8 := Aside0.mk A80
          clear A80
          have H' := Aside0.mk H
          clear H
          go_wp2_with (first | (go_at_call 17; (with_reducible refine (path_May.calls k a0 true _ A6.out).mono ?_); rintro e w9 ⟨rfl, hb⟩; have n0_ := Aside0.mk (below_step (by repeat (first | (with_reducible first | exact HB.out | apply below_alloc | apply pw_below_drewN | apply below_drew1) | exact HB.out)) hb); clear HB; have HB := n0_; clear n0_; (try clear hb); (try clear hb2); (try clear hk); (try clear hi)) | (go_at_call 17; (with_reducible refine (path_May.calls k a1 t273 _ A8.out).mono ?_); rintro e w10 ⟨rfl, hb⟩; have n0_ := Aside0.mk (below_step (by repeat (first | (with_reducible first | exact HB.out | apply below_alloc | apply pw_below_drewN | apply below_drew1) | exact HB.out)) hb); clear HB; have HB := n0_; clear n0_; (try clear hb); (try clear hb2); (try clear hk); (try clear hi)))
          go_meet
          case rel => exact ⟨_, (!t273), (by first | rfl | (simp; done) | (simp [*]; done)), H', ⟨by first | omega | exact Nat.le_refl _⟩, ⟨by repeat (first | (with_reducible first | exact HB.out | apply below_alloc | apply pw_below_drewN | apply below_drew1) | exact HB.out)⟩⟩
        · replace c7 := Bool.eq_false_iff.mpr c7
          subst c7
          have H1 : (hogsheadlaw1_PathLonger.j0 k a0 a1 true) = some r := by rw [if_neg (show ¬ (false = true) by decide)] at H; exact H
          clear H
          have H := H1
          clear H1
          have H' := Aside0.mk H
          clear H
          go_wp2_with (first | (go_at_call 17; (with_reducible refine (path_May.calls k a0 false _ A6.out).mono ?_); rintro e w11 ⟨rfl, hb⟩; have n0_ := Aside0.mk (below_step (by repeat (first | (with_reducible first | exact HB.out | apply below_alloc | apply pw_below_drewN | apply below_drew1) | exact HB.out)) hb); clear HB; have HB := n0_; clear n0_; (try clear hb); (try clear hb2); (try clear hk); (try clear hi)))
          go_meet
          case rel => exact ⟨_, (true), (by first | rfl | (simp; done) | (simp [*]; done)), H', ⟨by first | omega | exact Nat.le_refl _⟩, ⟨by repeat (first | (with_reducible first | exact HB.out | apply below_alloc | apply pw_below_drewN | apply below_drew1) | exact HB.out)⟩⟩
  case rest =>
    clear HC3
    try clear p2
    try clear c4
    try clear c4b0
    try clear c4b1
    try clear c5
    try clear c5b0
    try clear c5b1
    try clear c7
    obtain ⟨kq, x28_2, rfl, HA, HJ2, HB⟩ := hcut
    cases kq with
    | zero => exact absurd HA.out (by simp [hogsheadlaw1_PathLonger.j0])
    | succ kj2 =>
      have H := HA.out
      clear HA
      simp only [hogsheadlaw1_PathLonger.j0] at H
      by_cases c12 : x28_2 = true
      · subst c12
        have H1 : ((hogsheadlaw1_awake.f kj2).bind fun t274 => (some t274)) = some r := by rw [if_pos rfl] at H; exact H
        clear H
        have H := H1
        clear H1
        replace H := Option.bind_eq_some_iff.mp H
        obtain ⟨t274, A130, H⟩ := H
        replace H : (some t274) = some r := H
        have A13 := Aside0.mk A130
        clear A130
        obtain rfl := Option.some.inj H
        go_wp2_with (first | ((with_reducible refine gate_callee (f := 8) rfl ?_); refine goesL_ (some 29) rfl rfl Tryd.func8 (by kernel_rfl) rfl #[] rfl (by (try simp only [List.map_toArray, List.map_cons, List.map_nil]); first | done | rfl | (simp only [List.length_drop, List.length_take]; rfl)) ?_; (with_reducible refine (hogsheadlaw1_awake.calls kj2  t274 _ A13.out).mono ?_); rintro e w14 ⟨rfl, hb⟩; refine ⟨_, rfl, ?_⟩; have n0_ := Aside0.mk (below_step (by repeat (first | (with_reducible first | exact HB.out | apply below_alloc | apply pw_below_drewN | apply below_drew1) | exact HB.out)) hb); clear HB; have HB := n0_; clear n0_; (try clear hb); (try clear hb2); (try clear hk); (try clear hi)))
        go_ret
        exact ⟨by first | rfl | (simp [errW_none, errW_some] <;> rfl) | (simp [*, errW_none, errW_some] <;> rfl), by repeat (first | (with_reducible first | exact HB.out | apply below_alloc | apply pw_below_drewN | apply below_drew1) | exact HB.out)⟩
      · replace c12 := Bool.eq_false_iff.mpr c12
        subst c12
        have H1 : ((path_Split.f kj2 a0).bind fun t275 => ((path_Split.f kj2 a1).bind fun t278 => (if ([] : List ByteArray).length + t275.length < 8796093022208 then ((some (([] : List ByteArray) ++ t275 : List ByteArray)).bind fun y281 => (if y281.length + t278.length < 8796093022208 then ((some (y281 ++ t278 : List ByteArray)).bind fun y284 => ((path_Join.f kj2 y284).bind fun bt287 => (if (t275.length : Int) > 0 then (hogsheadlaw1_PathLonger.j1 kj2 a0 y284 bt287.1 bt287.2 (wrap64 ((a0.size : Int) + (a1.size : Int))) (decide ((t278.length : Int) > 0))) else (hogsheadlaw1_PathLonger.j1 kj2 a0 y284 bt287.1 bt287.2 (wrap64 ((a0.size : Int) + (a1.size : Int))) false)))) else (none))) else (none)))) = some r := by rw [if_neg (show ¬ (false = true) by decide)] at H; exact H
        clear H
        have H := H1
        clear H1
        replace H := Option.bind_eq_some_iff.mp H
        obtain ⟨t275, A150, H⟩ := H
        replace H : ((path_Split.f kj2 a1).bind fun t278 => (if ([] : List ByteArray).length + t275.length < 8796093022208 then ((some (([] : List ByteArray) ++ t275 : List ByteArray)).bind fun y281 => (if y281.length + t278.length < 8796093022208 then ((some (y281 ++ t278 : List ByteArray)).bind fun y284 => ((path_Join.f kj2 y284).bind fun bt287 => (if (t275.length : Int) > 0 then (hogsheadlaw1_PathLonger.j1 kj2 a0 y284 bt287.1 bt287.2 (wrap64 ((a0.size : Int) + (a1.size : Int))) (decide ((t278.length : Int) > 0))) else (hogsheadlaw1_PathLonger.j1 kj2 a0 y284 bt287.1 bt287.2 (wrap64 ((a0.size : Int) + (a1.size : Int))) false)))) else (none))) else (none))) = some r := H
        have A15 := Aside0.mk A150
        clear A150
        replace H := Option.bind_eq_some_iff.mp H
        obtain ⟨t278, A160, H⟩ := H
        replace H : (if ([] : List ByteArray).length + t275.length < 8796093022208 then ((some (([] : List ByteArray) ++ t275 : List ByteArray)).bind fun y281 => (if y281.length + t278.length < 8796093022208 then ((some (y281 ++ t278 : List ByteArray)).bind fun y284 => ((path_Join.f kj2 y284).bind fun bt287 => (if (t275.length : Int) > 0 then (hogsheadlaw1_PathLonger.j1 kj2 a0 y284 bt287.1 bt287.2 (wrap64 ((a0.size : Int) + (a1.size : Int))) (decide ((t278.length : Int) > 0))) else (hogsheadlaw1_PathLonger.j1 kj2 a0 y284 bt287.1 bt287.2 (wrap64 ((a0.size : Int) + (a1.size : Int))) false)))) else (none))) else (none)) = some r := H
        have A16 := Aside0.mk A160
        clear A160
        by_cases c17 : ([] : List ByteArray).length + t275.length < 8796093022208
        · rw [if_pos c17] at H
          have LMc17 := Aside0.mk c17
          clear c17
          obtain ⟨y281, hy281⟩ : ∃ y_ : List ByteArray, y_ = (([] : List ByteArray) ++ t275) := ⟨_, rfl⟩
          replace H : (if y281.length + t278.length < 8796093022208 then ((some (y281 ++ t278 : List ByteArray)).bind fun y284 => ((path_Join.f kj2 y284).bind fun bt287 => (if (t275.length : Int) > 0 then (hogsheadlaw1_PathLonger.j1 kj2 a0 y284 bt287.1 bt287.2 (wrap64 ((a0.size : Int) + (a1.size : Int))) (decide ((t278.length : Int) > 0))) else (hogsheadlaw1_PathLonger.j1 kj2 a0 y284 bt287.1 bt287.2 (wrap64 ((a0.size : Int) + (a1.size : Int))) false)))) else (none)) = some r := by first | (rw [hy281]; with_reducible exact H) | (have H2_ := (Option.bind_some _ _).symm.trans H; rw [hy281]; with_reducible exact H2_) | (have H2_ := (Option.bind_some _ _).symm.trans H; with_reducible exact H2_) | with_reducible exact H | (rw [hy281]; exact H) | exact H
          have Ny281 := Aside0.mk hy281
          clear hy281
          by_cases c18 : y281.length + t278.length < 8796093022208
          · rw [if_pos c18] at H
            have LMc18 := Aside0.mk c18
            clear c18
            obtain ⟨y284, hy284⟩ : ∃ y_ : List ByteArray, y_ = (y281 ++ t278) := ⟨_, rfl⟩
            replace H : ((path_Join.f kj2 y284).bind fun bt287 => (if (t275.length : Int) > 0 then (hogsheadlaw1_PathLonger.j1 kj2 a0 y284 bt287.1 bt287.2 (wrap64 ((a0.size : Int) + (a1.size : Int))) (decide ((t278.length : Int) > 0))) else (hogsheadlaw1_PathLonger.j1 kj2 a0 y284 bt287.1 bt287.2 (wrap64 ((a0.size : Int) + (a1.size : Int))) false))) = some r := by first | (rw [hy284]; with_reducible exact H) | (have H2_ := (Option.bind_some _ _).symm.trans H; rw [hy284]; with_reducible exact H2_) | (have H2_ := (Option.bind_some _ _).symm.trans H; with_reducible exact H2_) | with_reducible exact H | (rw [hy284]; exact H) | exact H
            have Ny284 := Aside0.mk hy284
            clear hy284
            replace H := Option.bind_eq_some_iff.mp H
            obtain ⟨⟨t287, t288⟩, A190, H⟩ := H
            replace H : (if (t275.length : Int) > 0 then (hogsheadlaw1_PathLonger.j1 kj2 a0 y284 t287 t288 (wrap64 ((a0.size : Int) + (a1.size : Int))) (decide ((t278.length : Int) > 0))) else (hogsheadlaw1_PathLonger.j1 kj2 a0 y284 t287 t288 (wrap64 ((a0.size : Int) + (a1.size : Int))) false)) = some r := H
            have A19 := Aside0.mk A190
            clear A190
            have HC20 := Aside0.mk H
            clear H
            go_upto_region 7 with (first | ((with_reducible refine gate_callee (f := 9) rfl ?_); refine goesL_ (some 31) rfl rfl Tryd.func9 (by kernel_rfl) rfl #[.string a0] rfl (by (try simp only [List.map_toArray, List.map_cons, List.map_nil]); first | done | rfl | (simp only [List.length_drop, List.length_take]; rfl)) ?_; (with_reducible refine (path_Split.calls kj2 a0 t275 _ A15.out).mono ?_); rintro e w21 ⟨v276, rfl, ho0, hb⟩; refine ⟨_, rfl, ?_⟩; have n0_ := Aside0.mk (Kd.R_lower ho0 (below_size (by repeat (first | (with_reducible first | exact HB.out | apply below_alloc | apply pw_below_drewN | apply below_drew1) | exact HB.out)))); have n1_ := Aside0.mk (below_step (by repeat (first | (with_reducible first | exact HB.out | apply below_alloc | apply pw_below_drewN | apply below_drew1) | exact HB.out)) hb); clear HB; have HO277 := n0_; have HB := n1_; clear n0_ n1_; (try clear hb); (try clear hb2); (try clear hk); (try clear hi); (try clear ho0)) | ((with_reducible refine gate_callee (f := 9) rfl ?_); refine goesL_ (some 33) rfl rfl Tryd.func9 (by kernel_rfl) rfl #[.string a1] rfl (by (try simp only [List.map_toArray, List.map_cons, List.map_nil]); first | done | rfl | (simp only [List.length_drop, List.length_take]; rfl)) ?_; (with_reducible refine (path_Split.calls kj2 a1 t278 _ A16.out).mono ?_); rintro e w22 ⟨v279, rfl, ho0, hb⟩; refine ⟨_, rfl, ?_⟩; have n0_ := Aside0.mk (Kd.R_elder' (by (with_reducible repeat (first | apply Kd.R_alloc | apply Kd.R_drewN | apply Kd.R_drew)); exact HO277.out) (Kd.R_base ho0) hb); have n1_ := Aside0.mk (Kd.R_lower (Kd.R_new' ho0 (Kd.R_lt (by (with_reducible repeat (first | apply Kd.R_alloc | apply Kd.R_drewN | apply Kd.R_drew)); exact HO277.out))) (below_size (by repeat (first | (with_reducible first | exact HB.out | apply below_alloc | apply pw_below_drewN | apply below_drew1) | exact HB.out)))); have n2_ := Aside0.mk (below_step (by repeat (first | (with_reducible first | exact HB.out | apply below_alloc | apply pw_below_drewN | apply below_drew1) | exact HB.out)) hb); clear HO277; clear HB; have HO277 := n0_; have HO280 := n1_; have HB := n2_; clear n0_ n1_ n2_; (try clear hb); (try clear hb2); (try clear hk); (try clear hi); (try clear ho0); obtain ⟨Ao24, co24, eo24⟩ := Kd.R_slice HO277.out; subst eo24) | ((with_reducible refine gate_builtin (b := .append) (xs := #[.const (.slice none 0 0), .tmp 34]) rfl ?_); (try (refine gate_guard (by rfl) ?_; dsimp only)); at_builtin; refine Kd.R_append_rows Kd.string (w0 := w) w.heap.size rfl (.const (.slice none 0 0)) (.tmp 34) 23 9 (.string ⟨#[]⟩) 16 rfl Tryd.underlying23 info9 rfl (by decide) (by omega) (.slice none 0 0) ([] : List ByteArray) t275 _ _ _ (fun k_ => some k_ ≠ (.slice Ao24 t275.length co24 : Value).ownBlock ∧ some k_ ≠ (v279 : Value).ownBlock) (fun _ => False) rfl rfl ?aO ?aR (fun _ _ h => h) (fun _ h => h.elim) ?aF ?aB ?aS ?aL ?_; (case aR => repeat (first | exact (Kd.R_reads' HO277.out).2.2 | (with_reducible refine Kd.C_alloc ?_ _) | (with_reducible refine Kd.C_drewN ?_ _) | (with_reducible refine Kd.C_drew ?_))); (case aB => exact (by repeat (first | (with_reducible first | exact HB.out | apply below_alloc | apply pw_below_drewN | apply below_drew1) | exact HB.out))); (case aF => exact (fun k_ hk => ⟨Kd.fresh' (Kd.R_lt (by (with_reducible repeat (first | apply Kd.R_alloc | apply Kd.R_drewN | apply Kd.R_drew)); exact HO277.out)) k_ hk, Kd.fresh' (Kd.R_lt (by (with_reducible repeat (first | apply Kd.R_alloc | apply Kd.R_drewN | apply Kd.R_drew)); exact HO280.out)) k_ hk⟩)); (case aO => exact ((Kd.R_nil _ _ _ _ (fun k_ => some k_ ≠ (.slice Ao24 t275.length co24 : Value).ownBlock ∧ some k_ ≠ (v279 : Value).ownBlock)))); (case aS => exact (below_size (by repeat (first | (with_reducible first | exact HB.out | apply below_alloc | apply pw_below_drewN | apply below_drew1) | exact HB.out)))); (case aL => have := LMc17.out; omega); intro v282 w23 ho hb hg hat; rw [← Ny281.out] at ho; have n0_ := Aside0.mk (Kd.R_after (Kd.R_apart_nil (by (with_reducible repeat (first | apply Kd.R_alloc | apply Kd.R_drewN | apply Kd.R_drew)); exact HO277.out)) hg hat); have n1_ := Aside0.mk (Kd.R_after (Kd.R_apart_nil (by (with_reducible repeat (first | apply Kd.R_alloc | apply Kd.R_drewN | apply Kd.R_drew)); exact HO280.out)) hg hat); have n2_ := Aside0.mk (hb); have n3_ := Aside0.mk (ho); clear HO277; clear HO280; clear HB; have HO277 := n0_; have HO280 := n1_; have HB := n2_; have HO283 := n3_; clear n0_ n1_ n2_ n3_; clear ho hb hg hat; obtain ⟨Ao26, co26, eo26⟩ := Kd.R_slice HO280.out; subst eo26) | ((with_reducible refine gate_builtin (b := .append) (xs := #[.tmp 35, .tmp 36]) rfl ?_); (try (refine gate_guard (by rfl) ?_; dsimp only)); at_builtin; refine Kd.R_append_rows Kd.string (w0 := w) w.heap.size rfl (.tmp 35) (.tmp 36) 23 9 (.string ⟨#[]⟩) 16 rfl Tryd.underlying23 info9 rfl (by decide) (by omega) v282 y281 t278 _ _ _ (fun k_ => some k_ ≠ (.slice Ao24 t275.length co24 : Value).ownBlock ∧ some k_ ≠ (.slice Ao26 t278.length co26 : Value).ownBlock) (fun _ => False) rfl rfl ?aO ?aR (fun _ _ h => h) (fun _ h => h.elim) ?aF ?aB ?aS ?aL ?_; (case aR => repeat (first | exact (Kd.R_reads' HO280.out).2.2 | (with_reducible refine Kd.C_alloc ?_ _) | (with_reducible refine Kd.C_drewN ?_ _) | (with_reducible refine Kd.C_drew ?_))); (case aB => exact (by repeat (first | (with_reducible first | exact HB.out | apply below_alloc | apply pw_below_drewN | apply below_drew1) | exact HB.out))); (case aF => exact (fun k_ hk => ⟨Kd.fresh' (Kd.R_lt (by (with_reducible repeat (first | apply Kd.R_alloc | apply Kd.R_drewN | apply Kd.R_drew)); exact HO277.out)) k_ hk, Kd.fresh' (Kd.R_lt (by (with_reducible repeat (first | apply Kd.R_alloc | apply Kd.R_drewN | apply Kd.R_drew)); exact HO280.out)) k_ hk⟩)); (case aO => exact (by (with_reducible repeat (first | apply Kd.R_alloc | apply Kd.R_drewN | apply Kd.R_drew)); exact HO283.out)); (case aS => exact (below_size (by repeat (first | (with_reducible first | exact HB.out | apply below_alloc | apply pw_below_drewN | apply below_drew1) | exact HB.out)))); (case aL => have := LMc18.out; omega); intro v285 w25 ho hb hg hat; rw [← Ny284.out] at ho; have n0_ := Aside0.mk (Kd.R_after (ok := (fun k_ => some k_ ≠ (.slice Ao26 t278.length co26 : Value).ownBlock)) (by (with_reducible repeat (first | apply Kd.R_alloc | apply Kd.R_drewN | apply Kd.R_drew)); exact Kd.R_mono HO277.out (fun _ hk => ⟨hk.1.2, hk.2⟩)) hg hat); have n1_ := Aside0.mk (Kd.R_after (ok := (fun k_ => some k_ ≠ (.slice Ao24 t275.length co24 : Value).ownBlock)) (by (with_reducible repeat (first | apply Kd.R_alloc | apply Kd.R_drewN | apply Kd.R_drew)); exact Kd.R_mono HO280.out (fun _ hk => ⟨hk.1.2, hk.2⟩)) hg hat); have n2_ := Aside0.mk (hb); have n3_ := Aside0.mk (ho); clear HO277; clear HO280; clear HB; clear HO283; have HO277 := n0_; have HO280 := n1_; have HB := n2_; have HO286 := n3_; clear n0_ n1_ n2_ n3_; clear ho hb hg hat; obtain ⟨Ao27, co27, eo27⟩ := Kd.R_slice HO286.out; subst eo27) | ((with_reducible refine gate_callee (f := 25) rfl ?_); refine goesL_ (some 40) rfl rfl Tryd.func25 (by kernel_rfl) rfl #[.slice Ao27 y284.length co27] rfl (by (try simp only [List.map_toArray, List.map_cons, List.map_nil]); first | done | rfl | (simp only [List.length_drop, List.length_take]; rfl)) ?_; (with_reducible refine (path_Join.calls kj2 _ _ y284 t287 t288 _ ?side1 ?side2 A19.out).mono ?_); (case side1 => repeat (first | exact (Kd.R_reads' HO286.out).2.2 | (with_reducible refine Kd.C_alloc ?_ _) | (with_reducible refine Kd.C_drewN ?_ _) | (with_reducible refine Kd.C_drew ?_))); (case side2 => exact (Kd.R_reads' HO286.out).2.1); rintro e w28 ⟨rfl, hb⟩; refine ⟨_, rfl, ?_⟩; have n0_ := Aside0.mk (Kd.R_below (by (with_reducible repeat (first | apply Kd.R_alloc | apply Kd.R_drewN | apply Kd.R_drew)); exact HO277.out) hb); have n1_ := Aside0.mk (Kd.R_below (by (with_reducible repeat (first | apply Kd.R_alloc | apply Kd.R_drewN | apply Kd.R_drew)); exact HO280.out) hb); have n2_ := Aside0.mk (Kd.R_below (by (with_reducible repeat (first | apply Kd.R_alloc | apply Kd.R_drewN | apply Kd.R_drew)); exact HO286.out) hb); have n3_ := Aside0.mk (below_step (by repeat (first | (with_reducible first | exact HB.out | apply below_alloc | apply pw_below_drewN | apply below_drew1) | exact HB.out)) hb); clear HO277; clear HO280; clear HO286; clear HB; have HO277 := n0_; have HO280 := n1_; have HO286 := n2_; have HB := n3_; clear n0_ n1_ n2_ n3_; (try clear hb); (try clear hb2); (try clear hk); (try clear hi)))
            (try simp only [Act.put, List.setIfInBounds_toArray, List.set_cons_zero, List.set_cons_succ])
            go_cut [55] (fun v55 wc => ∃ (kq : Nat) (x55_19 : Bool), v55 = .bool x55_19 ∧ Aside0 (hogsheadlaw1_PathLonger.j1 kq a0 y284 t287 t288 (wrap64 ((a0.size : Int) + (a1.size : Int))) x55_19 = some r) ∧ Aside0 (kq ≤ kj2) ∧ Aside0 (Kd.R Kd.string 9 wc w.heap.size (fun _ => True) (.slice Ao27 y284.length co27) y284) ∧ Aside0 (Below w.heap.size w wc))
            case first =>
              have H := HC20.out
              clear HC20
              by_cases c29 : (t275.length : Int) > 0
              · rw [if_pos c29] at H
                have c29b0 : decide (0 < (t275.length : Int)) = true := decide_eq_true c29
                have c29b1 : decide (0 < t275.length) = true := decide_eq_true (by omega)
                clear c29
                (first | rw [c29b0] | (simp only [i64_w, i32_w]; rw [c29b0]) | skip)
                have H' := Aside0.mk H
                clear H
                go_wp2
                go_meet
                case rel => exact ⟨_, (decide ((t278.length : Int) > 0)), (by first | rfl | (simp; done) | (simp [*]; done)), H', ⟨by have := HJ2.out; first | omega | exact Nat.le_refl _⟩, ⟨by (with_reducible repeat (first | apply Kd.R_alloc | apply Kd.R_drewN | apply Kd.R_drew)); exact Kd.R_mono HO286.out (fun _ hk => trivial)⟩, ⟨by repeat (first | (with_reducible first | exact HB.out | apply below_alloc | apply pw_below_drewN | apply below_drew1) | exact HB.out)⟩⟩
              · rw [if_neg c29] at H
                have c29b0 : decide (0 < (t275.length : Int)) = false := decide_eq_false c29
                have c29b1 : decide (0 < t275.length) = false := decide_eq_false (by omega)
                clear c29
                (first | rw [c29b0] | (simp only [i64_w, i32_w]; rw [c29b0]) | skip)
                have H' := Aside0.mk H
                clear H
                go_wp2
                go_meet
                case rel => exact ⟨_, (false), (by first | rfl | (simp; done) | (simp [*]; done)), H', ⟨by have := HJ2.out; first | omega | exact Nat.le_refl _⟩, ⟨by (with_reducible repeat (first | apply Kd.R_alloc | apply Kd.R_drewN | apply Kd.R_drew)); exact Kd.R_mono HO286.out (fun _ hk => trivial)⟩, ⟨by repeat (first | (with_reducible first | exact HB.out | apply below_alloc | apply pw_below_drewN | apply below_drew1) | exact HB.out)⟩⟩
            case rest =>
              clear HC20
              try clear c1
              try clear c2
              try clear p2
              try clear c4
              try clear c4b0
              try clear c4b1
              try clear c5
              try clear c5b0
              try clear c5b1
              try clear p6
              try clear c7
              try clear c8
              try clear c9
              try clear c12
              try clear c17
              try clear c18
              try clear c25
              try clear c29
              try clear c29b0
              try clear c29b1
              try clear p2
              obtain ⟨kq, x55_19, rfl, HA, HJ19, HO_7, HB⟩ := hcut
              cases kq with
              | zero => exact absurd HA.out (by simp [hogsheadlaw1_PathLonger.j1])
              | succ kj19 =>
                have H := HA.out
                clear HA
                simp only [hogsheadlaw1_PathLonger.j1] at H
                have HC30 := Aside0.mk H
                clear H
                go_upto_if 55 with (fail)
                go_cut [10] (fun v10 wc => ∃ (kq : Nat) (x10_29 : Int), v10 = .int .i64 x10_29 ∧ Aside0 (hogsheadlaw1_PathLonger.j2 kq a0 y284 t287 t288 x10_29 = some r) ∧ Aside0 (kq ≤ kj19) ∧ Aside0 (Kd.R Kd.string 9 wc w.heap.size (fun _ => True) (.slice Ao27 y284.length co27) y284) ∧ Aside0 (Below w.heap.size w wc))
                case first =>
                  have H := HC30.out
                  clear HC30
                  by_cases c31 : x55_19 = true
                  · subst c31
                    have H1 : (hogsheadlaw1_PathLonger.j2 kj19 a0 y284 t287 t288 (wrap64 ((wrap64 ((a0.size : Int) + (a1.size : Int))) + 1))) = some r := by rw [if_pos rfl] at H; exact H
                    clear H
                    have H := H1
                    clear H1
                    have H' := Aside0.mk H
                    clear H
                    go_wp2
                    go_meet
                    case rel => exact ⟨_, (wrap64 ((wrap64 ((a0.size : Int) + (a1.size : Int))) + 1)), (by first | rfl | (simp; done) | (simp [*]; done)), H', ⟨by have := HJ2.out; have := HJ19.out; first | omega | exact Nat.le_refl _⟩, ⟨by (with_reducible repeat (first | apply Kd.R_alloc | apply Kd.R_drewN | apply Kd.R_drew)); exact HO_7.out⟩, ⟨by repeat (first | (with_reducible first | exact HB.out | apply below_alloc | apply pw_below_drewN | apply below_drew1) | exact HB.out)⟩⟩
                  · replace c31 := Bool.eq_false_iff.mpr c31
                    subst c31
                    have H1 : (hogsheadlaw1_PathLonger.j2 kj19 a0 y284 t287 t288 (wrap64 ((a0.size : Int) + (a1.size : Int)))) = some r := by rw [if_neg (show ¬ (false = true) by decide)] at H; exact H
                    clear H
                    have H := H1
                    clear H1
                    have H' := Aside0.mk H
                    clear H
                    go_wp2
                    go_meet
                    case rel => exact ⟨_, ((wrap64 ((a0.size : Int) + (a1.size : Int)))), (by first | rfl | (simp; done) | (simp [*]; done)), H', ⟨by have := HJ2.out; have := HJ19.out; first | omega | exact Nat.le_refl _⟩, ⟨by (with_reducible repeat (first | apply Kd.R_alloc | apply Kd.R_drewN | apply Kd.R_drew)); exact HO_7.out⟩, ⟨by repeat (first | (with_reducible first | exact HB.out | apply below_alloc | apply pw_below_drewN | apply below_drew1) | exact HB.out)⟩⟩
                case rest =>
                  clear HC30
                  try clear c1
                  try clear c2
                  try clear p2
                  try clear c3
                  try clear c4
                  try clear c4b0
                  try clear c4b1
                  try clear c5
                  try clear c5b0
                  try clear c5b1
                  try clear p6
                  try clear c7
                  try clear c8
                  try clear c9
                  try clear c12
                  try clear c17
                  try clear c18
                  try clear c25
                  try clear c29
                  try clear c29b0
                  try clear c29b1
                  try clear c31
                  try clear p2
                  try clear p6
                  obtain ⟨kq, x10_29, rfl, HA, HJ29, HO_7, HB⟩ := hcut
                  cases kq with
                  | zero => exact absurd HA.out (by simp [hogsheadlaw1_PathLonger.j2])
                  | succ kj29 =>
                    have H := HA.out
                    clear HA
                    simp only [hogsheadlaw1_PathLonger.j2] at H
                    have HC32 := Aside0.mk H
                    clear H
                    go_upto_region 9 with (fail)
                    go_cut [66] (fun v66 wc => ∃ (kq : Nat) (x66_31 : Bool), v66 = .bool x66_31 ∧ Aside0 (hogsheadlaw1_PathLonger.j3 kq a0 y284 t287 t288 x10_29 x66_31 = some r) ∧ Aside0 (kq ≤ kj29) ∧ Aside0 (Kd.R Kd.string 9 wc w.heap.size (fun _ => True) (.slice Ao27 y284.length co27) y284) ∧ Aside0 (Below w.heap.size w wc))
                    case first =>
                      have H := HC32.out
                      clear HC32
                      by_cases c33 : (y284.length : Int) ≤ 10
                      · rw [if_pos c33] at H
                        have c33b0 : decide ((y284.length : Int) ≤ 10) = true := decide_eq_true c33
                        have c33b1 : decide (y284.length ≤ 10) = true := decide_eq_true (by omega)
                        clear c33
                        (first | rw [c33b0] | (simp only [i64_w, i32_w]; rw [c33b0]) | skip)
                        have H' := Aside0.mk H
                        clear H
                        go_wp2
                        go_meet
                        case rel => exact ⟨_, ((t288 != (decide (x10_29 ≤ 200)))), (by first | rfl | (simp; done) | (simp [*]; done)), H', ⟨by have := HJ2.out; have := HJ19.out; have := HJ29.out; first | omega | exact Nat.le_refl _⟩, ⟨by (with_reducible repeat (first | apply Kd.R_alloc | apply Kd.R_drewN | apply Kd.R_drew)); exact HO_7.out⟩, ⟨by repeat (first | (with_reducible first | exact HB.out | apply below_alloc | apply pw_below_drewN | apply below_drew1) | exact HB.out)⟩⟩
                      · rw [if_neg c33] at H
                        have c33b0 : decide ((y284.length : Int) ≤ 10) = false := decide_eq_false c33
                        have c33b1 : decide (y284.length ≤ 10) = false := decide_eq_false (by omega)
                        clear c33
                        (first | rw [c33b0] | (simp only [i64_w, i32_w]; rw [c33b0]) | skip)
                        have H' := Aside0.mk H
                        clear H
                        go_wp2
                        go_meet
                        case rel => exact ⟨_, ((t288 != false)), (by first | rfl | (simp; done) | (simp [*]; done)), H', ⟨by have := HJ2.out; have := HJ19.out; have := HJ29.out; first | omega | exact Nat.le_refl _⟩, ⟨by (with_reducible repeat (first | apply Kd.R_alloc | apply Kd.R_drewN | apply Kd.R_drew)); exact HO_7.out⟩, ⟨by repeat (first | (with_reducible first | exact HB.out | apply below_alloc | apply pw_below_drewN | apply below_drew1) | exact HB.out)⟩⟩
                    case rest =>
                      clear HC32
                      try clear c1
                      try clear c2
                      try clear p2
                      try clear c3
                      try clear c4
                      try clear c4b0
                      try clear c4b1
                      try clear c5
                      try clear c5b0
                      try clear c5b1
                      try clear p6
                      try clear c7
                      try clear c8
                      try clear c9
                      try clear c12
                      try clear c17
                      try clear c18
                      try clear c25
                      try clear c29
                      try clear c29b0
                      try clear c29b1
                      try clear c31
                      try clear c33
                      try clear c33b0
                      try clear c33b1
                      try clear p2
                      try clear p6
                      obtain ⟨kq, x66_31, rfl, HA, HJ31, HO_7, HB⟩ := hcut
                      cases kq with
                      | zero => exact absurd HA.out (by simp [hogsheadlaw1_PathLonger.j3])
                      | succ kj31 =>
                        have H := HA.out
                        clear HA
                        simp only [hogsheadlaw1_PathLonger.j3] at H
                        by_cases c34 : x66_31 = true
                        · subst c34
                          have H1 : (some false) = some r := by rw [if_pos rfl] at H; exact H
                          clear H
                          have H := H1
                          clear H1
                          obtain rfl := Option.some.inj H
                          go_wp2
                          go_ret
                          exact ⟨by first | rfl | (simp [errW_none, errW_some] <;> rfl) | (simp [*, errW_none, errW_some] <;> rfl), by repeat (first | (with_reducible first | exact HB.out | apply below_alloc | apply pw_below_drewN | apply below_drew1) | exact HB.out)⟩
                        · replace c34 := Bool.eq_false_iff.mpr c34
                          subst c34
                          have H1 : (if t288 = true then (if (t287.size : Int) = x10_29 then ((path_Under.f kj31 t287 a0).bind fun t289 => (if t289 = true then ((path_Split.f kj31 t287).bind fun t290 => ((hogsheadlaw0_SameTexts.f kj31 t290 y284).bind fun t293 => (if t293 = true then ((hogsheadlaw1_awake.f kj31).bind fun t294 => (some t294)) else (some false)))) else (some false))) else (some false)) else (if t287.toList = ([] : List UInt8) then ((hogsheadlaw1_awake.f kj31).bind fun t295 => (some t295)) else (some false))) = some r := by rw [if_neg (show ¬ (false = true) by decide)] at H; exact H
                          clear H
                          have H := H1
                          clear H1
                          by_cases c35 : t288 = true
                          · subst c35
                            have H1 : (if (t287.size : Int) = x10_29 then ((path_Under.f kj31 t287 a0).bind fun t289 => (if t289 = true then ((path_Split.f kj31 t287).bind fun t290 => ((hogsheadlaw0_SameTexts.f kj31 t290 y284).bind fun t293 => (if t293 = true then ((hogsheadlaw1_awake.f kj31).bind fun t294 => (some t294)) else (some false)))) else (some false))) else (some false)) = some r := by rw [if_pos rfl] at H; exact H
                            clear H
                            have H := H1
                            clear H1
                            by_cases c36 : (t287.size : Int) = x10_29
                            · rw [if_pos c36] at H
                              have c36b0 : ((t287.size : Int) == x10_29) = true := beq_iff_eq.mpr c36
                              have c36b1 : ((t287.size : Int) != x10_29) = false := bne_eq_false_iff_eq.mpr c36
                              clear c36
                              replace H := Option.bind_eq_some_iff.mp H
                              obtain ⟨t289, A370, H⟩ := H
                              replace H : (if t289 = true then ((path_Split.f kj31 t287).bind fun t290 => ((hogsheadlaw0_SameTexts.f kj31 t290 y284).bind fun t293 => (if t293 = true then ((hogsheadlaw1_awake.f kj31).bind fun t294 => (some t294)) else (some false)))) else (some false)) = some r := H
                              have A37 := Aside0.mk A370
                              clear A370
                              by_cases c38 : t289 = true
                              · subst c38
                                have H1 : ((path_Split.f kj31 t287).bind fun t290 => ((hogsheadlaw0_SameTexts.f kj31 t290 y284).bind fun t293 => (if t293 = true then ((hogsheadlaw1_awake.f kj31).bind fun t294 => (some t294)) else (some false)))) = some r := by rw [if_pos rfl] at H; exact H
                                clear H
                                have H := H1
                                clear H1
                                replace H := Option.bind_eq_some_iff.mp H
                                obtain ⟨t290, A390, H⟩ := H
                                replace H : ((hogsheadlaw0_SameTexts.f kj31 t290 y284).bind fun t293 => (if t293 = true then ((hogsheadlaw1_awake.f kj31).bind fun t294 => (some t294)) else (some false))) = some r := H
                                have A39 := Aside0.mk A390
                                clear A390
                                replace H := Option.bind_eq_some_iff.mp H
                                obtain ⟨t293, A400, H⟩ := H
                                replace H : (if t293 = true then ((hogsheadlaw1_awake.f kj31).bind fun t294 => (some t294)) else (some false)) = some r := H
                                have A40 := Aside0.mk A400
                                clear A400
                                by_cases c41 : t293 = true
                                · subst c41
                                  have H1 : ((hogsheadlaw1_awake.f kj31).bind fun t294 => (some t294)) = some r := by rw [if_pos rfl] at H; exact H
                                  clear H
                                  have H := H1
                                  clear H1
                                  replace H := Option.bind_eq_some_iff.mp H
                                  obtain ⟨t294, A420, H⟩ := H
                                  replace H : (some t294) = some r := H
                                  have A42 := Aside0.mk A420
                                  clear A420
                                  obtain rfl := Option.some.inj H
                                  go_wp2_with (first | (go_at_call 21; (with_reducible refine (path_Under.calls kj31 t287 a0 true _ A37.out).mono ?_); rintro e w43 ⟨rfl, hb⟩; have n0_ := Aside0.mk (Kd.R_below (by (with_reducible repeat (first | apply Kd.R_alloc | apply Kd.R_drewN | apply Kd.R_drew)); exact HO_7.out) hb); have n1_ := Aside0.mk (below_step (by repeat (first | (with_reducible first | exact HB.out | apply below_alloc | apply pw_below_drewN | apply below_drew1) | exact HB.out)) hb); clear HO_7; clear HB; have HO_7 := n0_; have HB := n1_; clear n0_ n1_; (try clear hb); (try clear hb2); (try clear hk); (try clear hi)) | (go_at_call 9; (with_reducible refine (path_Split.calls kj31 t287 t290 _ A39.out).mono ?_); rintro e w44 ⟨v291, rfl, ho0, hb⟩; have n0_ := Aside0.mk (Kd.R_elder' (by (with_reducible repeat (first | apply Kd.R_alloc | apply Kd.R_drewN | apply Kd.R_drew)); exact HO_7.out) (Kd.R_base ho0) hb); have n1_ := Aside0.mk (Kd.R_lower (Kd.R_new' ho0 (Kd.R_lt (by (with_reducible repeat (first | apply Kd.R_alloc | apply Kd.R_drewN | apply Kd.R_drew)); exact HO_7.out))) (below_size (by repeat (first | (with_reducible first | exact HB.out | apply below_alloc | apply pw_below_drewN | apply below_drew1) | exact HB.out)))); have n2_ := Aside0.mk (below_step (by repeat (first | (with_reducible first | exact HB.out | apply below_alloc | apply pw_below_drewN | apply below_drew1) | exact HB.out)) hb); clear HO_7; clear HB; have HO_7 := n0_; have HO292 := n1_; have HB := n2_; clear n0_ n1_ n2_; (try clear hb); (try clear hb2); (try clear hk); (try clear hi); (try clear ho0); obtain ⟨Ao45, co45, eo45⟩ := Kd.R_slice HO292.out; subst eo45) | (go_at_call 12; (with_reducible refine (hogsheadlaw0_SameTexts.calls kj31 _ _ t290 _ _ y284 true _ ?side1 ?side2 ?side3 ?side4 A40.out).mono ?_); (case side1 => repeat (first | exact (Kd.R_reads' HO292.out).2.2 | (with_reducible refine Kd.C_alloc ?_ _) | (with_reducible refine Kd.C_drewN ?_ _) | (with_reducible refine Kd.C_drew ?_))); (case side2 => exact (Kd.R_reads' HO292.out).2.1); (case side3 => repeat (first | exact (Kd.R_reads' HO_7.out).2.2 | (with_reducible refine Kd.C_alloc ?_ _) | (with_reducible refine Kd.C_drewN ?_ _) | (with_reducible refine Kd.C_drew ?_))); (case side4 => exact (Kd.R_reads' HO_7.out).2.1); rintro e w' ⟨rfl, ⟨nd, rfl⟩⟩) | (go_at_call 8; (with_reducible refine (hogsheadlaw1_awake.calls kj31  t294 _ A42.out).mono ?_); rintro e w46 ⟨rfl, hb⟩; have n0_ := Aside0.mk (Kd.R_below (by (with_reducible repeat (first | apply Kd.R_alloc | apply Kd.R_drewN | apply Kd.R_drew)); exact HO_7.out) hb); have n1_ := Aside0.mk (Kd.R_below (by (with_reducible repeat (first | apply Kd.R_alloc | apply Kd.R_drewN | apply Kd.R_drew)); exact HO292.out) hb); have n2_ := Aside0.mk (below_step (by repeat (first | (with_reducible first | exact HB.out | apply below_alloc | apply pw_below_drewN | apply below_drew1) | exact HB.out)) hb); clear HO_7; clear HO292; clear HB; have HO_7 := n0_; have HO292 := n1_; have HB := n2_; clear n0_ n1_ n2_; (try clear hb); (try clear hb2); (try clear hk); (try clear hi)))
                                  go_ret
                                  exact ⟨by first | rfl | (simp [errW_none, errW_some] <;> rfl) | (simp [*, errW_none, errW_some] <;> rfl), by repeat (first | (with_reducible first | exact HB.out | apply below_alloc | apply pw_below_drewN | apply below_drew1) | exact HB.out)⟩
                                · replace c41 := Bool.eq_false_iff.mpr c41
                                  subst c41
                                  have H1 : (some false) = some r := by rw [if_neg (show ¬ (false = true) by decide)] at H; exact H
                                  clear H
                                  have H := H1
                                  clear H1
                                  obtain rfl := Option.some.inj H
                                  go_wp2_with (first | (go_at_call 21; (with_reducible refine (path_Under.calls kj31 t287 a0 true _ A37.out).mono ?_); rintro e w47 ⟨rfl, hb⟩; have n0_ := Aside0.mk (Kd.R_below (by (with_reducible repeat (first | apply Kd.R_alloc | apply Kd.R_drewN | apply Kd.R_drew)); exact HO_7.out) hb); have n1_ := Aside0.mk (below_step (by repeat (first | (with_reducible first | exact HB.out | apply below_alloc | apply pw_below_drewN | apply below_drew1) | exact HB.out)) hb); clear HO_7; clear HB; have HO_7 := n0_; have HB := n1_; clear n0_ n1_; (try clear hb); (try clear hb2); (try clear hk); (try clear hi)) | (go_at_call 9; (with_reducible refine (path_Split.calls kj31 t287 t290 _ A39.out).mono ?_); rintro e w48 ⟨v291, rfl, ho0, hb⟩; have n0_ := Aside0.mk (Kd.R_elder' (by (with_reducible repeat (first | apply Kd.R_alloc | apply Kd.R_drewN | apply Kd.R_drew)); exact HO_7.out) (Kd.R_base ho0) hb); have n1_ := Aside0.mk (Kd.R_lower (Kd.R_new' ho0 (Kd.R_lt (by (with_reducible repeat (first | apply Kd.R_alloc | apply Kd.R_drewN | apply Kd.R_drew)); exact HO_7.out))) (below_size (by repeat (first | (with_reducible first | exact HB.out | apply below_alloc | apply pw_below_drewN | apply below_drew1) | exact HB.out)))); have n2_ := Aside0.mk (below_step (by repeat (first | (with_reducible first | exact HB.out | apply below_alloc | apply pw_below_drewN | apply below_drew1) | exact HB.out)) hb); clear HO_7; clear HB; have HO_7 := n0_; have HO292 := n1_; have HB := n2_; clear n0_ n1_ n2_; (try clear hb); (try clear hb2); (try clear hk); (try clear hi); (try clear ho0); obtain ⟨Ao49, co49, eo49⟩ := Kd.R_slice HO292.out; subst eo49) | (go_at_call 12; (with_reducible refine (hogsheadlaw0_SameTexts.calls kj31 _ _ t290 _ _ y284 false _ ?side1 ?side2 ?side3 ?side4 A40.out).mono ?_); (case side1 => repeat (first | exact (Kd.R_reads' HO292.out).2.2 | (with_reducible refine Kd.C_alloc ?_ _) | (with_reducible refine Kd.C_drewN ?_ _) | (with_reducible refine Kd.C_drew ?_))); (case side2 => exact (Kd.R_reads' HO292.out).2.1); (case side3 => repeat (first | exact (Kd.R_reads' HO_7.out).2.2 | (with_reducible refine Kd.C_alloc ?_ _) | (with_reducible refine Kd.C_drewN ?_ _) | (with_reducible refine Kd.C_drew ?_))); (case side4 => exact (Kd.R_reads' HO_7.out).2.1); rintro e w' ⟨rfl, ⟨nd, rfl⟩⟩))
                                  go_ret
                                  exact ⟨by first | rfl | (simp [errW_none, errW_some] <;> rfl) | (simp [*, errW_none, errW_some] <;> rfl), by repeat (first | (with_reducible first | exact HB.out | apply below_alloc | apply pw_below_drewN | apply below_drew1) | exact HB.out)⟩
                              · replace c38 := Bool.eq_false_iff.mpr c38
                                subst c38
                                have H1 : (some false) = some r := by rw [if_neg (show ¬ (false = true) by decide)] at H; exact H
                                clear H
                                have H := H1
                                clear H1
                                obtain rfl := Option.some.inj H
                                go_wp2_with (first | (go_at_call 21; (with_reducible refine (path_Under.calls kj31 t287 a0 false _ A37.out).mono ?_); rintro e w50 ⟨rfl, hb⟩; have n0_ := Aside0.mk (Kd.R_below (by (with_reducible repeat (first | apply Kd.R_alloc | apply Kd.R_drewN | apply Kd.R_drew)); exact HO_7.out) hb); have n1_ := Aside0.mk (below_step (by repeat (first | (with_reducible first | exact HB.out | apply below_alloc | apply pw_below_drewN | apply below_drew1) | exact HB.out)) hb); clear HO_7; clear HB; have HO_7 := n0_; have HB := n1_; clear n0_ n1_; (try clear hb); (try clear hb2); (try clear hk); (try clear hi)))
                                go_ret
                                exact ⟨by first | rfl | (simp [errW_none, errW_some] <;> rfl) | (simp [*, errW_none, errW_some] <;> rfl), by repeat (first | (with_reducible first | exact HB.out | apply below_alloc | apply pw_below_drewN | apply below_drew1) | exact HB.out)⟩
                            · rw [if_neg c36] at H
                              have c36b0 : ((t287.size : Int) == x10_29) = false := beq_eq_false_iff_ne.mpr c36
                              have c36b1 : ((t287.size : Int) != x10_29) = true := bne_iff_ne.mpr c36
                              obtain rfl := Option.some.inj H
                              go_wp2
                              go_ret
                              exact ⟨by first | rfl | (simp [errW_none, errW_some] <;> rfl) | (simp [*, errW_none, errW_some] <;> rfl), by repeat (first | (with_reducible first | exact HB.out | apply below_alloc | apply pw_below_drewN | apply below_drew1) | exact HB.out)⟩
                          · replace c35 := Bool.eq_false_iff.mpr c35
                            subst c35
                            have H1 : (if t287.toList = ([] : List UInt8) then ((hogsheadlaw1_awake.f kj31).bind fun t295 => (some t295)) else (some false)) = some r := by rw [if_neg (show ¬ (false = true) by decide)] at H; exact H
                            clear H
                            have H := H1
                            clear H1
                            by_cases c51 : t287.toList = ([] : List UInt8)
                            · rw [if_pos c51] at H
                              have c51b0 : (t287.toList == ([] : List UInt8)) = true := beq_iff_eq.mpr c51
                              have c51b1 : (t287.toList != ([] : List UInt8)) = false := bne_eq_false_iff_eq.mpr c51
                              clear c51
                              replace H := Option.bind_eq_some_iff.mp H
                              obtain ⟨t295, A520, H⟩ := H
                              replace H : (some t295) = some r := H
                              have A52 := Aside0.mk A520
                              clear A520
                              obtain rfl := Option.some.inj H
                              go_wp2_with (first | (go_at_call 8; (with_reducible refine (hogsheadlaw1_awake.calls kj31  t295 _ A52.out).mono ?_); rintro e w53 ⟨rfl, hb⟩; have n0_ := Aside0.mk (Kd.R_below (by (with_reducible repeat (first | apply Kd.R_alloc | apply Kd.R_drewN | apply Kd.R_drew)); exact HO_7.out) hb); have n1_ := Aside0.mk (below_step (by repeat (first | (with_reducible first | exact HB.out | apply below_alloc | apply pw_below_drewN | apply below_drew1) | exact HB.out)) hb); clear HO_7; clear HB; have HO_7 := n0_; have HB := n1_; clear n0_ n1_; (try clear hb); (try clear hb2); (try clear hk); (try clear hi)))
                              go_ret
                              exact ⟨by first | rfl | (simp [errW_none, errW_some] <;> rfl) | (simp [*, errW_none, errW_some] <;> rfl), by repeat (first | (with_reducible first | exact HB.out | apply below_alloc | apply pw_below_drewN | apply below_drew1) | exact HB.out)⟩
                            · rw [if_neg c51] at H
                              have c51b0 : (t287.toList == ([] : List UInt8)) = false := beq_eq_false_iff_ne.mpr c51
                              have c51b1 : (t287.toList != ([] : List UInt8)) = true := bne_iff_ne.mpr c51
                              obtain rfl := Option.some.inj H
                              go_wp2
                              go_ret
                              exact ⟨by first | rfl | (simp [errW_none, errW_some] <;> rfl) | (simp [*, errW_none, errW_some] <;> rfl), by repeat (first | (with_reducible first | exact HB.out | apply below_alloc | apply pw_below_drewN | apply below_drew1) | exact HB.out)⟩
          · rw [if_neg c18] at H
            exact absurd H (by simp)
        · rw [if_neg c17] at H
          exact absurd H (by simp)

/-- THE ONE PURE STATEMENT of hogsheadlaw1_PathLonger: yours. -/
def hogsheadlaw1_PathLonger.Pure : Prop := ∀ (a0 : ByteArray) (a1 : ByteArray), a0.size ≤ 140737488351232 → a1.size ≤ 140737488351232 → ∃ k, hogsheadlaw1_PathLonger.f k a0 a1 = some true
theorem hogsheadlaw1_PathLonger.walk (P : hogsheadlaw1_PathLonger.Pure) (a0 : ByteArray) (a1 : ByteArray) (w : World) (w0 : a0.size ≤ 140737488351232) (w1 : a1.size ≤ 140737488351232) :
    Calls Tryd.prog 7 #[.string a0, .string a1] w fun e w' => e = .returned (.bool true) ∧ Below w.heap.size w w' := by
  obtain ⟨k, h⟩ := P a0 a1 w0 w1
  refine (hogsheadlaw1_PathLonger.calls k a0 a1 true w h).mono ?_
  rintro e w' ⟨rfl, hd⟩
  exact ⟨rfl, hd⟩

end Go.Proofs.YtmhdekdpfacjoaaDoor.P
