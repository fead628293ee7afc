/- Laid by a program of this session (wip/pr), after the printer of the kit: the functions that a statement reaches as plain Lean functions, and that the calls of the machine come to them. No condition. -/
import Derived.Test.YtfklncdllfhgmaaDoorPx0
import Derived.Test.YtfklncdllfhgmaaDoorPx2
import Derived.Test.YtfklncdllfhgmaaDoorPx6
import Derived.Test.YtfklncdllfhgmaaDoorPx7
import Derived.Test.YtfklncdllfhgmaaDoorPx10
import Derived.Test.YtfklncdllfhgmaaDoorPx11
import Derived.Test.YtfklncdllfhgmaaDoorPx17
import Derived.Test.YtfklncdllfhgmaaDoorPx18
namespace Go.Proofs.YtfklncdllfhgmaaDoor.P
open Go.RowKit Go.Proofs.YtfklncdllfhgmaaDoorX Go.Proofs.YtfklncdllfhgmaaDoorW.PrintWords Go.Proofs.YtfklncdllfhgmaaDoorW.PrintLast Go.Proofs.YtfklncdllfhgmaaDoorW.PrintMore
attribute [local go_sem] max2_int min2_int max_two min_two max_three min_three max_four min_four   -- for this text's walks alone
set_option linter.unusedVariables false
set_option linter.unusedSimpArgs false

/-! ### hogsheadlaw5_NarLays: function 3 -/
mutual
def hogsheadlaw5_NarLays.j0 : Nat → List Int → Int → ByteArray → List (S48) → Bool → Option (Bool)
  | 0, _, _, _, _, _ => none
  | k + 1, x0, x1, x2, x3, x28 => if x28 = true then ((hogsheadlaw5_awake.f k).bind fun t302 => (some t302)) else ((hogsheadlaw0_LendBytes.f x0).bind fun t303 => ((nar_Num.f k t303 x1).bind fun t306 => ((nar_Text.f k t303 x2).bind fun t309 => ((nar_Lay.f k x3).bind fun bt312 => ((hogsheadref5_Lay.f k x3).bind fun bt316 => ((hogsheadref5_Num.f k x0 x1).bind fun t320 => ((hogsheadlaw0_SameBytes.f k t306 t320).bind fun t323 => (if t323 = true then ((hogsheadref5_Text.f k x0 x2).bind fun t324 => ((hogsheadlaw0_SameBytes.f k t309 t324).bind fun t327 => (if t327 = true then ((hogsheadlaw0_SameBytes.f k bt312.1 bt316.1).bind fun t328 => (if t328 = true then ((hogsheadlaw0_Num.f bt312.2).bind fun t329 => (if t329 = bt316.2 then ((hogsheadlaw0_KeptBytes.f k t303 x0).bind fun t330 => (hogsheadlaw5_NarLays.j1 k x0 t303 t306 t309 bt312.1 t330)) else (hogsheadlaw5_NarLays.j1 k x0 t303 t306 t309 bt312.1 false))) else (hogsheadlaw5_NarLays.j1 k x0 t303 t306 t309 bt312.1 false))) else (hogsheadlaw5_NarLays.j1 k x0 t303 t306 t309 bt312.1 false)))) else (hogsheadlaw5_NarLays.j1 k x0 t303 t306 t309 bt312.1 false)))))))))
def hogsheadlaw5_NarLays.j1 : Nat → List Int → List Int → List Int → List Int → List Int → Bool → Option (Bool)
  | 0, _, _, _, _, _, _ => none
  | k + 1, x0, x9, x10, x11, x12, x16 => (hogsheadlaw0_OverBytes.f k x10).bind fun _ => ((hogsheadlaw0_OverBytes.f k x11).bind fun _ => ((hogsheadlaw0_OverBytes.f k x12).bind fun _ => (if x16 = true then ((hogsheadlaw0_KeptBytes.f k x9 x0).bind fun t331 => (if t331 = true then ((hogsheadlaw5_awake.f k).bind fun t332 => (some t332)) else (some false))) else (some false))))
end
def hogsheadlaw5_NarLays.f (k : Nat) (l0 : List Int) (a1 : Int) (a2 : ByteArray) (l3 : List (S48)) : Option (Bool) := if (l0.length : Int) > 200 then (hogsheadlaw5_NarLays.j0 k l0 a1 a2 l3 true) else (if (a2.size : Int) > 200 then (hogsheadlaw5_NarLays.j0 k l0 a1 a2 l3 true) else ((hogsheadlaw0_GreatNodes.f k l3 60).bind fun t301 => (hogsheadlaw5_NarLays.j0 k l0 a1 a2 l3 t301)))
theorem hogsheadlaw5_NarLays.mono_l : ∀ k, (∀ y0 y1 y2 y3 y4, LeO (hogsheadlaw5_NarLays.j0 k y0 y1 y2 y3 y4) (hogsheadlaw5_NarLays.j0 (k + 1) y0 y1 y2 y3 y4)) ∧ (∀ y0 y1 y2 y3 y4 y5, LeO (hogsheadlaw5_NarLays.j1 k y0 y1 y2 y3 y4 y5) (hogsheadlaw5_NarLays.j1 (k + 1) y0 y1 y2 y3 y4 y5))
  | 0 => ⟨fun _ _ _ _ _ r h => by simp [hogsheadlaw5_NarLays.j0] at h, fun _ _ _ _ _ _ r h => by simp [hogsheadlaw5_NarLays.j1] at h⟩
  | k + 1 => by
    obtain ⟨ih0, ih1⟩ := hogsheadlaw5_NarLays.mono_l k
    refine ⟨?_, ?_⟩
    · intro y0 y1 y2 y3 y4
      unfold hogsheadlaw5_NarLays.j0
      repeat' first
      | (with_reducible exact ih0 _ _ _ _ _)
      | (with_reducible exact ih1 _ _ _ _ _ _)
      | (with_reducible exact hogsheadlaw0_GreatNodes.mono _ _ _)
      | (with_reducible exact hogsheadlaw0_KeptBytes.mono _ _ _)
      | (with_reducible exact hogsheadlaw0_OverBytes.mono _ _)
      | (with_reducible exact hogsheadlaw0_SameBytes.mono _ _ _)
      | (with_reducible exact hogsheadlaw5_awake.mono _)
      | (with_reducible exact hogsheadref5_Lay.mono _ _)
      | (with_reducible exact hogsheadref5_Num.mono _ _ _)
      | (with_reducible exact hogsheadref5_Text.mono _ _ _)
      | (with_reducible exact nar_Lay.mono _ _)
      | (with_reducible exact nar_Num.mono _ _ _)
      | (with_reducible exact nar_Text.mono _ _ _)
      | (with_reducible exact LeO.refl _)
      | (with_reducible exact LeO.none _)
      | (with_reducible refine LeO.ite ?_ ?_)
      | (with_reducible refine LeO.bind ?_ (fun _ => ?_))
      | exact ih0 _ _ _ _ _
      | exact ih1 _ _ _ _ _ _
      | exact hogsheadlaw0_GreatNodes.mono _ _ _
      | exact hogsheadlaw0_KeptBytes.mono _ _ _
      | exact hogsheadlaw0_OverBytes.mono _ _
      | exact hogsheadlaw0_SameBytes.mono _ _ _
      | exact hogsheadlaw5_awake.mono _
      | exact hogsheadref5_Lay.mono _ _
      | exact hogsheadref5_Num.mono _ _ _
      | exact hogsheadref5_Text.mono _ _ _
      | exact nar_Lay.mono _ _
      | exact nar_Num.mono _ _ _
      | exact nar_Text.mono _ _ _
      | exact LeO.none _
      | refine LeO.ite ?_ ?_
      | refine LeO.bind ?_ (fun _ => ?_)
    · intro y0 y1 y2 y3 y4 y5
      unfold hogsheadlaw5_NarLays.j1
      repeat' first
      | (with_reducible exact ih0 _ _ _ _ _)
      | (with_reducible exact ih1 _ _ _ _ _ _)
      | (with_reducible exact hogsheadlaw0_GreatNodes.mono _ _ _)
      | (with_reducible exact hogsheadlaw0_KeptBytes.mono _ _ _)
      | (with_reducible exact hogsheadlaw0_OverBytes.mono _ _)
      | (with_reducible exact hogsheadlaw0_SameBytes.mono _ _ _)
      | (with_reducible exact hogsheadlaw5_awake.mono _)
      | (with_reducible exact hogsheadref5_Lay.mono _ _)
      | (with_reducible exact hogsheadref5_Num.mono _ _ _)
      | (with_reducible exact hogsheadref5_Text.mono _ _ _)
      | (with_reducible exact nar_Lay.mono _ _)
      | (with_reducible exact nar_Num.mono _ _ _)
      | (with_reducible exact nar_Text.mono _ _ _)
      | (with_reducible exact LeO.refl _)
      | (with_reducible exact LeO.none _)
      | (with_reducible refine LeO.ite ?_ ?_)
      | (with_reducible refine LeO.bind ?_ (fun _ => ?_))
      | exact ih0 _ _ _ _ _
      | exact ih1 _ _ _ _ _ _
      | exact hogsheadlaw0_GreatNodes.mono _ _ _
      | exact hogsheadlaw0_KeptBytes.mono _ _ _
      | exact hogsheadlaw0_OverBytes.mono _ _
      | exact hogsheadlaw0_SameBytes.mono _ _ _
      | exact hogsheadlaw5_awake.mono _
      | exact hogsheadref5_Lay.mono _ _
      | exact hogsheadref5_Num.mono _ _ _
      | exact hogsheadref5_Text.mono _ _ _
      | exact nar_Lay.mono _ _
      | exact nar_Num.mono _ _ _
      | exact nar_Text.mono _ _ _
      | exact LeO.none _
      | refine LeO.ite ?_ ?_
      | refine LeO.bind ?_ (fun _ => ?_)
theorem hogsheadlaw5_NarLays.mono : ∀ a0 a1 a2 a3 k, LeO (hogsheadlaw5_NarLays.f k a0 a1 a2 a3) (hogsheadlaw5_NarLays.f (k + 1) a0 a1 a2 a3) := by
  intro a0 a1 a2 a3 k
  obtain ⟨ih0, ih1⟩ := hogsheadlaw5_NarLays.mono_l k
  unfold hogsheadlaw5_NarLays.f
  repeat' first
      | (with_reducible exact ih0 _ _ _ _ _)
      | (with_reducible exact ih1 _ _ _ _ _ _)
      | (with_reducible exact hogsheadlaw0_GreatNodes.mono _ _ _)
      | (with_reducible exact hogsheadlaw0_KeptBytes.mono _ _ _)
      | (with_reducible exact hogsheadlaw0_OverBytes.mono _ _)
      | (with_reducible exact hogsheadlaw0_SameBytes.mono _ _ _)
      | (with_reducible exact hogsheadlaw5_awake.mono _)
      | (with_reducible exact hogsheadref5_Lay.mono _ _)
      | (with_reducible exact hogsheadref5_Num.mono _ _ _)
      | (with_reducible exact hogsheadref5_Text.mono _ _ _)
      | (with_reducible exact nar_Lay.mono _ _)
      | (with_reducible exact nar_Num.mono _ _ _)
      | (with_reducible exact nar_Text.mono _ _ _)
      | (with_reducible exact LeO.refl _)
      | (with_reducible exact LeO.none _)
      | (with_reducible refine LeO.ite ?_ ?_)
      | (with_reducible refine LeO.bind ?_ (fun _ => ?_))
      | exact ih0 _ _ _ _ _
      | exact ih1 _ _ _ _ _ _
      | exact hogsheadlaw0_GreatNodes.mono _ _ _
      | exact hogsheadlaw0_KeptBytes.mono _ _ _
      | exact hogsheadlaw0_OverBytes.mono _ _
      | exact hogsheadlaw0_SameBytes.mono _ _ _
      | exact hogsheadlaw5_awake.mono _
      | exact hogsheadref5_Lay.mono _ _
      | exact hogsheadref5_Num.mono _ _ _
      | exact hogsheadref5_Text.mono _ _ _
      | exact nar_Lay.mono _ _
      | exact nar_Num.mono _ _ _
      | exact nar_Text.mono _ _ _
      | exact LeO.none _
      | refine LeO.ite ?_ ?_
      | refine LeO.bind ?_ (fun _ => ?_)
set_option maxHeartbeats 8000000 in
set_option maxRecDepth 100000 in
theorem hogsheadlaw5_NarLays.calls (k : Nat) (A0 : Option Addr) (c0 : Nat) (l0 : List Int) (a1 : Int) (a2 : ByteArray) (A3 : Option Addr) (c3 : Nat) (l3 : List (S48)) (r : Bool) (w : World) (hr0 : Kd.C (Kd.int .u8) w A0 l0.length l0) (hc0 : l0.length ≤ c0) (hr3 : Kd.C k48 w A3 l3.length l3) (hc3 : l3.length ≤ c3) (h : hogsheadlaw5_NarLays.f k l0 a1 a2 l3 = some true) :
    Calls Tryd.prog 3 #[.slice A0 l0.length c0, .int .i64 a1, .string a2, .slice A3 l3.length c3] w fun e w' => e = .returned (.bool true) ∧ Below w.heap.size w w' := by
  have HR0 := Aside0.mk hr0
  have HC0 := Aside0.mk hc0
  clear hr0 hc0
  have HR3 := Aside0.mk hr3
  have HC3 := Aside0.mk hc3
  clear hr3 hc3
  have HB := Aside0.mk (Below.refl w.heap.size w)
  have H : (if (l0.length : Int) > 200 then (hogsheadlaw5_NarLays.j0 k l0 a1 a2 l3 true) else (if (a2.size : Int) > 200 then (hogsheadlaw5_NarLays.j0 k l0 a1 a2 l3 true) else ((hogsheadlaw0_GreatNodes.f k l3 60).bind fun t301 => (hogsheadlaw5_NarLays.j0 k l0 a1 a2 l3 t301)))) = some true := h
  clear h
  have HC5 := Aside0.mk H
  clear H
  go_enter Tryd.func3, Tryd.ntmps3
  go_upto_region 1 with (fail)
  go_cut [28] (fun v28 wc => ∃ (kq : Nat) (x28_4 : Bool), v28 = .bool x28_4 ∧ Aside0 (hogsheadlaw5_NarLays.j0 kq l0 a1 a2 l3 x28_4 = some true) ∧ Aside0 (kq ≤ k) ∧ Aside0 (Below w.heap.size w wc))
  case first =>
    have H := HC5.out
    clear HC5
    by_cases c6 : (l0.length : Int) > 200
    · rw [if_pos c6] at H
      have c6b0 : decide (200 < (l0.length : Int)) = true := decide_eq_true c6
      have c6b1 : decide (200 < l0.length) = true := decide_eq_true (by omega)
      clear c6
      (first | rw [c6b0] | (simp only [i64_w, i32_w]; rw [c6b0]) | skip)
      have H' := Aside0.mk H
      clear H
      go_wp2
      go_meet
      case rel => exact ⟨_, (true), (by first | rfl | (simp; done) | (simp [*]; done)), H', ⟨by first | omega | exact Nat.le_refl _⟩, ⟨by repeat (first | (with_reducible first | exact HB.out | apply below_alloc | apply pw_below_drewN | apply below_drew1) | exact HB.out)⟩⟩
    · rw [if_neg c6] at H
      have c6b0 : decide (200 < (l0.length : Int)) = false := decide_eq_false c6
      have c6b1 : decide (200 < l0.length) = false := decide_eq_false (by omega)
      clear c6
      (first | rw [c6b0] | (simp only [i64_w, i32_w]; rw [c6b0]) | skip)
      by_cases c7 : (a2.size : Int) > 200
      · rw [if_pos c7] at H
        have c7b0 : decide (200 < (a2.size : Int)) = true := decide_eq_true c7
        have c7b1 : decide (200 < a2.size) = true := decide_eq_true (by omega)
        clear c7
        have H' := Aside0.mk H
        clear H
        go_wp2
        go_meet
        case rel => exact ⟨_, (true), (by first | rfl | (simp; done) | (simp [*]; done)), H', ⟨by first | omega | exact Nat.le_refl _⟩, ⟨by repeat (first | (with_reducible first | exact HB.out | apply below_alloc | apply pw_below_drewN | apply below_drew1) | exact HB.out)⟩⟩
      · rw [if_neg c7] at H
        have c7b0 : decide (200 < (a2.size : Int)) = false := decide_eq_false c7
        have c7b1 : decide (200 < a2.size) = false := decide_eq_false (by omega)
        clear c7
        replace H := Option.bind_eq_some_iff.mp H
        obtain ⟨t301, A80, H⟩ := H
        replace H : (hogsheadlaw5_NarLays.j0 k l0 a1 a2 l3 t301) = some true := H
        have A8 := Aside0.mk A80
        clear A80
        have H' := Aside0.mk H
        clear H
        go_wp2_with (first | (go_at_call 8; (with_reducible refine (hogsheadlaw0_GreatNodes.calls k _ _ l3 60 t301 _ ?side1 ?side2 A8.out).mono ?_); (case side1 => repeat (first | exact (Kd.C_below HR3.out HB.out) | (with_reducible refine Kd.C_alloc ?_ _) | (with_reducible refine Kd.C_drewN ?_ _) | (with_reducible refine Kd.C_drew ?_))); (case side2 => exact HC3.out); rintro e w' ⟨rfl, ⟨nd, rfl⟩⟩))
        go_meet
        case rel => exact ⟨_, (t301), (by first | rfl | (simp; done) | (simp [*]; done)), H', ⟨by first | omega | exact Nat.le_refl _⟩, ⟨by repeat (first | (with_reducible first | exact HB.out | apply below_alloc | apply pw_below_drewN | apply below_drew1) | exact HB.out)⟩⟩
  case rest =>
    clear HC5
    try clear p2
    try clear c3
    try clear c6
    try clear c6b0
    try clear c6b1
    try clear c7
    try clear c7b0
    try clear c7b1
    obtain ⟨kq, x28_4, rfl, HA, HJ4, HB⟩ := hcut
    cases kq with
    | zero => exact absurd HA.out (by simp [hogsheadlaw5_NarLays.j0])
    | succ kj4 =>
      have H := HA.out
      clear HA
      simp only [hogsheadlaw5_NarLays.j0] at H
      by_cases c9 : x28_4 = true
      · subst c9
        have H1 : ((hogsheadlaw5_awake.f kj4).bind fun t302 => (some t302)) = some true := by rw [if_pos rfl] at H; exact H
        clear H
        have H := H1
        clear H1
        replace H := Option.bind_eq_some_iff.mp H
        obtain ⟨t302, A100, H⟩ := H
        replace H : (some t302) = some true := H
        have A10 := Aside0.mk A100
        clear A100
        have hr_ := Option.some.inj H
        go_wp2_with (first | ((with_reducible refine gate_callee (f := 9) rfl ?_); refine goesL_ (some 29) rfl rfl Tryd.func9 (by kernel_rfl) rfl #[] rfl (by (try simp only [List.map_toArray, List.map_cons, List.map_nil]); first | done | rfl | (simp only [List.length_drop, List.length_take]; rfl)) ?_; (with_reducible refine (hogsheadlaw5_awake.calls kj4  t302 _ A10.out).mono ?_); rintro e w11 ⟨rfl, hb⟩; refine ⟨_, rfl, ?_⟩; (try (have n9_ := Aside0.mk (Room.below (by (with_reducible repeat (first | apply Room.alloc | apply Room.drewN | apply Room.drew)); exact RM.out) hb); clear RM; have RM := n9_; clear n9_)); have n0_ := Aside0.mk (below_step (by repeat (first | (with_reducible first | exact HB.out | apply below_alloc | apply pw_below_drewN | apply below_drew1) | exact HB.out)) hb); clear HB; have HB := n0_; clear n0_; (try clear hb); (try clear hb2); (try clear hk); (try clear hi)))
        go_ret
        exact ⟨by first | rfl | (simp [errW_none, errW_some] <;> rfl) | (simp [*, errW_none, errW_some] <;> rfl), by repeat (first | (with_reducible first | exact HB.out | apply below_alloc | apply pw_below_drewN | apply below_drew1) | exact HB.out)⟩
      · replace c9 := Bool.eq_false_iff.mpr c9
        subst c9
        have H1 : ((hogsheadlaw0_LendBytes.f l0).bind fun t303 => ((nar_Num.f kj4 t303 a1).bind fun t306 => ((nar_Text.f kj4 t303 a2).bind fun t309 => ((nar_Lay.f kj4 l3).bind fun bt312 => ((hogsheadref5_Lay.f kj4 l3).bind fun bt316 => ((hogsheadref5_Num.f kj4 l0 a1).bind fun t320 => ((hogsheadlaw0_SameBytes.f kj4 t306 t320).bind fun t323 => (if t323 = true then ((hogsheadref5_Text.f kj4 l0 a2).bind fun t324 => ((hogsheadlaw0_SameBytes.f kj4 t309 t324).bind fun t327 => (if t327 = true then ((hogsheadlaw0_SameBytes.f kj4 bt312.1 bt316.1).bind fun t328 => (if t328 = true then ((hogsheadlaw0_Num.f bt312.2).bind fun t329 => (if t329 = bt316.2 then ((hogsheadlaw0_KeptBytes.f kj4 t303 l0).bind fun t330 => (hogsheadlaw5_NarLays.j1 kj4 l0 t303 t306 t309 bt312.1 t330)) else (hogsheadlaw5_NarLays.j1 kj4 l0 t303 t306 t309 bt312.1 false))) else (hogsheadlaw5_NarLays.j1 kj4 l0 t303 t306 t309 bt312.1 false))) else (hogsheadlaw5_NarLays.j1 kj4 l0 t303 t306 t309 bt312.1 false)))) else (hogsheadlaw5_NarLays.j1 kj4 l0 t303 t306 t309 bt312.1 false))))))))) = some true := by rw [if_neg (show ¬ (false = true) by decide)] at H; exact H
        clear H
        have H := H1
        clear H1
        replace H := Option.bind_eq_some_iff.mp H
        obtain ⟨t303, A120, H⟩ := H
        replace H : ((nar_Num.f kj4 t303 a1).bind fun t306 => ((nar_Text.f kj4 t303 a2).bind fun t309 => ((nar_Lay.f kj4 l3).bind fun bt312 => ((hogsheadref5_Lay.f kj4 l3).bind fun bt316 => ((hogsheadref5_Num.f kj4 l0 a1).bind fun t320 => ((hogsheadlaw0_SameBytes.f kj4 t306 t320).bind fun t323 => (if t323 = true then ((hogsheadref5_Text.f kj4 l0 a2).bind fun t324 => ((hogsheadlaw0_SameBytes.f kj4 t309 t324).bind fun t327 => (if t327 = true then ((hogsheadlaw0_SameBytes.f kj4 bt312.1 bt316.1).bind fun t328 => (if t328 = true then ((hogsheadlaw0_Num.f bt312.2).bind fun t329 => (if t329 = bt316.2 then ((hogsheadlaw0_KeptBytes.f kj4 t303 l0).bind fun t330 => (hogsheadlaw5_NarLays.j1 kj4 l0 t303 t306 t309 bt312.1 t330)) else (hogsheadlaw5_NarLays.j1 kj4 l0 t303 t306 t309 bt312.1 false))) else (hogsheadlaw5_NarLays.j1 kj4 l0 t303 t306 t309 bt312.1 false))) else (hogsheadlaw5_NarLays.j1 kj4 l0 t303 t306 t309 bt312.1 false)))) else (hogsheadlaw5_NarLays.j1 kj4 l0 t303 t306 t309 bt312.1 false)))))))) = some true := H
        have A12 := Aside0.mk A120
        clear A120
        replace H := Option.bind_eq_some_iff.mp H
        obtain ⟨t306, A130, H⟩ := H
        replace H : ((nar_Text.f kj4 t303 a2).bind fun t309 => ((nar_Lay.f kj4 l3).bind fun bt312 => ((hogsheadref5_Lay.f kj4 l3).bind fun bt316 => ((hogsheadref5_Num.f kj4 l0 a1).bind fun t320 => ((hogsheadlaw0_SameBytes.f kj4 t306 t320).bind fun t323 => (if t323 = true then ((hogsheadref5_Text.f kj4 l0 a2).bind fun t324 => ((hogsheadlaw0_SameBytes.f kj4 t309 t324).bind fun t327 => (if t327 = true then ((hogsheadlaw0_SameBytes.f kj4 bt312.1 bt316.1).bind fun t328 => (if t328 = true then ((hogsheadlaw0_Num.f bt312.2).bind fun t329 => (if t329 = bt316.2 then ((hogsheadlaw0_KeptBytes.f kj4 t303 l0).bind fun t330 => (hogsheadlaw5_NarLays.j1 kj4 l0 t303 t306 t309 bt312.1 t330)) else (hogsheadlaw5_NarLays.j1 kj4 l0 t303 t306 t309 bt312.1 false))) else (hogsheadlaw5_NarLays.j1 kj4 l0 t303 t306 t309 bt312.1 false))) else (hogsheadlaw5_NarLays.j1 kj4 l0 t303 t306 t309 bt312.1 false)))) else (hogsheadlaw5_NarLays.j1 kj4 l0 t303 t306 t309 bt312.1 false))))))) = some true := H
        have A13 := Aside0.mk A130
        clear A130
        replace H := Option.bind_eq_some_iff.mp H
        obtain ⟨t309, A140, H⟩ := H
        replace H : ((nar_Lay.f kj4 l3).bind fun bt312 => ((hogsheadref5_Lay.f kj4 l3).bind fun bt316 => ((hogsheadref5_Num.f kj4 l0 a1).bind fun t320 => ((hogsheadlaw0_SameBytes.f kj4 t306 t320).bind fun t323 => (if t323 = true then ((hogsheadref5_Text.f kj4 l0 a2).bind fun t324 => ((hogsheadlaw0_SameBytes.f kj4 t309 t324).bind fun t327 => (if t327 = true then ((hogsheadlaw0_SameBytes.f kj4 bt312.1 bt316.1).bind fun t328 => (if t328 = true then ((hogsheadlaw0_Num.f bt312.2).bind fun t329 => (if t329 = bt316.2 then ((hogsheadlaw0_KeptBytes.f kj4 t303 l0).bind fun t330 => (hogsheadlaw5_NarLays.j1 kj4 l0 t303 t306 t309 bt312.1 t330)) else (hogsheadlaw5_NarLays.j1 kj4 l0 t303 t306 t309 bt312.1 false))) else (hogsheadlaw5_NarLays.j1 kj4 l0 t303 t306 t309 bt312.1 false))) else (hogsheadlaw5_NarLays.j1 kj4 l0 t303 t306 t309 bt312.1 false)))) else (hogsheadlaw5_NarLays.j1 kj4 l0 t303 t306 t309 bt312.1 false)))))) = some true := H
        have A14 := Aside0.mk A140
        clear A140
        replace H := Option.bind_eq_some_iff.mp H
        obtain ⟨⟨t312, t313⟩, A150, H⟩ := H
        replace H : ((hogsheadref5_Lay.f kj4 l3).bind fun bt316 => ((hogsheadref5_Num.f kj4 l0 a1).bind fun t320 => ((hogsheadlaw0_SameBytes.f kj4 t306 t320).bind fun t323 => (if t323 = true then ((hogsheadref5_Text.f kj4 l0 a2).bind fun t324 => ((hogsheadlaw0_SameBytes.f kj4 t309 t324).bind fun t327 => (if t327 = true then ((hogsheadlaw0_SameBytes.f kj4 t312 bt316.1).bind fun t328 => (if t328 = true then ((hogsheadlaw0_Num.f t313).bind fun t329 => (if t329 = bt316.2 then ((hogsheadlaw0_KeptBytes.f kj4 t303 l0).bind fun t330 => (hogsheadlaw5_NarLays.j1 kj4 l0 t303 t306 t309 t312 t330)) else (hogsheadlaw5_NarLays.j1 kj4 l0 t303 t306 t309 t312 false))) else (hogsheadlaw5_NarLays.j1 kj4 l0 t303 t306 t309 t312 false))) else (hogsheadlaw5_NarLays.j1 kj4 l0 t303 t306 t309 t312 false)))) else (hogsheadlaw5_NarLays.j1 kj4 l0 t303 t306 t309 t312 false))))) = some true := H
        have A15 := Aside0.mk A150
        clear A150
        replace H := Option.bind_eq_some_iff.mp H
        obtain ⟨⟨t316, t317⟩, A160, H⟩ := H
        replace H : ((hogsheadref5_Num.f kj4 l0 a1).bind fun t320 => ((hogsheadlaw0_SameBytes.f kj4 t306 t320).bind fun t323 => (if t323 = true then ((hogsheadref5_Text.f kj4 l0 a2).bind fun t324 => ((hogsheadlaw0_SameBytes.f kj4 t309 t324).bind fun t327 => (if t327 = true then ((hogsheadlaw0_SameBytes.f kj4 t312 t316).bind fun t328 => (if t328 = true then ((hogsheadlaw0_Num.f t313).bind fun t329 => (if t329 = t317 then ((hogsheadlaw0_KeptBytes.f kj4 t303 l0).bind fun t330 => (hogsheadlaw5_NarLays.j1 kj4 l0 t303 t306 t309 t312 t330)) else (hogsheadlaw5_NarLays.j1 kj4 l0 t303 t306 t309 t312 false))) else (hogsheadlaw5_NarLays.j1 kj4 l0 t303 t306 t309 t312 false))) else (hogsheadlaw5_NarLays.j1 kj4 l0 t303 t306 t309 t312 false)))) else (hogsheadlaw5_NarLays.j1 kj4 l0 t303 t306 t309 t312 false)))) = some true := H
        have A16 := Aside0.mk A160
        clear A160
        have HC17 := Aside0.mk H
        clear H
        go_upto_region 7 with (first | ((with_reducible refine gate_callee (f := 10) rfl ?_); refine goesL_ (some 31) rfl rfl Tryd.func10 (by kernel_rfl) rfl #[.slice A0 l0.length c0] rfl (by (try simp only [List.map_toArray, List.map_cons, List.map_nil]); first | done | rfl | (simp only [List.length_drop, List.length_take]; rfl)) ?_; (with_reducible refine (hogsheadlaw0_LendBytes.calls _ _ l0 t303 _ ?side1 ?side2 A12.out).mono ?_); (case side1 => repeat (first | exact (Kd.C_below HR0.out HB.out) | (with_reducible refine Kd.C_alloc ?_ _) | (with_reducible refine Kd.C_drewN ?_ _) | (with_reducible refine Kd.C_drew ?_))); (case side2 => exact HC0.out); rintro e w18 ⟨v304, rfl, ho0, hb, hrm⟩; refine ⟨_, rfl, ?_⟩; have RM := Aside0.mk hrm; clear hrm; have n0_ := Aside0.mk (Kd.R_lower ho0 (below_size (by repeat (first | (with_reducible first | exact HB.out | apply below_alloc | apply pw_below_drewN | apply below_drew1) | exact HB.out)))); have n1_ := Aside0.mk (below_step (by repeat (first | (with_reducible first | exact HB.out | apply below_alloc | apply pw_below_drewN | apply below_drew1) | exact HB.out)) hb); clear HB; have HO305 := n0_; have HB := n1_; clear n0_ n1_; (try clear hb); (try clear hb2); (try clear hk); (try clear hi); (try clear ho0); obtain ⟨Ao19, co19, eo19⟩ := Kd.R_slice HO305.out; subst eo19) | ((with_reducible refine gate_callee (f := 11) rfl ?_); refine goesL_ (some 34) rfl rfl Tryd.func11 (by kernel_rfl) rfl #[.slice Ao19 t303.length co19, .int .i64 a1] rfl (by (try simp only [List.map_toArray, List.map_cons, List.map_nil]); first | done | rfl | (simp only [List.length_drop, List.length_take]; rfl)) ?_; (with_reducible refine (nar_Num.calls kj4 _ _ t303 a1 t306 _ ?side1 ?side2 A13.out).mono ?_); (case side1 => repeat (first | exact (Kd.R_reads' HO305.out).2.2 | (with_reducible refine Kd.C_alloc ?_ _) | (with_reducible refine Kd.C_drewN ?_ _) | (with_reducible refine Kd.C_drew ?_))); (case side2 => exact (Kd.R_reads' HO305.out).2.1); rintro e w20 ⟨v307, rfl, ho0, hb⟩; refine ⟨_, rfl, ?_⟩; (try (have n9_ := Aside0.mk (Room.below (by (with_reducible repeat (first | apply Room.alloc | apply Room.drewN | apply Room.drew)); exact RM.out) hb); clear RM; have RM := n9_; clear n9_)); have n0_ := Aside0.mk (Kd.R_elder' (by (with_reducible repeat (first | apply Kd.R_alloc | apply Kd.R_drewN | apply Kd.R_drew)); exact HO305.out) (Kd.R_base ho0) hb); have n1_ := Aside0.mk (Kd.R_lower (Kd.R_new' ho0 (Kd.R_lt (by (with_reducible repeat (first | apply Kd.R_alloc | apply Kd.R_drewN | apply Kd.R_drew)); exact HO305.out))) (below_size (by repeat (first | (with_reducible first | exact HB.out | apply below_alloc | apply pw_below_drewN | apply below_drew1) | exact HB.out)))); have n2_ := Aside0.mk (below_step (by repeat (first | (with_reducible first | exact HB.out | apply below_alloc | apply pw_below_drewN | apply below_drew1) | exact HB.out)) hb); clear HO305; clear HB; have HO305 := n0_; have HO308 := n1_; have HB := n2_; clear n0_ n1_ n2_; (try clear hb); (try clear hb2); (try clear hk); (try clear hi); (try clear ho0)) | ((with_reducible refine gate_callee (f := 12) rfl ?_); refine goesL_ (some 37) rfl rfl Tryd.func12 (by kernel_rfl) rfl #[.slice Ao19 t303.length co19, .string a2] rfl (by (try simp only [List.map_toArray, List.map_cons, List.map_nil]); first | done | rfl | (simp only [List.length_drop, List.length_take]; rfl)) ?_; (with_reducible refine (nar_Text.calls kj4 _ _ t303 a2 t309 _ ?side1 ?side2 A14.out).mono ?_); (case side1 => repeat (first | exact (Kd.R_reads' HO305.out).2.2 | (with_reducible refine Kd.C_alloc ?_ _) | (with_reducible refine Kd.C_drewN ?_ _) | (with_reducible refine Kd.C_drew ?_))); (case side2 => exact (Kd.R_reads' HO305.out).2.1); rintro e w21 ⟨v310, rfl, ho0, hb⟩; refine ⟨_, rfl, ?_⟩; (try (have n9_ := Aside0.mk (Room.below (by (with_reducible repeat (first | apply Room.alloc | apply Room.drewN | apply Room.drew)); exact RM.out) hb); clear RM; have RM := n9_; clear n9_)); have n0_ := Aside0.mk (Kd.R_elder' (by (with_reducible repeat (first | apply Kd.R_alloc | apply Kd.R_drewN | apply Kd.R_drew)); exact HO305.out) (Kd.R_base ho0) hb); have n1_ := Aside0.mk (Kd.R_elder' (by (with_reducible repeat (first | apply Kd.R_alloc | apply Kd.R_drewN | apply Kd.R_drew)); exact HO308.out) (Kd.R_base ho0) hb); have n2_ := Aside0.mk (Kd.R_lower (Kd.R_new' (Kd.R_new' ho0 (Kd.R_lt (by (with_reducible repeat (first | apply Kd.R_alloc | apply Kd.R_drewN | apply Kd.R_drew)); exact HO305.out))) (Kd.R_lt (by (with_reducible repeat (first | apply Kd.R_alloc | apply Kd.R_drewN | apply Kd.R_drew)); exact HO308.out))) (below_size (by repeat (first | (with_reducible first | exact HB.out | apply below_alloc | apply pw_below_drewN | apply below_drew1) | exact HB.out)))); have n3_ := Aside0.mk (below_step (by repeat (first | (with_reducible first | exact HB.out | apply below_alloc | apply pw_below_drewN | apply below_drew1) | exact HB.out)) hb); clear HO305; clear HO308; clear HB; have HO305 := n0_; have HO308 := n1_; have HO311 := n2_; have HB := n3_; clear n0_ n1_ n2_ n3_; (try clear hb); (try clear hb2); (try clear hk); (try clear hi); (try clear ho0)) | ((with_reducible refine gate_callee (f := 13) rfl ?_); refine goesL_ (some 40) rfl rfl Tryd.func13 (by kernel_rfl) rfl #[.slice A3 l3.length c3] rfl (by (try simp only [List.map_toArray, List.map_cons, List.map_nil]); first | done | rfl | (simp only [List.length_drop, List.length_take]; rfl)) ?_; (with_reducible refine (nar_Lay.calls kj4 _ _ l3 t312 t313 _ ?side1 ?side2 A15.out).mono ?_); (case side1 => repeat (first | exact (Kd.C_below HR3.out HB.out) | (with_reducible refine Kd.C_alloc ?_ _) | (with_reducible refine Kd.C_drewN ?_ _) | (with_reducible refine Kd.C_drew ?_))); (case side2 => exact HC3.out); rintro e w22 ⟨v314, rfl, ho0, hb⟩; refine ⟨_, rfl, ?_⟩; (try (have n9_ := Aside0.mk (Room.below (by (with_reducible repeat (first | apply Room.alloc | apply Room.drewN | apply Room.drew)); exact RM.out) hb); clear RM; have RM := n9_; clear n9_)); have n0_ := Aside0.mk (Kd.R_elder' (by (with_reducible repeat (first | apply Kd.R_alloc | apply Kd.R_drewN | apply Kd.R_drew)); exact HO305.out) (Kd.R_base ho0) hb); have n1_ := Aside0.mk (Kd.R_elder' (by (with_reducible repeat (first | apply Kd.R_alloc | apply Kd.R_drewN | apply Kd.R_drew)); exact HO308.out) (Kd.R_base ho0) hb); have n2_ := Aside0.mk (Kd.R_elder' (by (with_reducible repeat (first | apply Kd.R_alloc | apply Kd.R_drewN | apply Kd.R_drew)); exact HO311.out) (Kd.R_base ho0) hb); have n3_ := Aside0.mk (Kd.R_lower (Kd.R_new' (Kd.R_new' (Kd.R_new' ho0 (Kd.R_lt (by (with_reducible repeat (first | apply Kd.R_alloc | apply Kd.R_drewN | apply Kd.R_drew)); exact HO305.out))) (Kd.R_lt (by (with_reducible repeat (first | apply Kd.R_alloc | apply Kd.R_drewN | apply Kd.R_drew)); exact HO308.out))) (Kd.R_lt (by (with_reducible repeat (first | apply Kd.R_alloc | apply Kd.R_drewN | apply Kd.R_drew)); exact HO311.out))) (below_size (by repeat (first | (with_reducible first | exact HB.out | apply below_alloc | apply pw_below_drewN | apply below_drew1) | exact HB.out)))); have n4_ := Aside0.mk (below_step (by repeat (first | (with_reducible first | exact HB.out | apply below_alloc | apply pw_below_drewN | apply below_drew1) | exact HB.out)) hb); clear HO305; clear HO308; clear HO311; clear HB; have HO305 := n0_; have HO308 := n1_; have HO311 := n2_; have HO315 := n3_; have HB := n4_; clear n0_ n1_ n2_ n3_ n4_; (try clear hb); (try clear hb2); (try clear hk); (try clear hi); (try clear ho0)) | ((with_reducible refine gate_callee (f := 14) rfl ?_); refine goesL_ (some 45) rfl rfl Tryd.func14 (by kernel_rfl) rfl #[.slice A3 l3.length c3] rfl (by (try simp only [List.map_toArray, List.map_cons, List.map_nil]); first | done | rfl | (simp only [List.length_drop, List.length_take]; rfl)) ?_; (with_reducible refine (hogsheadref5_Lay.calls kj4 _ _ l3 t316 t317 _ ?side1 ?side2 A16.out).mono ?_); (case side1 => repeat (first | exact (Kd.C_below HR3.out HB.out) | (with_reducible refine Kd.C_alloc ?_ _) | (with_reducible refine Kd.C_drewN ?_ _) | (with_reducible refine Kd.C_drew ?_))); (case side2 => exact HC3.out); rintro e w23 ⟨v318, rfl, ho0, hb⟩; refine ⟨_, rfl, ?_⟩; (try (have n9_ := Aside0.mk (Room.below (by (with_reducible repeat (first | apply Room.alloc | apply Room.drewN | apply Room.drew)); exact RM.out) hb); clear RM; have RM := n9_; clear n9_)); have n0_ := Aside0.mk (Kd.R_elder' (by (with_reducible repeat (first | apply Kd.R_alloc | apply Kd.R_drewN | apply Kd.R_drew)); exact HO305.out) (Kd.R_base ho0) hb); have n1_ := Aside0.mk (Kd.R_elder' (by (with_reducible repeat (first | apply Kd.R_alloc | apply Kd.R_drewN | apply Kd.R_drew)); exact HO308.out) (Kd.R_base ho0) hb); have n2_ := Aside0.mk (Kd.R_elder' (by (with_reducible repeat (first | apply Kd.R_alloc | apply Kd.R_drewN | apply Kd.R_drew)); exact HO311.out) (Kd.R_base ho0) hb); have n3_ := Aside0.mk (Kd.R_elder' (by (with_reducible repeat (first | apply Kd.R_alloc | apply Kd.R_drewN | apply Kd.R_drew)); exact HO315.out) (Kd.R_base ho0) hb); have n4_ := Aside0.mk (Kd.R_lower (Kd.R_new' (Kd.R_new' (Kd.R_new' (Kd.R_new' ho0 (Kd.R_lt (by (with_reducible repeat (first | apply Kd.R_alloc | apply Kd.R_drewN | apply Kd.R_drew)); exact HO305.out))) (Kd.R_lt (by (with_reducible repeat (first | apply Kd.R_alloc | apply Kd.R_drewN | apply Kd.R_drew)); exact HO308.out))) (Kd.R_lt (by (with_reducible repeat (first | apply Kd.R_alloc | apply Kd.R_drewN | apply Kd.R_drew)); exact HO311.out))) (Kd.R_lt (by (with_reducible repeat (first | apply Kd.R_alloc | apply Kd.R_drewN | apply Kd.R_drew)); exact HO315.out))) (below_size (by repeat (first | (with_reducible first | exact HB.out | apply below_alloc | apply pw_below_drewN | apply below_drew1) | exact HB.out)))); have n5_ := Aside0.mk (below_step (by repeat (first | (with_reducible first | exact HB.out | apply below_alloc | apply pw_below_drewN | apply below_drew1) | exact HB.out)) hb); clear HO305; clear HO308; clear HO311; clear HO315; clear HB; have HO305 := n0_; have HO308 := n1_; have HO311 := n2_; have HO315 := n3_; have HO319 := n4_; have HB := n5_; clear n0_ n1_ n2_ n3_ n4_ n5_; (try clear hb); (try clear hb2); (try clear hk); (try clear hi); (try clear ho0)))
        (try simp only [Act.put, List.setIfInBounds_toArray, List.set_cons_zero, List.set_cons_succ])
        go_cut [16] (fun v16 wc => ∃ (kq : Nat) (x16_16 : Bool), v16 = .bool x16_16 ∧ Aside0 (hogsheadlaw5_NarLays.j1 kq l0 t303 t306 t309 t312 x16_16 = some true) ∧ Aside0 (kq ≤ kj4) ∧ Aside0 (Kd.R (Kd.int .u8) 5 wc w.heap.size (fun k_ => some k_ ≠ (v307 : Value).ownBlock ∧ some k_ ≠ (v310 : Value).ownBlock ∧ some k_ ≠ (v314 : Value).ownBlock) (.slice Ao19 t303.length co19) t303) ∧ Aside0 (Kd.R (Kd.int .u8) 5 wc w.heap.size (fun k_ => some k_ ≠ ((.slice Ao19 t303.length co19) : Value).ownBlock ∧ some k_ ≠ (v310 : Value).ownBlock ∧ some k_ ≠ (v314 : Value).ownBlock) v307 t306) ∧ Aside0 (Kd.R (Kd.int .u8) 5 wc w.heap.size (fun k_ => some k_ ≠ ((.slice Ao19 t303.length co19) : Value).ownBlock ∧ some k_ ≠ (v307 : Value).ownBlock ∧ some k_ ≠ (v314 : Value).ownBlock) v310 t309) ∧ Aside0 (Kd.R (Kd.int .u8) 5 wc w.heap.size (fun k_ => some k_ ≠ ((.slice Ao19 t303.length co19) : Value).ownBlock ∧ some k_ ≠ (v307 : Value).ownBlock ∧ some k_ ≠ (v310 : Value).ownBlock) v314 t312) ∧ Aside0 (Room 5 1 [.int .u8 119] wc (.slice Ao19 t303.length co19)) ∧ Aside0 (Below w.heap.size w wc))
        case first =>
          have H := HC17.out
          clear HC17
          replace H := Option.bind_eq_some_iff.mp H
          obtain ⟨t320, A240, H⟩ := H
          replace H : ((hogsheadlaw0_SameBytes.f kj4 t306 t320).bind fun t323 => (if t323 = true then ((hogsheadref5_Text.f kj4 l0 a2).bind fun t324 => ((hogsheadlaw0_SameBytes.f kj4 t309 t324).bind fun t327 => (if t327 = true then ((hogsheadlaw0_SameBytes.f kj4 t312 t316).bind fun t328 => (if t328 = true then ((hogsheadlaw0_Num.f t313).bind fun t329 => (if t329 = t317 then ((hogsheadlaw0_KeptBytes.f kj4 t303 l0).bind fun t330 => (hogsheadlaw5_NarLays.j1 kj4 l0 t303 t306 t309 t312 t330)) else (hogsheadlaw5_NarLays.j1 kj4 l0 t303 t306 t309 t312 false))) else (hogsheadlaw5_NarLays.j1 kj4 l0 t303 t306 t309 t312 false))) else (hogsheadlaw5_NarLays.j1 kj4 l0 t303 t306 t309 t312 false)))) else (hogsheadlaw5_NarLays.j1 kj4 l0 t303 t306 t309 t312 false))) = some true := H
          have A24 := Aside0.mk A240
          clear A240
          replace H := Option.bind_eq_some_iff.mp H
          obtain ⟨t323, A250, H⟩ := H
          replace H : (if t323 = true then ((hogsheadref5_Text.f kj4 l0 a2).bind fun t324 => ((hogsheadlaw0_SameBytes.f kj4 t309 t324).bind fun t327 => (if t327 = true then ((hogsheadlaw0_SameBytes.f kj4 t312 t316).bind fun t328 => (if t328 = true then ((hogsheadlaw0_Num.f t313).bind fun t329 => (if t329 = t317 then ((hogsheadlaw0_KeptBytes.f kj4 t303 l0).bind fun t330 => (hogsheadlaw5_NarLays.j1 kj4 l0 t303 t306 t309 t312 t330)) else (hogsheadlaw5_NarLays.j1 kj4 l0 t303 t306 t309 t312 false))) else (hogsheadlaw5_NarLays.j1 kj4 l0 t303 t306 t309 t312 false))) else (hogsheadlaw5_NarLays.j1 kj4 l0 t303 t306 t309 t312 false)))) else (hogsheadlaw5_NarLays.j1 kj4 l0 t303 t306 t309 t312 false)) = some true := H
          have A25 := Aside0.mk A250
          clear A250
          by_cases c26 : t323 = true
          · subst c26
            have H1 : ((hogsheadref5_Text.f kj4 l0 a2).bind fun t324 => ((hogsheadlaw0_SameBytes.f kj4 t309 t324).bind fun t327 => (if t327 = true then ((hogsheadlaw0_SameBytes.f kj4 t312 t316).bind fun t328 => (if t328 = true then ((hogsheadlaw0_Num.f t313).bind fun t329 => (if t329 = t317 then ((hogsheadlaw0_KeptBytes.f kj4 t303 l0).bind fun t330 => (hogsheadlaw5_NarLays.j1 kj4 l0 t303 t306 t309 t312 t330)) else (hogsheadlaw5_NarLays.j1 kj4 l0 t303 t306 t309 t312 false))) else (hogsheadlaw5_NarLays.j1 kj4 l0 t303 t306 t309 t312 false))) else (hogsheadlaw5_NarLays.j1 kj4 l0 t303 t306 t309 t312 false)))) = some true := by rw [if_pos rfl] at H; exact H
            clear H
            have H := H1
            clear H1
            replace H := Option.bind_eq_some_iff.mp H
            obtain ⟨t324, A270, H⟩ := H
            replace H : ((hogsheadlaw0_SameBytes.f kj4 t309 t324).bind fun t327 => (if t327 = true then ((hogsheadlaw0_SameBytes.f kj4 t312 t316).bind fun t328 => (if t328 = true then ((hogsheadlaw0_Num.f t313).bind fun t329 => (if t329 = t317 then ((hogsheadlaw0_KeptBytes.f kj4 t303 l0).bind fun t330 => (hogsheadlaw5_NarLays.j1 kj4 l0 t303 t306 t309 t312 t330)) else (hogsheadlaw5_NarLays.j1 kj4 l0 t303 t306 t309 t312 false))) else (hogsheadlaw5_NarLays.j1 kj4 l0 t303 t306 t309 t312 false))) else (hogsheadlaw5_NarLays.j1 kj4 l0 t303 t306 t309 t312 false))) = some true := H
            have A27 := Aside0.mk A270
            clear A270
            replace H := Option.bind_eq_some_iff.mp H
            obtain ⟨t327, A280, H⟩ := H
            replace H : (if t327 = true then ((hogsheadlaw0_SameBytes.f kj4 t312 t316).bind fun t328 => (if t328 = true then ((hogsheadlaw0_Num.f t313).bind fun t329 => (if t329 = t317 then ((hogsheadlaw0_KeptBytes.f kj4 t303 l0).bind fun t330 => (hogsheadlaw5_NarLays.j1 kj4 l0 t303 t306 t309 t312 t330)) else (hogsheadlaw5_NarLays.j1 kj4 l0 t303 t306 t309 t312 false))) else (hogsheadlaw5_NarLays.j1 kj4 l0 t303 t306 t309 t312 false))) else (hogsheadlaw5_NarLays.j1 kj4 l0 t303 t306 t309 t312 false)) = some true := H
            have A28 := Aside0.mk A280
            clear A280
            by_cases c29 : t327 = true
            · subst c29
              have H1 : ((hogsheadlaw0_SameBytes.f kj4 t312 t316).bind fun t328 => (if t328 = true then ((hogsheadlaw0_Num.f t313).bind fun t329 => (if t329 = t317 then ((hogsheadlaw0_KeptBytes.f kj4 t303 l0).bind fun t330 => (hogsheadlaw5_NarLays.j1 kj4 l0 t303 t306 t309 t312 t330)) else (hogsheadlaw5_NarLays.j1 kj4 l0 t303 t306 t309 t312 false))) else (hogsheadlaw5_NarLays.j1 kj4 l0 t303 t306 t309 t312 false))) = some true := by rw [if_pos rfl] at H; exact H
              clear H
              have H := H1
              clear H1
              replace H := Option.bind_eq_some_iff.mp H
              obtain ⟨t328, A300, H⟩ := H
              replace H : (if t328 = true then ((hogsheadlaw0_Num.f t313).bind fun t329 => (if t329 = t317 then ((hogsheadlaw0_KeptBytes.f kj4 t303 l0).bind fun t330 => (hogsheadlaw5_NarLays.j1 kj4 l0 t303 t306 t309 t312 t330)) else (hogsheadlaw5_NarLays.j1 kj4 l0 t303 t306 t309 t312 false))) else (hogsheadlaw5_NarLays.j1 kj4 l0 t303 t306 t309 t312 false)) = some true := H
              have A30 := Aside0.mk A300
              clear A300
              by_cases c31 : t328 = true
              · subst c31
                have H1 : ((hogsheadlaw0_Num.f t313).bind fun t329 => (if t329 = t317 then ((hogsheadlaw0_KeptBytes.f kj4 t303 l0).bind fun t330 => (hogsheadlaw5_NarLays.j1 kj4 l0 t303 t306 t309 t312 t330)) else (hogsheadlaw5_NarLays.j1 kj4 l0 t303 t306 t309 t312 false))) = some true := by rw [if_pos rfl] at H; exact H
                clear H
                have H := H1
                clear H1
                replace H := Option.bind_eq_some_iff.mp H
                obtain ⟨t329, A320, H⟩ := H
                replace H : (if t329 = t317 then ((hogsheadlaw0_KeptBytes.f kj4 t303 l0).bind fun t330 => (hogsheadlaw5_NarLays.j1 kj4 l0 t303 t306 t309 t312 t330)) else (hogsheadlaw5_NarLays.j1 kj4 l0 t303 t306 t309 t312 false)) = some true := H
                have A32 := Aside0.mk A320
                clear A320
                by_cases c33 : t329 = t317
                · rw [if_pos c33] at H
                  have c33b0 : (t329 == t317) = true := beq_iff_eq.mpr c33
                  have c33b1 : (t329 != t317) = false := bne_eq_false_iff_eq.mpr c33
                  clear c33
                  (first | rw [c33b0] | (simp only [i64_w, i32_w]; rw [c33b0]) | skip)
                  replace H := Option.bind_eq_some_iff.mp H
                  obtain ⟨t330, A340, H⟩ := H
                  replace H : (hogsheadlaw5_NarLays.j1 kj4 l0 t303 t306 t309 t312 t330) = some true := H
                  have A34 := Aside0.mk A340
                  clear A340
                  have H' := Aside0.mk H
                  clear H
                  go_wp2_with (first | ((with_reducible refine gate_callee (f := 16) rfl ?_); refine goesL_ (some 51) rfl rfl Tryd.func16 (by kernel_rfl) rfl #[.slice A0 l0.length c0, .int .i64 a1] rfl (by (try simp only [List.map_toArray, List.map_cons, List.map_nil]); first | done | rfl | (simp only [List.length_drop, List.length_take]; rfl)) ?_; (with_reducible refine (hogsheadref5_Num.calls kj4 _ _ l0 a1 t320 _ ?side1 ?side2 A24.out).mono ?_); (case side1 => repeat (first | exact (Kd.C_below HR0.out HB.out) | (with_reducible refine Kd.C_alloc ?_ _) | (with_reducible refine Kd.C_drewN ?_ _) | (with_reducible refine Kd.C_drew ?_))); (case side2 => exact HC0.out); rintro e w35 ⟨v321, rfl, ho0, hb⟩; refine ⟨_, rfl, ?_⟩; (try (have n9_ := Aside0.mk (Room.below (by (with_reducible repeat (first | apply Room.alloc | apply Room.drewN | apply Room.drew)); exact RM.out) hb); clear RM; have RM := n9_; clear n9_)); have n0_ := Aside0.mk (Kd.R_elder' (by (with_reducible repeat (first | apply Kd.R_alloc | apply Kd.R_drewN | apply Kd.R_drew)); exact HO305.out) (Kd.R_base ho0) hb); have n1_ := Aside0.mk (Kd.R_elder' (by (with_reducible repeat (first | apply Kd.R_alloc | apply Kd.R_drewN | apply Kd.R_drew)); exact HO308.out) (Kd.R_base ho0) hb); have n2_ := Aside0.mk (Kd.R_elder' (by (with_reducible repeat (first | apply Kd.R_alloc | apply Kd.R_drewN | apply Kd.R_drew)); exact HO311.out) (Kd.R_base ho0) hb); have n3_ := Aside0.mk (Kd.R_elder' (by (with_reducible repeat (first | apply Kd.R_alloc | apply Kd.R_drewN | apply Kd.R_drew)); exact HO315.out) (Kd.R_base ho0) hb); have n4_ := Aside0.mk (Kd.R_elder' (by (with_reducible repeat (first | apply Kd.R_alloc | apply Kd.R_drewN | apply Kd.R_drew)); exact HO319.out) (Kd.R_base ho0) hb); have n5_ := Aside0.mk (Kd.R_lower (Kd.R_new' (Kd.R_new' (Kd.R_new' (Kd.R_new' (Kd.R_new' ho0 (Kd.R_lt (by (with_reducible repeat (first | apply Kd.R_alloc | apply Kd.R_drewN | apply Kd.R_drew)); exact HO305.out))) (Kd.R_lt (by (with_reducible repeat (first | apply Kd.R_alloc | apply Kd.R_drewN | apply Kd.R_drew)); exact HO308.out))) (Kd.R_lt (by (with_reducible repeat (first | apply Kd.R_alloc | apply Kd.R_drewN | apply Kd.R_drew)); exact HO311.out))) (Kd.R_lt (by (with_reducible repeat (first | apply Kd.R_alloc | apply Kd.R_drewN | apply Kd.R_drew)); exact HO315.out))) (Kd.R_lt (by (with_reducible repeat (first | apply Kd.R_alloc | apply Kd.R_drewN | apply Kd.R_drew)); exact HO319.out))) (below_size (by repeat (first | (with_reducible first | exact HB.out | apply below_alloc | apply pw_below_drewN | apply below_drew1) | exact HB.out)))); have n6_ := Aside0.mk (below_step (by repeat (first | (with_reducible first | exact HB.out | apply below_alloc | apply pw_below_drewN | apply below_drew1) | exact HB.out)) hb); clear HO305; clear HO308; clear HO311; clear HO315; clear HO319; clear HB; have HO305 := n0_; have HO308 := n1_; have HO311 := n2_; have HO315 := n3_; have HO319 := n4_; have HO322 := n5_; have HB := n6_; clear n0_ n1_ n2_ n3_ n4_ n5_ n6_; (try clear hb); (try clear hb2); (try clear hk); (try clear hi); (try clear ho0); obtain ⟨Ao36, co36, eo36⟩ := Kd.R_slice HO308.out; subst eo36; obtain ⟨Ao37, co37, eo37⟩ := Kd.R_slice HO322.out; subst eo37) | ((with_reducible refine gate_callee (f := 15) rfl ?_); refine goesL_ (some 52) rfl rfl Tryd.func15 (by kernel_rfl) rfl #[.slice Ao36 t306.length co36, .slice Ao37 t320.length co37] rfl (by (try simp only [List.map_toArray, List.map_cons, List.map_nil]); first | done | rfl | (simp only [List.length_drop, List.length_take]; rfl)) ?_; (with_reducible refine (hogsheadlaw0_SameBytes.calls kj4 _ _ t306 _ _ t320 true _ ?side1 ?side2 ?side3 ?side4 A25.out).mono ?_); (case side1 => repeat (first | exact (Kd.R_reads' HO308.out).2.2 | (with_reducible refine Kd.C_alloc ?_ _) | (with_reducible refine Kd.C_drewN ?_ _) | (with_reducible refine Kd.C_drew ?_))); (case side2 => exact (Kd.R_reads' HO308.out).2.1); (case side3 => repeat (first | exact (Kd.R_reads' HO322.out).2.2 | (with_reducible refine Kd.C_alloc ?_ _) | (with_reducible refine Kd.C_drewN ?_ _) | (with_reducible refine Kd.C_drew ?_))); (case side4 => exact (Kd.R_reads' HO322.out).2.1); rintro e w' ⟨rfl, ⟨nd, rfl⟩⟩; refine ⟨_, rfl, ?_⟩) | (go_at_call 17; (with_reducible refine (hogsheadref5_Text.calls kj4 _ _ l0 a2 t324 _ ?side1 ?side2 A27.out).mono ?_); (case side1 => repeat (first | exact (Kd.C_below HR0.out (by repeat (first | (with_reducible first | exact HB.out | apply below_alloc | apply pw_below_drewN | apply below_drew1) | exact HB.out))) | (with_reducible refine Kd.C_alloc ?_ _) | (with_reducible refine Kd.C_drewN ?_ _) | (with_reducible refine Kd.C_drew ?_))); (case side2 => exact HC0.out); rintro e w38 ⟨v325, rfl, ho0, hb⟩; (try (have n9_ := Aside0.mk (Room.below (by (with_reducible repeat (first | apply Room.alloc | apply Room.drewN | apply Room.drew)); exact RM.out) hb); clear RM; have RM := n9_; clear n9_)); have n0_ := Aside0.mk (Kd.R_elder' (by (with_reducible repeat (first | apply Kd.R_alloc | apply Kd.R_drewN | apply Kd.R_drew)); exact HO305.out) (Kd.R_base ho0) hb); have n1_ := Aside0.mk (Kd.R_elder' (by (with_reducible repeat (first | apply Kd.R_alloc | apply Kd.R_drewN | apply Kd.R_drew)); exact HO308.out) (Kd.R_base ho0) hb); have n2_ := Aside0.mk (Kd.R_elder' (by (with_reducible repeat (first | apply Kd.R_alloc | apply Kd.R_drewN | apply Kd.R_drew)); exact HO311.out) (Kd.R_base ho0) hb); have n3_ := Aside0.mk (Kd.R_elder' (by (with_reducible repeat (first | apply Kd.R_alloc | apply Kd.R_drewN | apply Kd.R_drew)); exact HO315.out) (Kd.R_base ho0) hb); have n4_ := Aside0.mk (Kd.R_elder' (by (with_reducible repeat (first | apply Kd.R_alloc | apply Kd.R_drewN | apply Kd.R_drew)); exact HO319.out) (Kd.R_base ho0) hb); have n5_ := Aside0.mk (Kd.R_elder' (by (with_reducible repeat (first | apply Kd.R_alloc | apply Kd.R_drewN | apply Kd.R_drew)); exact HO322.out) (Kd.R_base ho0) hb); have n6_ := Aside0.mk (Kd.R_lower (Kd.R_new' (Kd.R_new' (Kd.R_new' (Kd.R_new' (Kd.R_new' (Kd.R_new' ho0 (Kd.R_lt (by (with_reducible repeat (first | apply Kd.R_alloc | apply Kd.R_drewN | apply Kd.R_drew)); exact HO305.out))) (Kd.R_lt (by (with_reducible repeat (first | apply Kd.R_alloc | apply Kd.R_drewN | apply Kd.R_drew)); exact HO308.out))) (Kd.R_lt (by (with_reducible repeat (first | apply Kd.R_alloc | apply Kd.R_drewN | apply Kd.R_drew)); exact HO311.out))) (Kd.R_lt (by (with_reducible repeat (first | apply Kd.R_alloc | apply Kd.R_drewN | apply Kd.R_drew)); exact HO315.out))) (Kd.R_lt (by (with_reducible repeat (first | apply Kd.R_alloc | apply Kd.R_drewN | apply Kd.R_drew)); exact HO319.out))) (Kd.R_lt (by (with_reducible repeat (first | apply Kd.R_alloc | apply Kd.R_drewN | apply Kd.R_drew)); exact HO322.out))) (below_size (by repeat (first | (with_reducible first | exact HB.out | apply below_alloc | apply pw_below_drewN | apply below_drew1) | exact HB.out)))); have n7_ := Aside0.mk (below_step (by repeat (first | (with_reducible first | exact HB.out | apply below_alloc | apply pw_below_drewN | apply below_drew1) | exact HB.out)) hb); clear HO305; clear HO308; clear HO311; clear HO315; clear HO319; clear HO322; clear HB; have HO305 := n0_; have HO308 := n1_; have HO311 := n2_; have HO315 := n3_; have HO319 := n4_; have HO322 := n5_; have HO326 := n6_; have HB := n7_; clear n0_ n1_ n2_ n3_ n4_ n5_ n6_ n7_; (try clear hb); (try clear hb2); (try clear hk); (try clear hi); (try clear ho0); obtain ⟨Ao39, co39, eo39⟩ := Kd.R_slice HO311.out; subst eo39; obtain ⟨Ao40, co40, eo40⟩ := Kd.R_slice HO326.out; subst eo40) | (go_at_call 15; (with_reducible refine (hogsheadlaw0_SameBytes.calls kj4 _ _ t309 _ _ t324 true _ ?side1 ?side2 ?side3 ?side4 A28.out).mono ?_); (case side1 => repeat (first | exact (Kd.R_reads' HO311.out).2.2 | (with_reducible refine Kd.C_alloc ?_ _) | (with_reducible refine Kd.C_drewN ?_ _) | (with_reducible refine Kd.C_drew ?_))); (case side2 => exact (Kd.R_reads' HO311.out).2.1); (case side3 => repeat (first | exact (Kd.R_reads' HO326.out).2.2 | (with_reducible refine Kd.C_alloc ?_ _) | (with_reducible refine Kd.C_drewN ?_ _) | (with_reducible refine Kd.C_drew ?_))); (case side4 => exact (Kd.R_reads' HO326.out).2.1); rintro e w' ⟨rfl, ⟨nd, rfl⟩⟩; obtain ⟨Ao41, co41, eo41⟩ := Kd.R_slice HO315.out; subst eo41; obtain ⟨Ao42, co42, eo42⟩ := Kd.R_slice HO319.out; subst eo42) | (go_at_call 15; (with_reducible refine (hogsheadlaw0_SameBytes.calls kj4 _ _ t312 _ _ t316 true _ ?side1 ?side2 ?side3 ?side4 A30.out).mono ?_); (case side1 => repeat (first | exact (Kd.R_reads' HO315.out).2.2 | (with_reducible refine Kd.C_alloc ?_ _) | (with_reducible refine Kd.C_drewN ?_ _) | (with_reducible refine Kd.C_drew ?_))); (case side2 => exact (Kd.R_reads' HO315.out).2.1); (case side3 => repeat (first | exact (Kd.R_reads' HO319.out).2.2 | (with_reducible refine Kd.C_alloc ?_ _) | (with_reducible refine Kd.C_drewN ?_ _) | (with_reducible refine Kd.C_drew ?_))); (case side4 => exact (Kd.R_reads' HO319.out).2.1); rintro e w' ⟨rfl, ⟨nd, rfl⟩⟩) | (go_at_call 18; (with_reducible refine (hogsheadlaw0_Num.calls t313 t329 _ A32.out).mono ?_); rintro e w' ⟨rfl, ⟨nd, rfl⟩⟩) | (go_at_call 19; (with_reducible refine (hogsheadlaw0_KeptBytes.calls kj4 _ _ t303 _ _ l0 t330 _ ?side1 ?side2 ?side3 ?side4 A34.out ?sideR).mono ?_); (case sideR => (with_reducible repeat (first | apply Room.alloc | apply Room.drewN | apply Room.drew)); exact RM.out); (case side1 => repeat (first | exact (Kd.R_reads' HO305.out).2.2 | (with_reducible refine Kd.C_alloc ?_ _) | (with_reducible refine Kd.C_drewN ?_ _) | (with_reducible refine Kd.C_drew ?_))); (case side2 => exact (Kd.R_reads' HO305.out).2.1); (case side3 => repeat (first | exact (Kd.C_below HR0.out (by repeat (first | (with_reducible first | exact HB.out | apply below_alloc | apply pw_below_drewN | apply below_drew1) | exact HB.out))) | (with_reducible refine Kd.C_alloc ?_ _) | (with_reducible refine Kd.C_drewN ?_ _) | (with_reducible refine Kd.C_drew ?_))); (case side4 => exact HC0.out); rintro e w43 ⟨rfl, hb⟩; (try (have n9_ := Aside0.mk (Room.below (by (with_reducible repeat (first | apply Room.alloc | apply Room.drewN | apply Room.drew)); exact RM.out) hb); clear RM; have RM := n9_; clear n9_)); have n0_ := Aside0.mk (Kd.R_below (by (with_reducible repeat (first | apply Kd.R_alloc | apply Kd.R_drewN | apply Kd.R_drew)); exact HO305.out) hb); have n1_ := Aside0.mk (Kd.R_below (by (with_reducible repeat (first | apply Kd.R_alloc | apply Kd.R_drewN | apply Kd.R_drew)); exact HO308.out) hb); have n2_ := Aside0.mk (Kd.R_below (by (with_reducible repeat (first | apply Kd.R_alloc | apply Kd.R_drewN | apply Kd.R_drew)); exact HO311.out) hb); have n3_ := Aside0.mk (Kd.R_below (by (with_reducible repeat (first | apply Kd.R_alloc | apply Kd.R_drewN | apply Kd.R_drew)); exact HO315.out) hb); have n4_ := Aside0.mk (Kd.R_below (by (with_reducible repeat (first | apply Kd.R_alloc | apply Kd.R_drewN | apply Kd.R_drew)); exact HO319.out) hb); have n5_ := Aside0.mk (Kd.R_below (by (with_reducible repeat (first | apply Kd.R_alloc | apply Kd.R_drewN | apply Kd.R_drew)); exact HO322.out) hb); have n6_ := Aside0.mk (Kd.R_below (by (with_reducible repeat (first | apply Kd.R_alloc | apply Kd.R_drewN | apply Kd.R_drew)); exact HO326.out) hb); have n7_ := Aside0.mk (below_step (by repeat (first | (with_reducible first | exact HB.out | apply below_alloc | apply pw_below_drewN | apply below_drew1) | exact HB.out)) hb); clear HO305; clear HO308; clear HO311; clear HO315; clear HO319; clear HO322; clear HO326; clear HB; have HO305 := n0_; have HO308 := n1_; have HO311 := n2_; have HO315 := n3_; have HO319 := n4_; have HO322 := n5_; have HO326 := n6_; have HB := n7_; clear n0_ n1_ n2_ n3_ n4_ n5_ n6_ n7_; (try clear hb); (try clear hb2); (try clear hk); (try clear hi)))
                  go_meet
                  case rel => exact ⟨_, (t330), (by first | rfl | (simp; done) | (simp [*]; done)), H', ⟨by have := HJ4.out; first | omega | exact Nat.le_refl _⟩, ⟨by (with_reducible repeat (first | apply Kd.R_alloc | apply Kd.R_drewN | apply Kd.R_drew)); exact Kd.R_mono HO305.out (fun _ hk => ⟨hk.1.1.1.1.1.2, ⟨hk.1.1.1.1.2, hk.1.1.1.2⟩⟩)⟩, ⟨by (with_reducible repeat (first | apply Kd.R_alloc | apply Kd.R_drewN | apply Kd.R_drew)); exact Kd.R_mono HO308.out (fun _ hk => ⟨hk.1.1.1.1.1.2, ⟨hk.1.1.1.1.2, hk.1.1.1.2⟩⟩)⟩, ⟨by (with_reducible repeat (first | apply Kd.R_alloc | apply Kd.R_drewN | apply Kd.R_drew)); exact Kd.R_mono HO311.out (fun _ hk => ⟨hk.1.1.1.1.1.2, ⟨hk.1.1.1.1.2, hk.1.1.1.2⟩⟩)⟩, ⟨by (with_reducible repeat (first | apply Kd.R_alloc | apply Kd.R_drewN | apply Kd.R_drew)); exact Kd.R_mono HO315.out (fun _ hk => ⟨hk.1.1.1.1.1.2, ⟨hk.1.1.1.1.2, hk.1.1.1.2⟩⟩)⟩, ⟨by (with_reducible repeat (first | apply Room.alloc | apply Room.drewN | apply Room.drew)); exact RM.out⟩, ⟨by repeat (first | (with_reducible first | exact HB.out | apply below_alloc | apply pw_below_drewN | apply below_drew1) | exact HB.out)⟩⟩
                · rw [if_neg c33] at H
                  exact absurd H (by cases kj4 <;> simp [hogsheadlaw5_NarLays.j1, Option.bind_eq_some_iff])
              · replace c31 := Bool.eq_false_iff.mpr c31
                subst c31
                have H1 : (hogsheadlaw5_NarLays.j1 kj4 l0 t303 t306 t309 t312 false) = some true := by rw [if_neg (show ¬ (false = true) by decide)] at H; exact H
                exact absurd H1 (by cases kj4 <;> simp [hogsheadlaw5_NarLays.j1, Option.bind_eq_some_iff])
            · replace c29 := Bool.eq_false_iff.mpr c29
              subst c29
              have H1 : (hogsheadlaw5_NarLays.j1 kj4 l0 t303 t306 t309 t312 false) = some true := by rw [if_neg (show ¬ (false = true) by decide)] at H; exact H
              exact absurd H1 (by cases kj4 <;> simp [hogsheadlaw5_NarLays.j1, Option.bind_eq_some_iff])
          · replace c26 := Bool.eq_false_iff.mpr c26
            subst c26
            have H1 : (hogsheadlaw5_NarLays.j1 kj4 l0 t303 t306 t309 t312 false) = some true := by rw [if_neg (show ¬ (false = true) by decide)] at H; exact H
            exact absurd H1 (by cases kj4 <;> simp [hogsheadlaw5_NarLays.j1, Option.bind_eq_some_iff])
        case rest =>
          clear HC17
          try clear c1
          try clear c2
          try clear p2
          try clear c3
          try clear c6
          try clear c6b0
          try clear c6b1
          try clear c7
          try clear c7b0
          try clear c7b1
          try clear c9
          try clear c10
          try clear c11
          try clear c12
          try clear c13
          try clear c14
          try clear c15
          try clear c16
          try clear c26
          try clear c29
          try clear c31
          try clear c33
          try clear c33b0
          try clear c33b1
          try clear p2
          obtain ⟨kq, x16_16, rfl, HA, HJ16, HO_9, HO_10, HO_11, HO_12, RM, HB⟩ := hcut
          cases kq with
          | zero => exact absurd HA.out (by simp [hogsheadlaw5_NarLays.j1])
          | succ kj16 =>
            have H := HA.out
            clear HA
            simp only [hogsheadlaw5_NarLays.j1] at H
            replace H := Option.bind_eq_some_iff.mp H
            obtain ⟨_, A690, H⟩ := H
            replace H : ((hogsheadlaw0_OverBytes.f kj16 t309).bind fun _ => ((hogsheadlaw0_OverBytes.f kj16 t312).bind fun _ => (if x16_16 = true then ((hogsheadlaw0_KeptBytes.f kj16 t303 l0).bind fun t331 => (if t331 = true then ((hogsheadlaw5_awake.f kj16).bind fun t332 => (some t332)) else (some false))) else (some false)))) = some true := H
            have A69 := Aside0.mk A690
            clear A690
            replace H := Option.bind_eq_some_iff.mp H
            obtain ⟨_, A700, H⟩ := H
            replace H : ((hogsheadlaw0_OverBytes.f kj16 t312).bind fun _ => (if x16_16 = true then ((hogsheadlaw0_KeptBytes.f kj16 t303 l0).bind fun t331 => (if t331 = true then ((hogsheadlaw5_awake.f kj16).bind fun t332 => (some t332)) else (some false))) else (some false))) = some true := H
            have A70 := Aside0.mk A700
            clear A700
            replace H := Option.bind_eq_some_iff.mp H
            obtain ⟨_, A710, H⟩ := H
            replace H : (if x16_16 = true then ((hogsheadlaw0_KeptBytes.f kj16 t303 l0).bind fun t331 => (if t331 = true then ((hogsheadlaw5_awake.f kj16).bind fun t332 => (some t332)) else (some false))) else (some false)) = some true := H
            have A71 := Aside0.mk A710
            clear A710
            by_cases c72 : x16_16 = true
            · subst c72
              have H1 : ((hogsheadlaw0_KeptBytes.f kj16 t303 l0).bind fun t331 => (if t331 = true then ((hogsheadlaw5_awake.f kj16).bind fun t332 => (some t332)) else (some false))) = some true := by rw [if_pos rfl] at H; exact H
              clear H
              have H := H1
              clear H1
              replace H := Option.bind_eq_some_iff.mp H
              obtain ⟨t331, A730, H⟩ := H
              replace H : (if t331 = true then ((hogsheadlaw5_awake.f kj16).bind fun t332 => (some t332)) else (some false)) = some true := H
              have A73 := Aside0.mk A730
              clear A730
              by_cases c74 : t331 = true
              · subst c74
                have H1 : ((hogsheadlaw5_awake.f kj16).bind fun t332 => (some t332)) = some true := by rw [if_pos rfl] at H; exact H
                clear H
                have H := H1
                clear H1
                replace H := Option.bind_eq_some_iff.mp H
                obtain ⟨t332, A750, H⟩ := H
                replace H : (some t332) = some true := H
                have A75 := Aside0.mk A750
                clear A750
                have hr_ := Option.some.inj H
                obtain ⟨Ao76, co76, eo76⟩ := Kd.R_slice HO_10.out
                subst eo76
                go_wp2_with (first | ((with_reducible refine gate_callee (f := 20) rfl ?_); refine goesL_ (some 77) rfl rfl Tryd.func20 (by kernel_rfl) rfl #[.slice Ao76 t306.length co76] rfl (by (try simp only [List.map_toArray, List.map_cons, List.map_nil]); first | done | rfl | (simp only [List.length_drop, List.length_take]; rfl)) ?_; (with_reducible refine (hogsheadlaw0_OverBytes.calls kj16 (fun k_ => some k_ = (.slice Ao76 t306.length co76 : Value).ownBlock) (.slice Ao76 t306.length co76) t306  w _ ?side1 ?side2 A69.out).mono ?_); (case side1 => repeat (first | (with_reducible first | exact HB.out | apply below_alloc | apply pw_below_drewN | apply below_drew1) | exact HB.out)); (case side2 => exact Kd.R_tight rfl HO_10.out); rintro e w77 ⟨rfl, hb, hkp⟩; refine ⟨_, rfl, ?_⟩; (try (have n9_ := Aside0.mk (Room.kept (by (with_reducible repeat (first | apply Room.alloc | apply Room.drewN | apply Room.drew)); exact RM.out) hkp (fun k_ hk_ hs_ => by have q_ := HO_10.out.1 k_ hs_.symm; first | exact q_ hk_.symm | exact q_.1 hk_.symm | exact q_.2.1 hk_.symm | exact q_.2.2.1 hk_.symm | exact q_.2.2.2.1 hk_.symm | exact q_.2 hk_.symm | exact q_.2.2 hk_.symm | exact q_.2.2.2 hk_.symm)); clear RM; have RM := n9_; clear n9_)); have n0_ := Aside0.mk (Kd.R_mono (ok' := fun k_ => some k_ ≠ (v310 : Value).ownBlock ∧ some k_ ≠ (v314 : Value).ownBlock) (Kd.R_keptB (HO_9.out) hkp (fun k_ hk_ hs_ => (hk_.1) hs_)) (fun k_ hk_ => ⟨hk_.1.2.1, hk_.1.2.2⟩)); have n1_ := Aside0.mk (Kd.R_mono (ok' := fun k_ => some k_ ≠ (.slice Ao19 t303.length co19 : Value).ownBlock ∧ some k_ ≠ (v314 : Value).ownBlock) (Kd.R_keptB (HO_11.out) hkp (fun k_ hk_ hs_ => (hk_.2.1) hs_)) (fun k_ hk_ => ⟨hk_.1.1, hk_.1.2.2⟩)); have n2_ := Aside0.mk (Kd.R_mono (ok' := fun k_ => some k_ ≠ (.slice Ao19 t303.length co19 : Value).ownBlock ∧ some k_ ≠ (v310 : Value).ownBlock) (Kd.R_keptB (HO_12.out) hkp (fun k_ hk_ hs_ => (hk_.2.1) hs_)) (fun k_ hk_ => ⟨hk_.1.1, hk_.1.2.2⟩)); have n3_ := Aside0.mk (hb); clear HO_9; clear HO_11; clear HO_12; clear HB; clear HO_10; have HO_9 := n0_; have HO_11 := n1_; have HO_12 := n2_; have HB := n3_; clear n0_ n1_ n2_ n3_; (try clear hb); (try clear hkp); obtain ⟨Ao78, co78, eo78⟩ := Kd.R_slice HO_11.out; subst eo78) | ((with_reducible refine gate_callee (f := 20) rfl ?_); refine goesL_ (some 79) rfl rfl Tryd.func20 (by kernel_rfl) rfl #[.slice Ao78 t309.length co78] rfl (by (try simp only [List.map_toArray, List.map_cons, List.map_nil]); first | done | rfl | (simp only [List.length_drop, List.length_take]; rfl)) ?_; (with_reducible refine (hogsheadlaw0_OverBytes.calls kj16 (fun k_ => some k_ = (.slice Ao78 t309.length co78 : Value).ownBlock) (.slice Ao78 t309.length co78) t309  w _ ?side1 ?side2 A70.out).mono ?_); (case side1 => repeat (first | (with_reducible first | exact HB.out | apply below_alloc | apply pw_below_drewN | apply below_drew1) | exact HB.out)); (case side2 => exact Kd.R_tight rfl HO_11.out); rintro e w79 ⟨rfl, hb, hkp⟩; refine ⟨_, rfl, ?_⟩; (try (have n9_ := Aside0.mk (Room.kept (by (with_reducible repeat (first | apply Room.alloc | apply Room.drewN | apply Room.drew)); exact RM.out) hkp (fun k_ hk_ hs_ => by have q_ := HO_11.out.1 k_ hs_.symm; first | exact q_ hk_.symm | exact q_.1 hk_.symm | exact q_.2.1 hk_.symm | exact q_.2.2.1 hk_.symm | exact q_.2.2.2.1 hk_.symm | exact q_.2 hk_.symm | exact q_.2.2 hk_.symm | exact q_.2.2.2 hk_.symm)); clear RM; have RM := n9_; clear n9_)); have n0_ := Aside0.mk (Kd.R_mono (ok' := fun k_ => some k_ ≠ (v314 : Value).ownBlock) (Kd.R_keptB (HO_9.out) hkp (fun k_ hk_ hs_ => (hk_.1) hs_)) (fun k_ hk_ => hk_.1.2)); have n1_ := Aside0.mk (Kd.R_mono (ok' := fun k_ => some k_ ≠ (.slice Ao19 t303.length co19 : Value).ownBlock) (Kd.R_keptB (HO_12.out) hkp (fun k_ hk_ hs_ => (hk_.2) hs_)) (fun k_ hk_ => hk_.1.1)); have n2_ := Aside0.mk (hb); clear HO_9; clear HO_12; clear HB; clear HO_11; have HO_9 := n0_; have HO_12 := n1_; have HB := n2_; clear n0_ n1_ n2_; (try clear hb); (try clear hkp); obtain ⟨Ao80, co80, eo80⟩ := Kd.R_slice HO_12.out; subst eo80) | ((with_reducible refine gate_callee (f := 20) rfl ?_); refine goesL_ (some 81) rfl rfl Tryd.func20 (by kernel_rfl) rfl #[.slice Ao80 t312.length co80] rfl (by (try simp only [List.map_toArray, List.map_cons, List.map_nil]); first | done | rfl | (simp only [List.length_drop, List.length_take]; rfl)) ?_; (with_reducible refine (hogsheadlaw0_OverBytes.calls kj16 (fun k_ => some k_ = (.slice Ao80 t312.length co80 : Value).ownBlock) (.slice Ao80 t312.length co80) t312  w _ ?side1 ?side2 A71.out).mono ?_); (case side1 => repeat (first | (with_reducible first | exact HB.out | apply below_alloc | apply pw_below_drewN | apply below_drew1) | exact HB.out)); (case side2 => exact Kd.R_tight rfl HO_12.out); rintro e w81 ⟨rfl, hb, hkp⟩; refine ⟨_, rfl, ?_⟩; (try (have n9_ := Aside0.mk (Room.kept (by (with_reducible repeat (first | apply Room.alloc | apply Room.drewN | apply Room.drew)); exact RM.out) hkp (fun k_ hk_ hs_ => by have q_ := HO_12.out.1 k_ hs_.symm; first | exact q_ hk_.symm | exact q_.1 hk_.symm | exact q_.2.1 hk_.symm | exact q_.2.2.1 hk_.symm | exact q_.2.2.2.1 hk_.symm | exact q_.2 hk_.symm | exact q_.2.2 hk_.symm | exact q_.2.2.2 hk_.symm)); clear RM; have RM := n9_; clear n9_)); have n0_ := Aside0.mk (Kd.R_mono (ok' := fun k_ => True) (Kd.R_keptB (HO_9.out) hkp (fun k_ hk_ hs_ => (hk_) hs_)) (fun k_ hk_ => trivial)); have n1_ := Aside0.mk (hb); clear HO_9; clear HB; clear HO_12; have HO_9 := n0_; have HB := n1_; clear n0_ n1_; (try clear hb); (try clear hkp)) | (go_at_call 19; (with_reducible refine (hogsheadlaw0_KeptBytes.calls kj16 _ _ t303 _ _ l0 true _ ?side1 ?side2 ?side3 ?side4 A73.out ?sideR).mono ?_); (case sideR => (with_reducible repeat (first | apply Room.alloc | apply Room.drewN | apply Room.drew)); exact RM.out); (case side1 => repeat (first | exact (Kd.R_reads' HO_9.out).2.2 | (with_reducible refine Kd.C_alloc ?_ _) | (with_reducible refine Kd.C_drewN ?_ _) | (with_reducible refine Kd.C_drew ?_))); (case side2 => exact (Kd.R_reads' HO_9.out).2.1); (case side3 => repeat (first | exact (Kd.C_below HR0.out HB.out) | (with_reducible refine Kd.C_alloc ?_ _) | (with_reducible refine Kd.C_drewN ?_ _) | (with_reducible refine Kd.C_drew ?_))); (case side4 => exact HC0.out); rintro e w82 ⟨rfl, hb⟩; (try (have n9_ := Aside0.mk (Room.below (by (with_reducible repeat (first | apply Room.alloc | apply Room.drewN | apply Room.drew)); exact RM.out) hb); clear RM; have RM := n9_; clear n9_)); have n0_ := Aside0.mk (Kd.R_below (by (with_reducible repeat (first | apply Kd.R_alloc | apply Kd.R_drewN | apply Kd.R_drew)); exact HO_9.out) hb); have n1_ := Aside0.mk (below_step (by repeat (first | (with_reducible first | exact HB.out | apply below_alloc | apply pw_below_drewN | apply below_drew1) | exact HB.out)) hb); clear HO_9; clear HB; have HO_9 := n0_; have HB := n1_; clear n0_ n1_; (try clear hb); (try clear hb2); (try clear hk); (try clear hi)) | (go_at_call 9; (with_reducible refine (hogsheadlaw5_awake.calls kj16  t332 _ A75.out).mono ?_); rintro e w83 ⟨rfl, hb⟩; (try (have n9_ := Aside0.mk (Room.below (by (with_reducible repeat (first | apply Room.alloc | apply Room.drewN | apply Room.drew)); exact RM.out) hb); clear RM; have RM := n9_; clear n9_)); have n0_ := Aside0.mk (Kd.R_below (by (with_reducible repeat (first | apply Kd.R_alloc | apply Kd.R_drewN | apply Kd.R_drew)); exact HO_9.out) hb); have n1_ := Aside0.mk (below_step (by repeat (first | (with_reducible first | exact HB.out | apply below_alloc | apply pw_below_drewN | apply below_drew1) | exact HB.out)) hb); clear HO_9; clear HB; have HO_9 := n0_; have HB := n1_; clear n0_ n1_; (try clear hb); (try clear hb2); (try clear hk); (try clear hi)))
                go_ret
                exact ⟨by first | rfl | (simp [errW_none, errW_some] <;> rfl) | (simp [*, errW_none, errW_some] <;> rfl), by repeat (first | (with_reducible first | exact HB.out | apply below_alloc | apply pw_below_drewN | apply below_drew1) | exact HB.out)⟩
              · replace c74 := Bool.eq_false_iff.mpr c74
                subst c74
                have H1 : (some false) = some true := by rw [if_neg (show ¬ (false = true) by decide)] at H; exact H
                exact absurd H1 (by simp)
            · replace c72 := Bool.eq_false_iff.mpr c72
              subst c72
              have H1 : (some false) = some true := by rw [if_neg (show ¬ (false = true) by decide)] at H; exact H
              exact absurd H1 (by simp)
/-- The one plain statement of hogsheadlaw5_NarLays. -/
def hogsheadlaw5_NarLays.Pure : Prop := ∀ (l0 : List Int) (a1 : Int) (a2 : ByteArray) (l3 : List (S48)), (l0.length ≤ maxLen ∧ ∀ y1 ∈ l0, (Lit.int .u8 y1).wf = true) → (Lit.int .i64 a1).wf = true → a2.size ≤ 140737488351232 → (l3.length ≤ maxLen ∧ ∀ y1 ∈ l3, (y1.f0.size ≤ maxLen) ∧ ((Lit.int .i64 y1.f1).wf = true) ∧ (y1.f2.size ≤ maxLen)) → ∃ k, hogsheadlaw5_NarLays.f k l0 a1 a2 l3 = some true

end Go.Proofs.YtfklncdllfhgmaaDoor.P
