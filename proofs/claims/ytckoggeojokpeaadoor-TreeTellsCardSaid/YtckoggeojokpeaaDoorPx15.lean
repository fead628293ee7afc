/- Laid by a program of this session (wip/pr), after the printer of the kit: the functions that a statement reaches as plain Lean functions, and that the calls of the machine come to them. No condition. -/
import Derived.Test.YtckoggeojokpeaaDoorPx0
import Derived.Test.YtckoggeojokpeaaDoorPx14
namespace Go.Proofs.YtckoggeojokpeaaDoor.P
open Go.RowKit Go.Proofs.YtckoggeojokpeaaDoorX Go.Proofs.YtckoggeojokpeaaDoorW.PrintWords Go.Proofs.YtckoggeojokpeaaDoorW.PrintLast Go.Proofs.YtckoggeojokpeaaDoorW.PrintMore
attribute [local go_sem] max2_int min2_int max_two min_two
set_option linter.unusedVariables false
set_option linter.unusedSimpArgs false

/-! ### hogsheadref1_May: function 33 -/
def hogsheadref1_May.l0 : Nat → List ByteArray → Int → Option (Bool)
 | 0, _, _ => none
 | k + 1, x3, x4 => if x4 < (x3.length : Int) then (if 0 ≤ x4 then ((hogsheadref1_Part.f k (rdOf ByteArray.empty x3 x4)).bind fun t245 => (if t245 = true then (hogsheadref1_May.l0 k x3 (wrap64 (x4 + 1))) else (some false))) else (none)) else (some (decide ((x3.length : Int) ≤ 10)))
def hogsheadref1_May.f (k : Nat) (a0 : ByteArray) : Option (Bool) := if a0.toList = ([] : List UInt8) then (some true) else (if (a0.size : Int) > 200 then (some false) else ((hogsheadref1_Cut.f k a0).bind fun t241 => (hogsheadref1_May.l0 k t241 0)))
theorem hogsheadref1_May.mono_l : ∀ k, (∀ y0 y1, LeO (hogsheadref1_May.l0 k y0 y1) (hogsheadref1_May.l0 (k + 1) y0 y1))
 | 0 => fun _ _ r h => by simp [hogsheadref1_May.l0] at h
 | k + 1 => by
  have ih0 := hogsheadref1_May.mono_l k
  ·intro y0 y1
   unfold hogsheadref1_May.l0
   repeat' first
   | (with_reducible exact ih0 _ _)
   | (with_reducible exact hogsheadref1_Cut.mono _ _)
   | (with_reducible exact hogsheadref1_Part.mono _ _)
   | (with_reducible exact LeO.refl _)
   | (with_reducible exact LeO.none _)
   | (with_reducible refine LeO.ite ?_ ?_)
   | (with_reducible refine LeO.bind ?_ (fun _ => ?_))
theorem hogsheadref1_May.mono : ∀ a0 k, LeO (hogsheadref1_May.f k a0) (hogsheadref1_May.f (k + 1) a0) := by
 intro a0 k; have ih0 := hogsheadref1_May.mono_l k; unfold hogsheadref1_May.f
 repeat' first
   | (with_reducible exact ih0 _ _)
   | (with_reducible exact hogsheadref1_Cut.mono _ _)
   | (with_reducible exact hogsheadref1_Part.mono _ _)
   | (with_reducible exact LeO.refl _)
   | (with_reducible exact LeO.none _)
   | (with_reducible refine LeO.ite ?_ ?_)
   | (with_reducible refine LeO.bind ?_ (fun _ => ?_))
set_option maxHeartbeats 8000000 in
set_option maxRecDepth 100000 in
theorem hogsheadref1_May.calls (k : Nat) (a0 : ByteArray) (r : Bool) (w : World) (h : hogsheadref1_May.f k a0 = some r) :
  Calls Tryd.prog 33 #[.string a0] w fun e w' => e = .returned (.bool r) ∧ Below w.heap.size w w' := by
 have HB := am (Below.refl w.heap.size w); have H : (if a0.toList = ([] : List UInt8) then (some true) else (if (a0.size : Int) > 200 then (some false) else ((hogsheadref1_Cut.f k a0).bind fun t241 => (hogsheadref1_May.l0 k t241 0)))) = some r := h; clear h; by_cases c2 : a0.toList = ([] : List UInt8)
 ·rw [if_pos c2] at H
  have c2b0 : (a0.toList == ([] : List UInt8)) = true := beq_iff_eq.mpr c2; have c2b1 : (a0.toList != ([] : List UInt8)) = false := bne_eq_false_iff_eq.mpr c2; clear c2; obtain rfl := Option.some.inj H; go_enter Tryd.func33, Tryd.ntmps33; go_wp2
  go_ret; exact ⟨by first | rfl | (simp [eN, eS] <;> rfl) | (simp [*, eN, eS] <;> rfl), by repeat (first | (with_reducible first | exact HB.out | apply bA | apply bN | apply bO) | exact HB.out)⟩
 ·rw [if_neg c2] at H
  have c2b0 : (a0.toList == ([] : List UInt8)) = false := beq_eq_false_iff_ne.mpr c2; have c2b1 : (a0.toList != ([] : List UInt8)) = true := bne_iff_ne.mpr c2; by_cases c3 : (a0.size : Int) > 200
  ·rw [if_pos c3] at H
   have c3b0 : decide (200 < (a0.size : Int)) = true := decide_eq_true c3; have c3b1 : decide (200 < a0.size) = true := decide_eq_true (by omega); clear c3; obtain rfl := Option.some.inj H; go_enter Tryd.func33, Tryd.ntmps33; go_wp2
   go_ret; exact ⟨by first | rfl | (simp [eN, eS] <;> rfl) | (simp [*, eN, eS] <;> rfl), by repeat (first | (with_reducible first | exact HB.out | apply bA | apply bN | apply bO) | exact HB.out)⟩
  ·rw [if_neg c3] at H
   have c3b0 : decide (200 < (a0.size : Int)) = false := decide_eq_false c3; have c3b1 : decide (200 < a0.size) = false := decide_eq_false (by omega); clear c3; replace H := oB H; obtain ⟨t241, A40, H⟩ := H; replace H : (hogsheadref1_May.l0 k t241 0) = some r := H; have A4 := am A40; clear A40; have H' := am H; clear H; go_enter Tryd.func33, Tryd.ntmps33; go_wp2_with (first | ((with_reducible refine gate_callee (f := 42) rfl ?_); refine goesL_ (some 11) rfl rfl Tryd.func42 (by kernel_rfl) rfl #[.string a0] rfl (by (try simp only [mT, mC, mN]); first | done | rfl | (simp only [lD, lT]; rfl)) ?_; (with_reducible refine (hogsheadref1_Cut.calls k a0 t241 _ A4.out).mono ?_); rintro e w5 ⟨v242, rfl, ho0, hb⟩; refine ⟨_, rfl, ?_⟩; have n0_ := am (Kd.R_lower ho0 (below_size (by repeat (first | (with_reducible first | exact HB.out | apply bA | apply bN | apply bO) | exact HB.out)))); have n1_ := am (below_step (by repeat (first | (with_reducible first | exact HB.out | apply bA | apply bN | apply bO) | exact HB.out)) hb); clear HB; have HO243 := n0_; have HB := n1_; clear n0_ n1_; (try clear ho0)))
   go_loopg [4] k (fun kq v4 w' => ∃ (x4_1 : Int), v4 = .int .i64 x4_1 ∧ Aside0 (hogsheadref1_May.l0 kq t241 x4_1 = some r) ∧ Aside0 (kq ≤ k) ∧ Aside0 (Kd.R Kd.string 9 w' w.heap.size (fun _ => True) v242 t241) ∧ Aside0 (Below w.heap.size w w'))
   case atStart => exact ⟨(0), (by first | rfl | (simp; done) | (simp [*]; done)), H', ⟨Nat.le_refl _⟩, ⟨by (with_reducible repeat (first | apply rA | apply rN | apply rD)); exact HO243.out⟩, ⟨by repeat (first | (with_reducible first | exact HB.out | apply bA | apply bN | apply bO) | exact HB.out)⟩⟩
   case round =>
    clear H'; (try clear c2); (try clear c2b0); (try clear c2b1); (try clear p2); (try clear c3); (try clear c3b0); (try clear c3b1); (try clear c4); obtain ⟨x4_1, rfl, HA, HK1, HO_3, HB⟩ := hrel; cases gk with
    | zero => exact absurd HA.out (by simp [hogsheadref1_May.l0])
    | succ k1 =>
     have H := HA.out; clear HA; simp only [hogsheadref1_May.l0] at H
     by_cases c6 : x4_1 < (t241.length : Int)
     ·rw [if_pos c6] at H
      have c6b0 : decide (x4_1 < (t241.length : Int)) = true := decide_eq_true c6; clear c6; by_cases c7 : 0 ≤ x4_1
      ·rw [if_pos c7] at H
       have c7b0 : decide (0 ≤ x4_1) = true := decide_eq_true c7; clear c7; replace H := oB H; obtain ⟨t245, A80, H⟩ := H; replace H : (if t245 = true then (hogsheadref1_May.l0 k1 t241 (wrap64 (x4_1 + 1))) else (some false)) = some r := H; have A8 := am A80; clear A80; by_cases c9 : t245 = true
       ·subst c9
        have H1 : (hogsheadref1_May.l0 k1 t241 (wrap64 (x4_1 + 1))) = some r := by rw [if_pos rfl] at H; exact H
        clear H; have H := H1; clear H1; have H' := am H; clear H; obtain ⟨Ao10, co10, eo10⟩ := Kd.R_slice HO_3.out; subst eo10; have p244 : 0 ≤ (x4_1 : Int) := of_decide_eq_true (by assumption); have q244 : x4_1 < (t241.length : Int) := of_decide_eq_true (by assumption); obtain ⟨ad244, e244, hx244_0⟩ := Kd.at_string (Kd.R_reads' HO_3.out).2.2 x4_1 p244 q244; cases e244; replace p244 := eq_true p244; replace q244 := eq_true q244; go_wp2_with (first | ((with_reducible refine gate_callee (f := 43) rfl ?_); refine goesL_ (some 22) rfl rfl Tryd.func43 (by kernel_rfl) rfl #[.string (rdOf ByteArray.empty t241 x4_1)] rfl (by (try simp only [mT, mC, mN]); first | done | rfl | (simp only [lD, lT]; rfl)) ?_; (with_reducible refine (hogsheadref1_Part.calls k1 (rdOf ByteArray.empty t241 x4_1) true _ A8.out).mono ?_); rintro e w' ⟨rfl, ⟨nd, rfl⟩⟩; refine ⟨_, rfl, ?_⟩))
        go_roundg k1
        case measure => have := HK1.out; omega
        case rel => exact ⟨(wrap64 (x4_1 + 1)), (by first | rfl | (simp; done) | (simp [*]; done)), H', ⟨by have := HK1.out; omega⟩, ⟨by (with_reducible repeat (first | apply rA | apply rN | apply rD)); exact HO_3.out⟩, ⟨by repeat (first | (with_reducible first | exact HB.out | apply bA | apply bN | apply bO) | exact HB.out)⟩⟩
       ·replace c9 := Bool.eq_false_iff.mpr c9
        subst c9; have H1 : (some false) = some r := by rw [if_neg (show ¬ (false = true) by decide)] at H; exact H
        clear H; have H := H1; clear H1; obtain rfl := Option.some.inj H; obtain ⟨Ao11, co11, eo11⟩ := Kd.R_slice HO_3.out; subst eo11; have p244 : 0 ≤ (x4_1 : Int) := of_decide_eq_true (by assumption); have q244 : x4_1 < (t241.length : Int) := of_decide_eq_true (by assumption); obtain ⟨ad244, e244, hx244_0⟩ := Kd.at_string (Kd.R_reads' HO_3.out).2.2 x4_1 p244 q244; cases e244; replace p244 := eq_true p244; replace q244 := eq_true q244; go_wp2_with (first | ((with_reducible refine gate_callee (f := 43) rfl ?_); refine goesL_ (some 22) rfl rfl Tryd.func43 (by kernel_rfl) rfl #[.string (rdOf ByteArray.empty t241 x4_1)] rfl (by (try simp only [mT, mC, mN]); first | done | rfl | (simp only [lD, lT]; rfl)) ?_; (with_reducible refine (hogsheadref1_Part.calls k1 (rdOf ByteArray.empty t241 x4_1) false _ A8.out).mono ?_); rintro e w' ⟨rfl, ⟨nd, rfl⟩⟩; refine ⟨_, rfl, ?_⟩))
        go_ret; exact ⟨by first | rfl | (simp [eN, eS] <;> rfl) | (simp [*, eN, eS] <;> rfl), by repeat (first | (with_reducible first | exact HB.out | apply bA | apply bN | apply bO) | exact HB.out)⟩
      ·rw [if_neg c7] at H
       exact absurd H (by simp)
     ·rw [if_neg c6] at H
      have c6b0 : decide (x4_1 < (t241.length : Int)) = false := decide_eq_false c6; clear c6; obtain rfl := Option.some.inj H; obtain ⟨Ao12, co12, eo12⟩ := Kd.R_slice HO_3.out; subst eo12; go_wp2
      go_ret; exact ⟨by first | rfl | (simp [eN, eS] <;> rfl) | (simp [*, eN, eS] <;> rfl), by repeat (first | (with_reducible first | exact HB.out | apply bA | apply bN | apply bO) | exact HB.out)⟩

end Go.Proofs.YtckoggeojokpeaaDoor.P
