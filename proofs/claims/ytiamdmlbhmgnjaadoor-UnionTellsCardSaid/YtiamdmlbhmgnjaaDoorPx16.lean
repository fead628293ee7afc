/- Laid by a program of this session (wip/pr), after the printer of the kit: the functions that a statement reaches as plain Lean functions, and that the calls of the machine come to them. No condition. -/
import Derived.Test.YtiamdmlbhmgnjaaDoorPx0
import Derived.Test.YtiamdmlbhmgnjaaDoorPx15
namespace Go.Proofs.YtiamdmlbhmgnjaaDoor.P
open Go.RowKit Go.Proofs.YtiamdmlbhmgnjaaDoorX Go.Proofs.YtiamdmlbhmgnjaaDoorW.PrintWords Go.Proofs.YtiamdmlbhmgnjaaDoorW.PrintLast Go.Proofs.YtiamdmlbhmgnjaaDoorW.PrintMore
attribute [local go_sem] max2_int min2_int max_two min_two
set_option linter.unusedVariables false
set_option linter.unusedSimpArgs false

/-! ### hogsheadref1_Part: function 55 -/
def hogsheadref1_Part.l0 : Nat → ByteArray → Int → Option (Bool)
 | 0, _, _ => none
 | k + 1, x0, x3 => if x3 < (x0.size : Int) then (if 0 ≤ x3 then (if (bt x0 x3) = 47 then (some false) else (if (bt x0 x3) = 0 then (some false) else (hogsheadref1_Part.l0 k x0 (wrap64 (x3 + 1))))) else (none)) else (if (x0.size : Int) ≥ 1 then (if (x0.size : Int) ≤ 60 then (if x0.toList = ([46] : List UInt8) then (some false) else (if x0.toList = ([46, 46] : List UInt8) then (some false) else (if (x0.size : Int) ≥ 4 then (if 0 ≤ 4 then (if 4 ≤ (x0.size : Int) then (some (!((x0.extract 0 4).toList == ([46, 119, 104, 46] : List UInt8)))) else (none)) else (none)) else (some (!false))))) else (some false)) else (some false))
def hogsheadref1_Part.f (k : Nat) (a0 : ByteArray) : Option (Bool) := hogsheadref1_Part.l0 k a0 0
theorem hogsheadref1_Part.mono_l : ∀ k, (∀ y0 y1, LeO (hogsheadref1_Part.l0 k y0 y1) (hogsheadref1_Part.l0 (k + 1) y0 y1))
 | 0 => fun _ _ r h => by simp [hogsheadref1_Part.l0] at h
 | k + 1 => by
  have ih0 := hogsheadref1_Part.mono_l k
  ·intro y0 y1
   unfold hogsheadref1_Part.l0
   repeat' with_reducible first | exact ih0 _ _ | exact LeO.refl _ | exact LeO.none _ | refine LeO.ite ?_ ?_ | refine LeO.bind ?_ (fun _ => ?_)
theorem hogsheadref1_Part.mono : ∀ a0 k, LeO (hogsheadref1_Part.f k a0) (hogsheadref1_Part.f (k + 1) a0) := by
 intro a0 k; have ih0 := hogsheadref1_Part.mono_l k; unfold hogsheadref1_Part.f
 repeat' with_reducible first | exact ih0 _ _ | exact LeO.refl _ | exact LeO.none _ | refine LeO.ite ?_ ?_ | refine LeO.bind ?_ (fun _ => ?_)
set_option maxHeartbeats 8000000 in
set_option maxRecDepth 100000 in
theorem hogsheadref1_Part.calls (k : Nat) (a0 : ByteArray) (r : Bool) (w : World) (h : hogsheadref1_Part.f k a0 = some r) :
  Calls Tryd.prog 55 #[.string a0] w fun e w' => e = .returned (.bool r) ∧ Drawn0 w w' := by
 have H : (hogsheadref1_Part.l0 k a0 0) = some r := h; clear h; have H' := am H; clear H; go_enter Tryd.func55, Tryd.ntmps55; go_wp2
 go_loopg [3] k (fun kq v3 w' => ∃ (x3_1 : Int), v3 = .int .i64 x3_1 ∧ Aside0 (hogsheadref1_Part.l0 kq a0 x3_1 = some r) ∧ Aside0 (kq ≤ k) ∧ Drawn0 w w')
 case atStart => exact ⟨(0), (by first | rfl | (simp; done) | (simp [*]; done)), H', ⟨Nat.le_refl _⟩, dz⟩
 case round =>
  clear H'; obtain ⟨x3_1, rfl, HA, HK1, ⟨m1, rfl⟩⟩ := hrel; cases gk with
  | zero => exact absurd HA.out (by simp [hogsheadref1_Part.l0])
  | succ k1 =>
   have H := HA.out; clear HA; simp only [hogsheadref1_Part.l0] at H
   by_cases c2 : x3_1 < (a0.size : Int)
   ·rw [if_pos c2] at H
    have c2b0 : decide (x3_1 < (a0.size : Int)) = true := decide_eq_true c2; clear c2; by_cases c3 : 0 ≤ x3_1
    ·rw [if_pos c3] at H
     have c3b0 : decide (0 ≤ x3_1) = true := decide_eq_true c3; clear c3; by_cases c5 : (bt a0 x3_1) = 47
     ·rw [if_pos c5] at H
      have c5b0 : ((bt a0 x3_1) == 47) = true := beq_iff_eq.mpr c5; have c5b1 : ((bt a0 x3_1) != 47) = false := bne_eq_false_iff_eq.mpr c5; clear c5; obtain rfl := Option.some.inj H; have p4 : 0 ≤ (x3_1 : Int) := of_decide_eq_true (by assumption); have q4 : x3_1 < (a0.size : Int) := of_decide_eq_true (by assumption); have hx4 := bt_at a0 x3_1; replace p4 := eq_true p4; replace q4 := eq_true q4; go_wp2
      go_ret; exact ⟨by first | rfl | (simp; done) | (simp [*]; done), dz⟩
     ·rw [if_neg c5] at H
      have c5b0 : ((bt a0 x3_1) == 47) = false := beq_eq_false_iff_ne.mpr c5; have c5b1 : ((bt a0 x3_1) != 47) = true := bne_iff_ne.mpr c5; by_cases c7 : (bt a0 x3_1) = 0
      ·rw [if_pos c7] at H
       have c7b0 : ((bt a0 x3_1) == 0) = true := beq_iff_eq.mpr c7; have c7b1 : ((bt a0 x3_1) != 0) = false := bne_eq_false_iff_eq.mpr c7; clear c7; obtain rfl := Option.some.inj H; have p4 : 0 ≤ (x3_1 : Int) := of_decide_eq_true (by assumption); have q4 : x3_1 < (a0.size : Int) := of_decide_eq_true (by assumption); have hx4 := bt_at a0 x3_1; replace p4 := eq_true p4; replace q4 := eq_true q4; have p6 : 0 ≤ (x3_1 : Int) := of_decide_eq_true (by assumption); have q6 : x3_1 < (a0.size : Int) := of_decide_eq_true (by assumption); have hx6 := bt_at a0 x3_1; replace p6 := eq_true p6; replace q6 := eq_true q6; go_wp2
       go_ret; exact ⟨by first | rfl | (simp; done) | (simp [*]; done), dz⟩
      ·rw [if_neg c7] at H
       have c7b0 : ((bt a0 x3_1) == 0) = false := beq_eq_false_iff_ne.mpr c7; have c7b1 : ((bt a0 x3_1) != 0) = true := bne_iff_ne.mpr c7; have H' := am H; clear H; have p4 : 0 ≤ (x3_1 : Int) := of_decide_eq_true (by assumption); have q4 : x3_1 < (a0.size : Int) := of_decide_eq_true (by assumption); have hx4 := bt_at a0 x3_1; replace p4 := eq_true p4; replace q4 := eq_true q4; have p6 : 0 ≤ (x3_1 : Int) := of_decide_eq_true (by assumption); have q6 : x3_1 < (a0.size : Int) := of_decide_eq_true (by assumption); have hx6 := bt_at a0 x3_1; replace p6 := eq_true p6; replace q6 := eq_true q6; go_wp2
       go_roundg k1
       case measure => have := HK1.out; omega
       case rel => exact ⟨(wrap64 (x3_1 + 1)), (by first | rfl | (simp; done) | (simp [*]; done)), H', ⟨by have := HK1.out; omega⟩, dz⟩
    ·rw [if_neg c3] at H
     exact absurd H (by simp)
   ·rw [if_neg c2] at H
    have c2b0 : decide (x3_1 < (a0.size : Int)) = false := decide_eq_false c2; clear c2; by_cases c8 : (a0.size : Int) ≥ 1
    ·rw [if_pos c8] at H
     have c8b0 : decide (1 ≤ (a0.size : Int)) = true := decide_eq_true c8; have c8b1 : decide (1 ≤ a0.size) = true := decide_eq_true (by omega); clear c8; by_cases c9 : (a0.size : Int) ≤ 60
     ·rw [if_pos c9] at H
      have c9b0 : decide ((a0.size : Int) ≤ 60) = true := decide_eq_true c9; have c9b1 : decide (a0.size ≤ 60) = true := decide_eq_true (by omega); clear c9; by_cases c10 : a0.toList = ([46] : List UInt8)
      ·rw [if_pos c10] at H
       have c10b0 : (a0.toList == ([46] : List UInt8)) = true := beq_iff_eq.mpr c10; have c10b1 : (a0.toList != ([46] : List UInt8)) = false := bne_eq_false_iff_eq.mpr c10; clear c10; obtain rfl := Option.some.inj H; go_wp2
       go_ret; exact ⟨by first | rfl | (simp; done) | (simp [*]; done), dz⟩
      ·rw [if_neg c10] at H
       have c10b0 : (a0.toList == ([46] : List UInt8)) = false := beq_eq_false_iff_ne.mpr c10; have c10b1 : (a0.toList != ([46] : List UInt8)) = true := bne_iff_ne.mpr c10; by_cases c11 : a0.toList = ([46, 46] : List UInt8)
       ·rw [if_pos c11] at H
        have c11b0 : (a0.toList == ([46, 46] : List UInt8)) = true := beq_iff_eq.mpr c11; have c11b1 : (a0.toList != ([46, 46] : List UInt8)) = false := bne_eq_false_iff_eq.mpr c11; clear c11; obtain rfl := Option.some.inj H; go_wp2
        go_ret; exact ⟨by first | rfl | (simp; done) | (simp [*]; done), dz⟩
       ·rw [if_neg c11] at H
        have c11b0 : (a0.toList == ([46, 46] : List UInt8)) = false := beq_eq_false_iff_ne.mpr c11; have c11b1 : (a0.toList != ([46, 46] : List UInt8)) = true := bne_iff_ne.mpr c11; by_cases c12 : (a0.size : Int) ≥ 4
        ·rw [if_pos c12] at H
         have c12b0 : decide (4 ≤ (a0.size : Int)) = true := decide_eq_true c12; have c12b1 : decide (4 ≤ a0.size) = true := decide_eq_true (by omega); clear c12; by_cases c13 : 0 ≤ 4
         ·rw [if_pos c13] at H
          have c13b0 := eq_true c13; have c13b1 : decide (0 ≤ 4) = true := decide_eq_true c13; clear c13; by_cases c14 : 4 ≤ (a0.size : Int)
          ·rw [if_pos c14] at H
           have c14b0 := eq_true c14; have c14b1 : decide (4 ≤ (a0.size : Int)) = true := decide_eq_true c14; clear c14; obtain rfl := Option.some.inj H; go_wp2
           go_ret; exact ⟨by first | rfl | (simp; done) | (simp [*]; done), dz⟩
          ·rw [if_neg c14] at H
           exact absurd H (by simp)
         ·rw [if_neg c13] at H
          exact absurd H (by simp)
        ·rw [if_neg c12] at H
         have c12b0 : decide (4 ≤ (a0.size : Int)) = false := decide_eq_false c12; have c12b1 : decide (4 ≤ a0.size) = false := decide_eq_false (by omega); clear c12; obtain rfl := Option.some.inj H; go_wp2
         go_ret; exact ⟨by first | rfl | (simp; done) | (simp [*]; done), dz⟩
     ·rw [if_neg c9] at H
      have c9b0 : decide ((a0.size : Int) ≤ 60) = false := decide_eq_false c9; have c9b1 : decide (a0.size ≤ 60) = false := decide_eq_false (by omega); clear c9; obtain rfl := Option.some.inj H; go_wp2
      go_ret; exact ⟨by first | rfl | (simp; done) | (simp [*]; done), dz⟩
    ·rw [if_neg c8] at H
     have c8b0 : decide (1 ≤ (a0.size : Int)) = false := decide_eq_false c8; have c8b1 : decide (1 ≤ a0.size) = false := decide_eq_false (by omega); clear c8; obtain rfl := Option.some.inj H; go_wp2
     go_ret; exact ⟨by first | rfl | (simp; done) | (simp [*]; done), dz⟩

/-! ### hogsheadref1_May: function 47 -/
def hogsheadref1_May.l0 : Nat → List ByteArray → Int → Option (Bool)
 | 0, _, _ => none
 | k + 1, x3, x4 => if x4 < (x3.length : Int) then (if 0 ≤ x4 then ((hogsheadref1_Part.f k (rdOf ByteArray.empty x3 x4)).bind fun t260 => (if t260 = true then (hogsheadref1_May.l0 k x3 (wrap64 (x4 + 1))) else (some false))) else (none)) else (some (decide ((x3.length : Int) ≤ 10)))
def hogsheadref1_May.f (k : Nat) (a0 : ByteArray) : Option (Bool) := if a0.toList = ([] : List UInt8) then (some true) else (if (a0.size : Int) > 200 then (some false) else ((hogsheadref1_Cut.f k a0).bind fun t256 => (hogsheadref1_May.l0 k t256 0)))
theorem hogsheadref1_May.mono_l : ∀ k, (∀ y0 y1, LeO (hogsheadref1_May.l0 k y0 y1) (hogsheadref1_May.l0 (k + 1) y0 y1))
 | 0 => fun _ _ r h => by simp [hogsheadref1_May.l0] at h
 | k + 1 => by
  have ih0 := hogsheadref1_May.mono_l k
  ·intro y0 y1
   unfold hogsheadref1_May.l0
   repeat' with_reducible first | exact ih0 _ _ | exact hogsheadref1_Cut.mono _ _ | exact hogsheadref1_Part.mono _ _ | exact LeO.refl _ | exact LeO.none _ | refine LeO.ite ?_ ?_ | refine LeO.bind ?_ (fun _ => ?_)
theorem hogsheadref1_May.mono : ∀ a0 k, LeO (hogsheadref1_May.f k a0) (hogsheadref1_May.f (k + 1) a0) := by
 intro a0 k; have ih0 := hogsheadref1_May.mono_l k; unfold hogsheadref1_May.f
 repeat' with_reducible first | exact ih0 _ _ | exact hogsheadref1_Cut.mono _ _ | exact hogsheadref1_Part.mono _ _ | exact LeO.refl _ | exact LeO.none _ | refine LeO.ite ?_ ?_ | refine LeO.bind ?_ (fun _ => ?_)
set_option maxHeartbeats 8000000 in
set_option maxRecDepth 100000 in
theorem hogsheadref1_May.calls (k : Nat) (a0 : ByteArray) (r : Bool) (w : World) (h : hogsheadref1_May.f k a0 = some r) :
  Calls Tryd.prog 47 #[.string a0] w fun e w' => e = .returned (.bool r) ∧ Below w.heap.size w w' := by
 have HB := am (Below.refl w.heap.size w); have H : (if a0.toList = ([] : List UInt8) then (some true) else (if (a0.size : Int) > 200 then (some false) else ((hogsheadref1_Cut.f k a0).bind fun t256 => (hogsheadref1_May.l0 k t256 0)))) = some r := h; clear h; by_cases c2 : a0.toList = ([] : List UInt8)
 ·rw [if_pos c2] at H
  have c2b0 : (a0.toList == ([] : List UInt8)) = true := beq_iff_eq.mpr c2; have c2b1 : (a0.toList != ([] : List UInt8)) = false := bne_eq_false_iff_eq.mpr c2; clear c2; obtain rfl := Option.some.inj H; go_enter Tryd.func47, Tryd.ntmps47; go_wp2
  go_ret; exact ⟨ez, bz⟩
 ·rw [if_neg c2] at H
  have c2b0 : (a0.toList == ([] : List UInt8)) = false := beq_eq_false_iff_ne.mpr c2; have c2b1 : (a0.toList != ([] : List UInt8)) = true := bne_iff_ne.mpr c2; by_cases c3 : (a0.size : Int) > 200
  ·rw [if_pos c3] at H
   have c3b0 : decide (200 < (a0.size : Int)) = true := decide_eq_true c3; have c3b1 : decide (200 < a0.size) = true := decide_eq_true (by omega); clear c3; obtain rfl := Option.some.inj H; go_enter Tryd.func47, Tryd.ntmps47; go_wp2
   go_ret; exact ⟨ez, bz⟩
  ·rw [if_neg c3] at H
   have c3b0 : decide (200 < (a0.size : Int)) = false := decide_eq_false c3; have c3b1 : decide (200 < a0.size) = false := decide_eq_false (by omega); clear c3; refine oR H ?_; clear H; intro t256 A4 H; have H' := am H; clear H; go_enter Tryd.func47, Tryd.ntmps47; go_wp2_with (first | ((with_reducible refine gate_callee (f := 54) rfl ?_); refine gL (some 11) Tryd.func54 #[.string a0] ?_; (with_reducible refine (hogsheadref1_Cut.calls k a0 t256 _ A4.out).mono ?_); rintro e w5 ⟨v257, rfl, ho0, hb⟩; refine ⟨_, rfl, ?_⟩; have HO258 := am (Kd.R_lower ho0 siz); replace HB := bs hb; (try clear ho0)))
   go_loopg [4] k (fun kq v4 w' => ∃ (x4_1 : Int), v4 = .int .i64 x4_1 ∧ Aside0 (hogsheadref1_May.l0 kq t256 x4_1 = some r) ∧ Aside0 (kq ≤ k) ∧ Aside0 (Kd.R Kd.string 9 w' w.heap.size (fun _ => True) v257 t256) ∧ Aside0 (Below w.heap.size w w'))
   case atStart => exact ⟨(0), (by first | rfl | (simp; done) | (simp [*]; done)), H', ⟨Nat.le_refl _⟩, ⟨rz HO258.out⟩, ⟨bz⟩⟩
   case round =>
    clear H'; (try clear c2); (try clear c2b0); (try clear c2b1); (try clear p2); (try clear c3); (try clear c3b0); (try clear c3b1); (try clear c4); (try clear c5); obtain ⟨x4_1, rfl, HA, HK1, HO_3, HB⟩ := hrel; cases gk with
    | zero => exact absurd HA.out (by simp [hogsheadref1_May.l0])
    | succ k1 =>
     have H := HA.out; clear HA; simp only [hogsheadref1_May.l0] at H
     by_cases c6 : x4_1 < (t256.length : Int)
     ·rw [if_pos c6] at H
      have c6b0 : decide (x4_1 < (t256.length : Int)) = true := decide_eq_true c6; clear c6; by_cases c7 : 0 ≤ x4_1
      ·rw [if_pos c7] at H
       have c7b0 : decide (0 ≤ x4_1) = true := decide_eq_true c7; clear c7; refine oR H ?_; clear H; intro t260 A8 H; by_cases c9 : t260 = true
       ·subst c9
        have H1 : (hogsheadref1_May.l0 k1 t256 (wrap64 (x4_1 + 1))) = some r := by rw [if_pos rfl] at H; exact H
        clear H; have H := H1; clear H1; have H' := am H; clear H; obtain ⟨Ao10, co10, eo10⟩ := Kd.R_slice HO_3.out; subst eo10; have p259 : 0 ≤ (x4_1 : Int) := of_decide_eq_true (by assumption); have q259 : x4_1 < (t256.length : Int) := of_decide_eq_true (by assumption); obtain ⟨ad259, e259, hx259_0⟩ := Kd.at_string (Kd.R_reads' HO_3.out).2.2 x4_1 p259 q259; cases e259; replace p259 := eq_true p259; replace q259 := eq_true q259; go_wp2_with (first | ((with_reducible refine gate_callee (f := 55) rfl ?_); refine gL (some 22) Tryd.func55 #[.string (rdOf ByteArray.empty t256 x4_1)] ?_; (with_reducible refine (hogsheadref1_Part.calls k1 (rdOf ByteArray.empty t256 x4_1) true _ A8.out).mono ?_); rintro e w' ⟨rfl, ⟨nd, rfl⟩⟩; refine ⟨_, rfl, ?_⟩))
        go_roundg k1
        case measure => have := HK1.out; omega
        case rel => exact ⟨(wrap64 (x4_1 + 1)), (by first | rfl | (simp; done) | (simp [*]; done)), H', ⟨by have := HK1.out; omega⟩, ⟨rz HO_3.out⟩, ⟨bz⟩⟩
       ·replace c9 := Bool.eq_false_iff.mpr c9
        subst c9; have H1 : (some false) = some r := by rw [if_neg (show ¬ (false = true) by decide)] at H; exact H
        clear H; have H := H1; clear H1; obtain rfl := Option.some.inj H; obtain ⟨Ao11, co11, eo11⟩ := Kd.R_slice HO_3.out; subst eo11; have p259 : 0 ≤ (x4_1 : Int) := of_decide_eq_true (by assumption); have q259 : x4_1 < (t256.length : Int) := of_decide_eq_true (by assumption); obtain ⟨ad259, e259, hx259_0⟩ := Kd.at_string (Kd.R_reads' HO_3.out).2.2 x4_1 p259 q259; cases e259; replace p259 := eq_true p259; replace q259 := eq_true q259; go_wp2_with (first | ((with_reducible refine gate_callee (f := 55) rfl ?_); refine gL (some 22) Tryd.func55 #[.string (rdOf ByteArray.empty t256 x4_1)] ?_; (with_reducible refine (hogsheadref1_Part.calls k1 (rdOf ByteArray.empty t256 x4_1) false _ A8.out).mono ?_); rintro e w' ⟨rfl, ⟨nd, rfl⟩⟩; refine ⟨_, rfl, ?_⟩))
        go_ret; exact ⟨ez, bz⟩
      ·rw [if_neg c7] at H
       exact absurd H (by simp)
     ·rw [if_neg c6] at H
      have c6b0 : decide (x4_1 < (t256.length : Int)) = false := decide_eq_false c6; clear c6; obtain rfl := Option.some.inj H; obtain ⟨Ao12, co12, eo12⟩ := Kd.R_slice HO_3.out; subst eo12; go_wp2
      go_ret; exact ⟨ez, bz⟩

end Go.Proofs.YtiamdmlbhmgnjaaDoor.P
