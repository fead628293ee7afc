/- Laid by a program of this session (wip/pr), after the printer of the kit: the functions that a statement reaches as plain Lean functions, and that the calls of the machine come to them. No condition. -/
import Derived.Test.YtiamdmlbhmgnjaaDoorPx0
namespace Go.Proofs.YtiamdmlbhmgnjaaDoor.P
open Go.RowKit Go.Proofs.YtiamdmlbhmgnjaaDoorX Go.Proofs.YtiamdmlbhmgnjaaDoorW.PrintWords Go.Proofs.YtiamdmlbhmgnjaaDoorW.PrintLast Go.Proofs.YtiamdmlbhmgnjaaDoorW.PrintMore
attribute [local go_sem] max2_int min2_int max_two min_two
set_option linter.unusedVariables false
set_option linter.unusedSimpArgs false

/-! ### hogsheadref2_dir: function 40 -/
def hogsheadref2_dir.l0 : Nat → List (S37) → ByteArray → Int → Option (Bool)
 | 0, _, _, _ => none
 | k + 1, x0, x1, x5 => if x5 < (x0.length : Int) then (if 0 ≤ x5 then (if ((rd_T37 x0 x5).f0).toList = x1.toList then (if ((rd_T37 x0 x5).f1) = 1 then (some true) else (hogsheadref2_dir.l0 k x0 x1 (wrap64 (x5 + 1)))) else (hogsheadref2_dir.l0 k x0 x1 (wrap64 (x5 + 1)))) else (none)) else (some false)
def hogsheadref2_dir.f (k : Nat) (l0 : List (S37)) (a1 : ByteArray) : Option (Bool) := hogsheadref2_dir.l0 k l0 a1 0
theorem hogsheadref2_dir.mono_l : ∀ k, (∀ y0 y1 y2, LeO (hogsheadref2_dir.l0 k y0 y1 y2) (hogsheadref2_dir.l0 (k + 1) y0 y1 y2))
 | 0 => fun _ _ _ r h => by simp [hogsheadref2_dir.l0] at h
 | k + 1 => by
  have ih0 := hogsheadref2_dir.mono_l k
  ·intro y0 y1 y2
   unfold hogsheadref2_dir.l0
   repeat' with_reducible first | exact ih0 _ _ _ | exact LeO.refl _ | exact LeO.none _ | refine LeO.ite ?_ ?_ | refine LeO.bind ?_ (fun _ => ?_)
theorem hogsheadref2_dir.mono : ∀ a0 a1 k, LeO (hogsheadref2_dir.f k a0 a1) (hogsheadref2_dir.f (k + 1) a0 a1) := by
 intro a0 a1 k; have ih0 := hogsheadref2_dir.mono_l k; unfold hogsheadref2_dir.f
 repeat' with_reducible first | exact ih0 _ _ _ | exact LeO.refl _ | exact LeO.none _ | refine LeO.ite ?_ ?_ | refine LeO.bind ?_ (fun _ => ?_)
set_option maxHeartbeats 8000000 in
set_option maxRecDepth 100000 in
theorem hogsheadref2_dir.calls (k : Nat) (A0 : Option Addr) (c0 : Nat) (l0 : List (S37)) (a1 : ByteArray) (r : Bool) (w : World) (hr0 : Kd.C k37 w A0 l0.length l0) (hc0 : l0.length ≤ c0) (h : hogsheadref2_dir.f k l0 a1 = some r) :
  Calls Tryd.prog 40 #[.slice A0 l0.length c0, .string a1] w fun e w' => e = .returned (.bool r) ∧ Drawn0 w w' := by
 have HR0 := am hr0; have HC0 := am hc0; clear hr0 hc0; have H : (hogsheadref2_dir.l0 k l0 a1 0) = some r := h; clear h; have H' := am H; clear H; go_enter Tryd.func40, Tryd.ntmps40; go_wp2
 go_loopg [5] k (fun kq v5 w' => ∃ (x5_1 : Int), v5 = .int .i64 x5_1 ∧ Aside0 (hogsheadref2_dir.l0 kq l0 a1 x5_1 = some r) ∧ Aside0 (kq ≤ k) ∧ Drawn0 w w')
 case atStart => exact ⟨(0), (by first | rfl | (simp; done) | (simp [*]; done)), H', ⟨Nat.le_refl _⟩, dz⟩
 case round =>
  clear H'; (try clear p2); obtain ⟨x5_1, rfl, HA, HK1, ⟨m1, rfl⟩⟩ := hrel; cases gk with
  | zero => exact absurd HA.out (by simp [hogsheadref2_dir.l0])
  | succ k1 =>
   have H := HA.out; clear HA; simp only [hogsheadref2_dir.l0] at H
   by_cases c3 : x5_1 < (l0.length : Int)
   ·rw [if_pos c3] at H
    have c3b0 : decide (x5_1 < (l0.length : Int)) = true := decide_eq_true c3; clear c3; by_cases c4 : 0 ≤ x5_1
    ·rw [if_pos c4] at H
     have c4b0 : decide (0 ≤ x5_1) = true := decide_eq_true c4; clear c4; by_cases c5 : ((rd_T37 l0 x5_1).f0).toList = a1.toList
     ·rw [if_pos c5] at H
      have c5b0 : (((rd_T37 l0 x5_1).f0).toList == a1.toList) = true := beq_iff_eq.mpr c5; have c5b1 : (((rd_T37 l0 x5_1).f0).toList != a1.toList) = false := bne_eq_false_iff_eq.mpr c5; clear c5; by_cases c6 : ((rd_T37 l0 x5_1).f1) = 1
      ·rw [if_pos c6] at H
       have c6b0 : (((rd_T37 l0 x5_1).f1) == 1) = true := beq_iff_eq.mpr c6; have c6b1 : (((rd_T37 l0 x5_1).f1) != 1) = false := bne_eq_false_iff_eq.mpr c6; clear c6; obtain rfl := Option.some.inj H; have p281 : 0 ≤ (x5_1 : Int) := of_decide_eq_true (by assumption); have q281 : x5_1 < (l0.length : Int) := of_decide_eq_true (by assumption); obtain ⟨ad281, e281, hx281_0, hx281_1, hx281_2⟩ := at_T37 HR0.out x5_1 p281 q281; cases e281; replace p281 := eq_true p281; replace q281 := eq_true q281; have p282 : 0 ≤ (x5_1 : Int) := of_decide_eq_true (by assumption); have q282 : x5_1 < (l0.length : Int) := of_decide_eq_true (by assumption); obtain ⟨ad282, e282, hx282_0, hx282_1, hx282_2⟩ := at_T37 HR0.out x5_1 p282 q282; obtain rfl : ad281 = ad282 := (by injection e282); replace p282 := eq_true p282; replace q282 := eq_true q282; go_wp2
       go_ret; exact ⟨by first | rfl | (simp; done) | (simp [*]; done), dz⟩
      ·rw [if_neg c6] at H
       have c6b0 : (((rd_T37 l0 x5_1).f1) == 1) = false := beq_eq_false_iff_ne.mpr c6; have c6b1 : (((rd_T37 l0 x5_1).f1) != 1) = true := bne_iff_ne.mpr c6; have H' := am H; clear H; have p281 : 0 ≤ (x5_1 : Int) := of_decide_eq_true (by assumption); have q281 : x5_1 < (l0.length : Int) := of_decide_eq_true (by assumption); obtain ⟨ad281, e281, hx281_0, hx281_1, hx281_2⟩ := at_T37 HR0.out x5_1 p281 q281; cases e281; replace p281 := eq_true p281; replace q281 := eq_true q281; have p282 : 0 ≤ (x5_1 : Int) := of_decide_eq_true (by assumption); have q282 : x5_1 < (l0.length : Int) := of_decide_eq_true (by assumption); obtain ⟨ad282, e282, hx282_0, hx282_1, hx282_2⟩ := at_T37 HR0.out x5_1 p282 q282; obtain rfl : ad281 = ad282 := (by injection e282); replace p282 := eq_true p282; replace q282 := eq_true q282; go_wp2
       go_roundg k1
       case measure => have := HK1.out; omega
       case rel => exact ⟨(wrap64 (x5_1 + 1)), (by first | rfl | (simp; done) | (simp [*]; done)), H', ⟨by have := HK1.out; omega⟩, dz⟩
     ·rw [if_neg c5] at H
      have c5b0 : (((rd_T37 l0 x5_1).f0).toList == a1.toList) = false := beq_eq_false_iff_ne.mpr c5; have c5b1 : (((rd_T37 l0 x5_1).f0).toList != a1.toList) = true := bne_iff_ne.mpr c5; have H' := am H; clear H; have p281 : 0 ≤ (x5_1 : Int) := of_decide_eq_true (by assumption); have q281 : x5_1 < (l0.length : Int) := of_decide_eq_true (by assumption); obtain ⟨ad281, e281, hx281_0, hx281_1, hx281_2⟩ := at_T37 HR0.out x5_1 p281 q281; cases e281; replace p281 := eq_true p281; replace q281 := eq_true q281; go_wp2
      go_roundg k1
      case measure => have := HK1.out; omega
      case rel => exact ⟨(wrap64 (x5_1 + 1)), (by first | rfl | (simp; done) | (simp [*]; done)), H', ⟨by have := HK1.out; omega⟩, dz⟩
    ·rw [if_neg c4] at H
     exact absurd H (by simp)
   ·rw [if_neg c3] at H
    have c3b0 : decide (x5_1 < (l0.length : Int)) = false := decide_eq_false c3; clear c3; obtain rfl := Option.some.inj H; go_wp2
    go_ret; exact ⟨by first | rfl | (simp; done) | (simp [*]; done), dz⟩

end Go.Proofs.YtiamdmlbhmgnjaaDoor.P
