/- Laid by a program of this session (wip/pr), after the printer of the kit: the functions that a statement reaches as plain Lean functions, and that the calls of the machine come to them. No condition. -/
import Derived.Test.YtiamdmlbhmgnjaaDoorPx0
namespace Go.Proofs.YtiamdmlbhmgnjaaDoor.P
open Go.RowKit Go.Proofs.YtiamdmlbhmgnjaaDoorX Go.Proofs.YtiamdmlbhmgnjaaDoorW.PrintWords Go.Proofs.YtiamdmlbhmgnjaaDoorW.PrintLast Go.Proofs.YtiamdmlbhmgnjaaDoorW.PrintMore
attribute [local go_sem] max2_int min2_int max_two min_two
set_option linter.unusedVariables false
set_option linter.unusedSimpArgs false

/-! ### hogsheadref4_at: function 21 -/
def hogsheadref4_at.l0 : Nat → List (S37) → ByteArray → Int → Option (Int)
 | 0, _, _, _ => none
 | k + 1, x0, x1, x5 => if x5 < (x0.length : Int) then (if 0 ≤ x5 then (if ((rd_T37 x0 x5).f0).toList = x1.toList then (some x5) else (hogsheadref4_at.l0 k x0 x1 (wrap64 (x5 + 1)))) else (none)) else (some (-1))
def hogsheadref4_at.f (k : Nat) (l0 : List (S37)) (a1 : ByteArray) : Option (Int) := hogsheadref4_at.l0 k l0 a1 0
theorem hogsheadref4_at.mono_l : ∀ k, (∀ y0 y1 y2, LeO (hogsheadref4_at.l0 k y0 y1 y2) (hogsheadref4_at.l0 (k + 1) y0 y1 y2))
 | 0 => fun _ _ _ r h => by simp [hogsheadref4_at.l0] at h
 | k + 1 => by
  have ih0 := hogsheadref4_at.mono_l k
  ·intro y0 y1 y2
   unfold hogsheadref4_at.l0
   repeat' with_reducible first | exact ih0 _ _ _ | exact LeO.refl _ | exact LeO.none _ | refine LeO.ite ?_ ?_ | refine LeO.bind ?_ (fun _ => ?_)
theorem hogsheadref4_at.mono : ∀ a0 a1 k, LeO (hogsheadref4_at.f k a0 a1) (hogsheadref4_at.f (k + 1) a0 a1) := by
 intro a0 a1 k; have ih0 := hogsheadref4_at.mono_l k; unfold hogsheadref4_at.f
 repeat' with_reducible first | exact ih0 _ _ _ | exact LeO.refl _ | exact LeO.none _ | refine LeO.ite ?_ ?_ | refine LeO.bind ?_ (fun _ => ?_)
set_option maxHeartbeats 8000000 in
set_option maxRecDepth 100000 in
theorem hogsheadref4_at.calls (k : Nat) (A0 : Option Addr) (c0 : Nat) (l0 : List (S37)) (a1 : ByteArray) (r : Int) (w : World) (hr0 : Kd.C k37 w A0 l0.length l0) (hc0 : l0.length ≤ c0) (h : hogsheadref4_at.f k l0 a1 = some r) :
  Calls Tryd.prog 21 #[.slice A0 l0.length c0, .string a1] w fun e w' => e = .returned (.int .i64 r) ∧ Drawn0 w w' := by
 have HR0 := am hr0; have HC0 := am hc0; clear hr0 hc0; have H : (hogsheadref4_at.l0 k l0 a1 0) = some r := h; clear h; have H' := am H; clear H; go_enter Tryd.func21, Tryd.ntmps21; go_wp2
 go_loopg [5] k (fun kq v5 w' => ∃ (x5_1 : Int), v5 = .int .i64 x5_1 ∧ Aside0 (hogsheadref4_at.l0 kq l0 a1 x5_1 = some r) ∧ Aside0 (kq ≤ k) ∧ Drawn0 w w')
 case atStart => exact ⟨(0), (by first | rfl | (simp; done) | (simp [*]; done)), H', ⟨Nat.le_refl _⟩, dz⟩
 case round =>
  clear H'; (try clear c2); (try clear p2); obtain ⟨x5_1, rfl, HA, HK1, ⟨m1, rfl⟩⟩ := hrel; cases gk with
  | zero => exact absurd HA.out (by simp [hogsheadref4_at.l0])
  | succ k1 =>
   have H := HA.out; clear HA; simp only [hogsheadref4_at.l0] at H
   by_cases c3 : x5_1 < (l0.length : Int)
   ·rw [if_pos c3] at H
    have c3b0 : decide (x5_1 < (l0.length : Int)) = true := decide_eq_true c3; clear c3; by_cases c4 : 0 ≤ x5_1
    ·rw [if_pos c4] at H
     have c4b0 : decide (0 ≤ x5_1) = true := decide_eq_true c4; clear c4; by_cases c5 : ((rd_T37 l0 x5_1).f0).toList = a1.toList
     ·rw [if_pos c5] at H
      have c5b0 : (((rd_T37 l0 x5_1).f0).toList == a1.toList) = true := beq_iff_eq.mpr c5; have c5b1 : (((rd_T37 l0 x5_1).f0).toList != a1.toList) = false := bne_eq_false_iff_eq.mpr c5; clear c5; obtain rfl := Option.some.inj H; have p297 : 0 ≤ (x5_1 : Int) := of_decide_eq_true (by assumption); have q297 : x5_1 < (l0.length : Int) := of_decide_eq_true (by assumption); obtain ⟨ad297, e297, hx297_0, hx297_1, hx297_2⟩ := at_T37 HR0.out x5_1 p297 q297; cases e297; replace p297 := eq_true p297; replace q297 := eq_true q297; go_wp2
      go_ret; exact ⟨by first | rfl | (simp; done) | (simp [*]; done), dz⟩
     ·rw [if_neg c5] at H
      have c5b0 : (((rd_T37 l0 x5_1).f0).toList == a1.toList) = false := beq_eq_false_iff_ne.mpr c5; have c5b1 : (((rd_T37 l0 x5_1).f0).toList != a1.toList) = true := bne_iff_ne.mpr c5; have H' := am H; clear H; have p297 : 0 ≤ (x5_1 : Int) := of_decide_eq_true (by assumption); have q297 : x5_1 < (l0.length : Int) := of_decide_eq_true (by assumption); obtain ⟨ad297, e297, hx297_0, hx297_1, hx297_2⟩ := at_T37 HR0.out x5_1 p297 q297; cases e297; replace p297 := eq_true p297; replace q297 := eq_true q297; go_wp2
      go_roundg k1
      case measure => have := HK1.out; omega
      case rel => exact ⟨(wrap64 (x5_1 + 1)), (by first | rfl | (simp; done) | (simp [*]; done)), H', ⟨by have := HK1.out; omega⟩, dz⟩
    ·rw [if_neg c4] at H
     exact absurd H (by simp)
   ·rw [if_neg c3] at H
    have c3b0 : decide (x5_1 < (l0.length : Int)) = false := decide_eq_false c3; clear c3; obtain rfl := Option.some.inj H; go_wp2
    go_ret; exact ⟨by first | rfl | (simp; done) | (simp [*]; done), dz⟩

/-! ### hogsheadref4_blocked: function 22 -/
def hogsheadref4_blocked.l0 : Nat → List (S37) → ByteArray → Int → Option (Bool)
 | 0, _, _, _ => none
 | k + 1, x0, x1, x5 => if x5 < (x0.length : Int) then (if 0 ≤ x5 then (if ((rd_T37 x0 x5).f1) = 1 then (hogsheadref4_blocked.l0 k x0 x1 (wrap64 (x5 + 1))) else (if (x1.size : Int) > (((rd_T37 x0 x5).f0).size : Int) then (if 0 ≤ (((rd_T37 x0 x5).f0).size : Int) then (if (((rd_T37 x0 x5).f0).size : Int) ≤ (x1.size : Int) then (if (x1.extract 0 ((((rd_T37 x0 x5).f0).size : Int) : Int).toNat).toList = ((rd_T37 x0 x5).f0).toList then (if (((rd_T37 x0 x5).f0).size : Int) < (x1.size : Int) then (if (bt x1 (((rd_T37 x0 x5).f0).size : Int)) = 47 then (some true) else (hogsheadref4_blocked.l0 k x0 x1 (wrap64 (x5 + 1)))) else (none)) else (hogsheadref4_blocked.l0 k x0 x1 (wrap64 (x5 + 1)))) else (none)) else (none)) else (hogsheadref4_blocked.l0 k x0 x1 (wrap64 (x5 + 1))))) else (none)) else (some false)
def hogsheadref4_blocked.f (k : Nat) (l0 : List (S37)) (a1 : ByteArray) : Option (Bool) := hogsheadref4_blocked.l0 k l0 a1 0
theorem hogsheadref4_blocked.mono_l : ∀ k, (∀ y0 y1 y2, LeO (hogsheadref4_blocked.l0 k y0 y1 y2) (hogsheadref4_blocked.l0 (k + 1) y0 y1 y2))
 | 0 => fun _ _ _ r h => by simp [hogsheadref4_blocked.l0] at h
 | k + 1 => by
  have ih0 := hogsheadref4_blocked.mono_l k
  ·intro y0 y1 y2
   unfold hogsheadref4_blocked.l0
   repeat' with_reducible first | exact ih0 _ _ _ | exact LeO.refl _ | exact LeO.none _ | refine LeO.ite ?_ ?_ | refine LeO.bind ?_ (fun _ => ?_)
theorem hogsheadref4_blocked.mono : ∀ a0 a1 k, LeO (hogsheadref4_blocked.f k a0 a1) (hogsheadref4_blocked.f (k + 1) a0 a1) := by
 intro a0 a1 k; have ih0 := hogsheadref4_blocked.mono_l k; unfold hogsheadref4_blocked.f
 repeat' with_reducible first | exact ih0 _ _ _ | exact LeO.refl _ | exact LeO.none _ | refine LeO.ite ?_ ?_ | refine LeO.bind ?_ (fun _ => ?_)
set_option maxHeartbeats 8000000 in
set_option maxRecDepth 100000 in
theorem hogsheadref4_blocked.calls (k : Nat) (A0 : Option Addr) (c0 : Nat) (l0 : List (S37)) (a1 : ByteArray) (r : Bool) (w : World) (hr0 : Kd.C k37 w A0 l0.length l0) (hc0 : l0.length ≤ c0) (h : hogsheadref4_blocked.f k l0 a1 = some r) :
  Calls Tryd.prog 22 #[.slice A0 l0.length c0, .string a1] w fun e w' => e = .returned (.bool r) ∧ Drawn0 w w' := by
 have HR0 := am hr0; have HC0 := am hc0; clear hr0 hc0; have H : (hogsheadref4_blocked.l0 k l0 a1 0) = some r := h; clear h; have H' := am H; clear H; go_enter Tryd.func22, Tryd.ntmps22; go_wp2
 go_loopg [5] k (fun kq v5 w' => ∃ (x5_1 : Int), v5 = .int .i64 x5_1 ∧ Aside0 (hogsheadref4_blocked.l0 kq l0 a1 x5_1 = some r) ∧ Aside0 (kq ≤ k) ∧ Drawn0 w w')
 case atStart => exact ⟨(0), (by first | rfl | (simp; done) | (simp [*]; done)), H', ⟨Nat.le_refl _⟩, dz⟩
 case round =>
  clear H'; (try clear c2); (try clear p2); obtain ⟨x5_1, rfl, HA, HK1, ⟨m1, rfl⟩⟩ := hrel; cases gk with
  | zero => exact absurd HA.out (by simp [hogsheadref4_blocked.l0])
  | succ k1 =>
   have H := HA.out; clear HA; simp only [hogsheadref4_blocked.l0] at H
   by_cases c3 : x5_1 < (l0.length : Int)
   ·rw [if_pos c3] at H
    have c3b0 : decide (x5_1 < (l0.length : Int)) = true := decide_eq_true c3; clear c3; by_cases c4 : 0 ≤ x5_1
    ·rw [if_pos c4] at H
     have c4b0 : decide (0 ≤ x5_1) = true := decide_eq_true c4; clear c4; by_cases c5 : ((rd_T37 l0 x5_1).f1) = 1
     ·rw [if_pos c5] at H
      have c5b0 : (((rd_T37 l0 x5_1).f1) == 1) = true := beq_iff_eq.mpr c5; have c5b1 : (((rd_T37 l0 x5_1).f1) != 1) = false := bne_eq_false_iff_eq.mpr c5; clear c5; have H' := am H; clear H; have p298 : 0 ≤ (x5_1 : Int) := of_decide_eq_true (by assumption); have q298 : x5_1 < (l0.length : Int) := of_decide_eq_true (by assumption); obtain ⟨ad298, e298, hx298_0, hx298_1, hx298_2⟩ := at_T37 HR0.out x5_1 p298 q298; cases e298; replace p298 := eq_true p298; replace q298 := eq_true q298; have p299 : 0 ≤ (x5_1 : Int) := of_decide_eq_true (by assumption); have q299 : x5_1 < (l0.length : Int) := of_decide_eq_true (by assumption); obtain ⟨ad299, e299, hx299_0, hx299_1, hx299_2⟩ := at_T37 HR0.out x5_1 p299 q299; obtain rfl : ad298 = ad299 := (by injection e299); replace p299 := eq_true p299; replace q299 := eq_true q299; go_wp2
      go_roundg k1
      case measure => have := HK1.out; omega
      case rel => exact ⟨(wrap64 (x5_1 + 1)), (by first | rfl | (simp; done) | (simp [*]; done)), H', ⟨by have := HK1.out; omega⟩, dz⟩
     ·rw [if_neg c5] at H
      have c5b0 : (((rd_T37 l0 x5_1).f1) == 1) = false := beq_eq_false_iff_ne.mpr c5; have c5b1 : (((rd_T37 l0 x5_1).f1) != 1) = true := bne_iff_ne.mpr c5; by_cases c6 : (a1.size : Int) > (((rd_T37 l0 x5_1).f0).size : Int)
      ·rw [if_pos c6] at H
       have c6b0 : decide ((((rd_T37 l0 x5_1).f0).size : Int) < (a1.size : Int)) = true := decide_eq_true c6; have c6b1 : decide (((rd_T37 l0 x5_1).f0).size < a1.size) = true := decide_eq_true (Int.ofNat_lt.mp c6); clear c6; by_cases c7 : 0 ≤ (((rd_T37 l0 x5_1).f0).size : Int)
       ·rw [if_pos c7] at H
        have c7b0 := eq_true c7; have c7b1 : decide (0 ≤ (((rd_T37 l0 x5_1).f0).size : Int)) = true := decide_eq_true c7; clear c7; by_cases c8 : (((rd_T37 l0 x5_1).f0).size : Int) ≤ (a1.size : Int)
        ·rw [if_pos c8] at H
         have c8b0 := eq_true c8; have c8b1 : decide ((((rd_T37 l0 x5_1).f0).size : Int) ≤ (a1.size : Int)) = true := decide_eq_true c8; clear c8; by_cases c9 : (a1.extract 0 ((((rd_T37 l0 x5_1).f0).size : Int) : Int).toNat).toList = ((rd_T37 l0 x5_1).f0).toList
         ·rw [if_pos c9] at H
          have c9b0 : ((a1.extract 0 ((((rd_T37 l0 x5_1).f0).size : Int) : Int).toNat).toList == ((rd_T37 l0 x5_1).f0).toList) = true := beq_iff_eq.mpr c9; have c9b5 : ((a1.extract 0 ((rd_T37 l0 x5_1).f0).size).toList == ((rd_T37 l0 x5_1).f0).toList) = true := beq_iff_eq.mpr c9; have c9b1 : ((a1.extract 0 ((((rd_T37 l0 x5_1).f0).size : Int) : Int).toNat).toList != ((rd_T37 l0 x5_1).f0).toList) = false := bne_eq_false_iff_eq.mpr c9; have c9b6 : ((a1.extract 0 ((rd_T37 l0 x5_1).f0).size).toList != ((rd_T37 l0 x5_1).f0).toList) = false := bne_eq_false_iff_eq.mpr c9; clear c9; by_cases c10 : (((rd_T37 l0 x5_1).f0).size : Int) < (a1.size : Int)
          ·rw [if_pos c10] at H
           have c10b0 : decide ((((rd_T37 l0 x5_1).f0).size : Int) < (a1.size : Int)) = true := decide_eq_true c10; have c10b1 : decide (((rd_T37 l0 x5_1).f0).size < a1.size) = true := decide_eq_true (Int.ofNat_lt.mp c10); clear c10; by_cases c12 : (bt a1 (((rd_T37 l0 x5_1).f0).size : Int)) = 47
           ·rw [if_pos c12] at H
            have c12b0 : ((bt a1 (((rd_T37 l0 x5_1).f0).size : Int)) == 47) = true := beq_iff_eq.mpr c12; have c12b1 : ((bt a1 (((rd_T37 l0 x5_1).f0).size : Int)) != 47) = false := bne_eq_false_iff_eq.mpr c12; clear c12; obtain rfl := Option.some.inj H; have p298 : 0 ≤ (x5_1 : Int) := of_decide_eq_true (by assumption); have q298 : x5_1 < (l0.length : Int) := of_decide_eq_true (by assumption); obtain ⟨ad298, e298, hx298_0, hx298_1, hx298_2⟩ := at_T37 HR0.out x5_1 p298 q298; cases e298; replace p298 := eq_true p298; replace q298 := eq_true q298; have p299 : 0 ≤ (x5_1 : Int) := of_decide_eq_true (by assumption); have q299 : x5_1 < (l0.length : Int) := of_decide_eq_true (by assumption); obtain ⟨ad299, e299, hx299_0, hx299_1, hx299_2⟩ := at_T37 HR0.out x5_1 p299 q299; obtain rfl : ad298 = ad299 := (by injection e299); replace p299 := eq_true p299; replace q299 := eq_true q299; have p11 : 0 ≤ ((((rd_T37 l0 x5_1).f0).size : Int) : Int) := of_decide_eq_true (by assumption); have q11 : (((rd_T37 l0 x5_1).f0).size : Int) < (a1.size : Int) := of_decide_eq_true (by assumption); have hx11 := bt_at a1 (((rd_T37 l0 x5_1).f0).size : Int); have hxn11 : ∀ h : ((rd_T37 l0 x5_1).f0).size < a1.size, ((a1[((rd_T37 l0 x5_1).f0).size]'h).toNat : Int) = bt a1 (((rd_T37 l0 x5_1).f0).size : Int) := fun h => bt_at a1 (((rd_T37 l0 x5_1).f0).size : Int) (by simpa using h)
            replace p11 := eq_true p11; replace q11 := eq_true q11; go_wp2
            go_ret; exact ⟨by first | rfl | (simp; done) | (simp [*]; done), dz⟩
           ·rw [if_neg c12] at H
            have c12b0 : ((bt a1 (((rd_T37 l0 x5_1).f0).size : Int)) == 47) = false := beq_eq_false_iff_ne.mpr c12; have c12b1 : ((bt a1 (((rd_T37 l0 x5_1).f0).size : Int)) != 47) = true := bne_iff_ne.mpr c12; have H' := am H; clear H; have p298 : 0 ≤ (x5_1 : Int) := of_decide_eq_true (by assumption); have q298 : x5_1 < (l0.length : Int) := of_decide_eq_true (by assumption); obtain ⟨ad298, e298, hx298_0, hx298_1, hx298_2⟩ := at_T37 HR0.out x5_1 p298 q298; cases e298; replace p298 := eq_true p298; replace q298 := eq_true q298; have p299 : 0 ≤ (x5_1 : Int) := of_decide_eq_true (by assumption); have q299 : x5_1 < (l0.length : Int) := of_decide_eq_true (by assumption); obtain ⟨ad299, e299, hx299_0, hx299_1, hx299_2⟩ := at_T37 HR0.out x5_1 p299 q299; obtain rfl : ad298 = ad299 := (by injection e299); replace p299 := eq_true p299; replace q299 := eq_true q299; have p11 : 0 ≤ ((((rd_T37 l0 x5_1).f0).size : Int) : Int) := of_decide_eq_true (by assumption); have q11 : (((rd_T37 l0 x5_1).f0).size : Int) < (a1.size : Int) := of_decide_eq_true (by assumption); have hx11 := bt_at a1 (((rd_T37 l0 x5_1).f0).size : Int); have hxn11 : ∀ h : ((rd_T37 l0 x5_1).f0).size < a1.size, ((a1[((rd_T37 l0 x5_1).f0).size]'h).toNat : Int) = bt a1 (((rd_T37 l0 x5_1).f0).size : Int) := fun h => bt_at a1 (((rd_T37 l0 x5_1).f0).size : Int) (by simpa using h)
            replace p11 := eq_true p11; replace q11 := eq_true q11; go_wp2
            go_roundg k1
            case measure => have := HK1.out; omega
            case rel => exact ⟨(wrap64 (x5_1 + 1)), (by first | rfl | (simp; done) | (simp [*]; done)), H', ⟨by have := HK1.out; omega⟩, dz⟩
          ·rw [if_neg c10] at H
           exact absurd H (by simp)
         ·rw [if_neg c9] at H
          have c9b0 : ((a1.extract 0 ((((rd_T37 l0 x5_1).f0).size : Int) : Int).toNat).toList == ((rd_T37 l0 x5_1).f0).toList) = false := beq_eq_false_iff_ne.mpr c9; have c9b5 : ((a1.extract 0 ((rd_T37 l0 x5_1).f0).size).toList == ((rd_T37 l0 x5_1).f0).toList) = false := beq_eq_false_iff_ne.mpr c9; have c9b1 : ((a1.extract 0 ((((rd_T37 l0 x5_1).f0).size : Int) : Int).toNat).toList != ((rd_T37 l0 x5_1).f0).toList) = true := bne_iff_ne.mpr c9; have c9b6 : ((a1.extract 0 ((rd_T37 l0 x5_1).f0).size).toList != ((rd_T37 l0 x5_1).f0).toList) = true := bne_iff_ne.mpr c9; have H' := am H; clear H; have p298 : 0 ≤ (x5_1 : Int) := of_decide_eq_true (by assumption); have q298 : x5_1 < (l0.length : Int) := of_decide_eq_true (by assumption); obtain ⟨ad298, e298, hx298_0, hx298_1, hx298_2⟩ := at_T37 HR0.out x5_1 p298 q298; cases e298; replace p298 := eq_true p298; replace q298 := eq_true q298; have p299 : 0 ≤ (x5_1 : Int) := of_decide_eq_true (by assumption); have q299 : x5_1 < (l0.length : Int) := of_decide_eq_true (by assumption); obtain ⟨ad299, e299, hx299_0, hx299_1, hx299_2⟩ := at_T37 HR0.out x5_1 p299 q299; obtain rfl : ad298 = ad299 := (by injection e299); replace p299 := eq_true p299; replace q299 := eq_true q299; go_wp2
          go_roundg k1
          case measure => have := HK1.out; omega
          case rel => exact ⟨(wrap64 (x5_1 + 1)), (by first | rfl | (simp; done) | (simp [*]; done)), H', ⟨by have := HK1.out; omega⟩, dz⟩
        ·rw [if_neg c8] at H
         exact absurd H (by simp)
       ·rw [if_neg c7] at H
        exact absurd H (by simp)
      ·rw [if_neg c6] at H
       have c6b0 : decide ((((rd_T37 l0 x5_1).f0).size : Int) < (a1.size : Int)) = false := decide_eq_false c6; have c6b1 : decide (((rd_T37 l0 x5_1).f0).size < a1.size) = false := decide_eq_false (fun h => c6 (Int.ofNat_lt.mpr h)); clear c6; have H' := am H; clear H; have p298 : 0 ≤ (x5_1 : Int) := of_decide_eq_true (by assumption); have q298 : x5_1 < (l0.length : Int) := of_decide_eq_true (by assumption); obtain ⟨ad298, e298, hx298_0, hx298_1, hx298_2⟩ := at_T37 HR0.out x5_1 p298 q298; cases e298; replace p298 := eq_true p298; replace q298 := eq_true q298; have p299 : 0 ≤ (x5_1 : Int) := of_decide_eq_true (by assumption); have q299 : x5_1 < (l0.length : Int) := of_decide_eq_true (by assumption); obtain ⟨ad299, e299, hx299_0, hx299_1, hx299_2⟩ := at_T37 HR0.out x5_1 p299 q299; obtain rfl : ad298 = ad299 := (by injection e299); replace p299 := eq_true p299; replace q299 := eq_true q299; go_wp2
       go_roundg k1
       case measure => have := HK1.out; omega
       case rel => exact ⟨(wrap64 (x5_1 + 1)), (by first | rfl | (simp; done) | (simp [*]; done)), H', ⟨by have := HK1.out; omega⟩, dz⟩
    ·rw [if_neg c4] at H
     exact absurd H (by simp)
   ·rw [if_neg c3] at H
    have c3b0 : decide (x5_1 < (l0.length : Int)) = false := decide_eq_false c3; clear c3; obtain rfl := Option.some.inj H; go_wp2
    go_ret; exact ⟨by first | rfl | (simp; done) | (simp [*]; done), dz⟩

end Go.Proofs.YtiamdmlbhmgnjaaDoor.P
