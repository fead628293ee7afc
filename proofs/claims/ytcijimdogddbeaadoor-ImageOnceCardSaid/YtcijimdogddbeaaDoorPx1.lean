/- Laid by a program of this session (wip/pr), after the printer of the kit: the functions that a statement reaches as plain Lean functions, and that the calls of the machine come to them. No condition. -/
import Derived.Test.YtcijimdogddbeaaDoorPx0
namespace Go.Proofs.YtcijimdogddbeaaDoor.P
open Go.RowKit Go.Proofs.YtcijimdogddbeaaDoorX Go.Proofs.YtcijimdogddbeaaDoorW.PrintWords Go.Proofs.YtcijimdogddbeaaDoorW.PrintLast Go.Proofs.YtcijimdogddbeaaDoorW.PrintMore
attribute [local go_sem] max2_int min2_int max_two min_two
set_option linter.unusedVariables false
set_option linter.unusedSimpArgs false

/-! ### hogsheadlaw0_GreatNodes: function 6 -/
mutual
def hogsheadlaw0_GreatNodes.l0 : Nat → List (S46) → Int → Int → Option (Bool)
 | 0, _, _, _ => none
 | k + 1, x0, x1, x5 => if x5 < (x0.length : Int) then (hogsheadlaw0_GreatNodes.j1 k x0 x1 x5 (decide ((x0.length : Int) ≤ x1))) else (hogsheadlaw0_GreatNodes.j1 k x0 x1 x5 false)
def hogsheadlaw0_GreatNodes.j1 : Nat → List (S46) → Int → Int → Bool → Option (Bool)
 | 0, _, _, _, _ => none
 | k + 1, x0, x1, x5, x15 => if x15 = true then (if 0 ≤ x5 then (if x5 < (x0.length : Int) then (if (((rd_T46 x0 x5).f0).size : Int) > 300 then (some true) else (if (((rd_T46 x0 x5).f2).size : Int) > 500 then (some true) else (hogsheadlaw0_GreatNodes.l0 k x0 x1 (wrap64 (x5 + 1))))) else (none)) else (none)) else (some (decide ((x0.length : Int) > x1)))
end
def hogsheadlaw0_GreatNodes.f (k : Nat) (l0 : List (S46)) (a1 : Int) : Option (Bool) := hogsheadlaw0_GreatNodes.l0 k l0 a1 0
theorem hogsheadlaw0_GreatNodes.mono_l : ∀ k, (∀ y0 y1 y2, LeO (hogsheadlaw0_GreatNodes.l0 k y0 y1 y2) (hogsheadlaw0_GreatNodes.l0 (k + 1) y0 y1 y2)) ∧ (∀ y0 y1 y2 y3, LeO (hogsheadlaw0_GreatNodes.j1 k y0 y1 y2 y3) (hogsheadlaw0_GreatNodes.j1 (k + 1) y0 y1 y2 y3))
 | 0 => ⟨fun _ _ _ r h => by simp [hogsheadlaw0_GreatNodes.l0] at h, fun _ _ _ _ r h => by simp [hogsheadlaw0_GreatNodes.j1] at h⟩
 | k + 1 => by
  obtain ⟨ih0, ih1⟩ := hogsheadlaw0_GreatNodes.mono_l k; refine ⟨?_, ?_⟩
  ·intro y0 y1 y2
   unfold hogsheadlaw0_GreatNodes.l0
   repeat' with_reducible first | exact ih0 _ _ _ | exact ih1 _ _ _ _ | exact LeO.refl _ | exact LeO.none _ | refine LeO.ite ?_ ?_ | refine LeO.bind ?_ (fun _ => ?_)
  ·intro y0 y1 y2 y3
   unfold hogsheadlaw0_GreatNodes.j1
   repeat' with_reducible first | exact ih0 _ _ _ | exact ih1 _ _ _ _ | exact LeO.refl _ | exact LeO.none _ | refine LeO.ite ?_ ?_ | refine LeO.bind ?_ (fun _ => ?_)
theorem hogsheadlaw0_GreatNodes.mono : ∀ a0 a1 k, LeO (hogsheadlaw0_GreatNodes.f k a0 a1) (hogsheadlaw0_GreatNodes.f (k + 1) a0 a1) := by
 intro a0 a1 k; obtain ⟨ih0, ih1⟩ := hogsheadlaw0_GreatNodes.mono_l k; unfold hogsheadlaw0_GreatNodes.f
 repeat' with_reducible first | exact ih0 _ _ _ | exact ih1 _ _ _ _ | exact LeO.refl _ | exact LeO.none _ | refine LeO.ite ?_ ?_ | refine LeO.bind ?_ (fun _ => ?_)
set_option maxHeartbeats 8000000 in
set_option maxRecDepth 100000 in
theorem hogsheadlaw0_GreatNodes.calls (k : Nat) (A0 : Option Addr) (c0 : Nat) (l0 : List (S46)) (a1 : Int) (r : Bool) (w : World) (hr0 : Kd.C k46 w A0 l0.length l0) (hc0 : l0.length ≤ c0) (h : hogsheadlaw0_GreatNodes.f k l0 a1 = some r) :
  Calls Tryd.prog 6 #[.slice A0 l0.length c0, .int .i64 a1] w fun e w' => e = .returned (.bool r) ∧ Drawn0 w w' := by
 have HR0 := am hr0; have HC0 := am hc0; clear hr0 hc0; have H : (hogsheadlaw0_GreatNodes.l0 k l0 a1 0) = some r := h; clear h; have H' := am H; clear H; go_enter Tryd.func6, Tryd.ntmps6; go_wp2
 go_loopg [5] k (fun kq v5 w' => ∃ (x5_1 : Int), v5 = .int .i64 x5_1 ∧ Aside0 (hogsheadlaw0_GreatNodes.l0 kq l0 a1 x5_1 = some r) ∧ Aside0 (kq ≤ k) ∧ Drawn0 w w')
 case atStart => exact ⟨(0), (by first | rfl | (simp; done) | (simp [*]; done)), H', ⟨Nat.le_refl _⟩, dz⟩
 case round =>
  clear H'; (try clear p2); obtain ⟨x5_1, rfl, HA, HK1, ⟨m1, rfl⟩⟩ := hrel; cases gk with
  | zero => exact absurd HA.out (by simp [hogsheadlaw0_GreatNodes.l0])
  | succ k1 =>
   have H := HA.out; clear HA; simp only [hogsheadlaw0_GreatNodes.l0] at H
   have HC3 := am H; clear H; go_upto_region 2 with (fail)
   go_cut [15] (fun v15 wc => ∃ (kq : Nat) (x15_2 : Bool), v15 = .bool x15_2 ∧ Aside0 (hogsheadlaw0_GreatNodes.j1 kq l0 a1 x5_1 x15_2 = some r) ∧ Aside0 (kq ≤ k1) ∧ Drawn0 w wc)
   case first =>
    have H := HC3.out; clear HC3; by_cases c4 : x5_1 < (l0.length : Int)
    ·rw [if_pos c4] at H
     have c4b0 : decide (x5_1 < (l0.length : Int)) = true := decide_eq_true c4; clear c4; (first | rw [c4b0] | (simp only [i64_w, i32_w]; rw [c4b0]) | skip)
     have H' := am H; clear H; go_wp2
     go_meet; case rel => exact ⟨_, (decide ((l0.length : Int) ≤ a1)), (by first | rfl | (simp; done) | (simp [*]; done)), H', ⟨by have := HK1.out; first | omega | exact Nat.le_refl _⟩, dz⟩
    ·rw [if_neg c4] at H
     have c4b0 : decide (x5_1 < (l0.length : Int)) = false := decide_eq_false c4; clear c4; (first | rw [c4b0] | (simp only [i64_w, i32_w]; rw [c4b0]) | skip)
     have H' := am H; clear H; go_wp2
     go_meet; case rel => exact ⟨_, (false), (by first | rfl | (simp; done) | (simp [*]; done)), H', ⟨by have := HK1.out; first | omega | exact Nat.le_refl _⟩, dz⟩
   case rest =>
    clear HC3; (try clear p2); (try clear c4); (try clear c4b0); (try clear p2); obtain ⟨kq, x15_2, rfl, HA, HJ2, ⟨mc2, rfl⟩⟩ := hcut; cases kq with
    | zero => exact absurd HA.out (by simp [hogsheadlaw0_GreatNodes.j1])
    | succ kj2 =>
     have H := HA.out; clear HA; simp only [hogsheadlaw0_GreatNodes.j1] at H
     by_cases c5 : x15_2 = true
     ·subst c5
      have H1 : (if 0 ≤ x5_1 then (if x5_1 < (l0.length : Int) then (if (((rd_T46 l0 x5_1).f0).size : Int) > 300 then (some true) else (if (((rd_T46 l0 x5_1).f2).size : Int) > 500 then (some true) else (hogsheadlaw0_GreatNodes.l0 kj2 l0 a1 (wrap64 (x5_1 + 1))))) else (none)) else (none)) = some r := by rw [if_pos rfl] at H; exact H
      clear H; have H := H1; clear H1; by_cases c6 : 0 ≤ x5_1
      ·rw [if_pos c6] at H
       have c6b0 : decide (0 ≤ x5_1) = true := decide_eq_true c6; clear c6; by_cases c7 : x5_1 < (l0.length : Int)
       ·rw [if_pos c7] at H
        have c7b0 : decide (x5_1 < (l0.length : Int)) = true := decide_eq_true c7; clear c7; by_cases c8 : (((rd_T46 l0 x5_1).f0).size : Int) > 300
        ·rw [if_pos c8] at H
         have c8b0 : decide (300 < (((rd_T46 l0 x5_1).f0).size : Int)) = true := decide_eq_true c8; have c8b1 : decide (300 < ((rd_T46 l0 x5_1).f0).size) = true := decide_eq_true (by omega); clear c8; obtain rfl := Option.some.inj H; have p101 : 0 ≤ (x5_1 : Int) := of_decide_eq_true (by assumption); have q101 : x5_1 < (l0.length : Int) := of_decide_eq_true (by assumption); obtain ⟨ad101, e101, hx101_0, hx101_1, hx101_2⟩ := at_T46 HR0.out x5_1 p101 q101; cases e101; replace p101 := eq_true p101; replace q101 := eq_true q101; go_wp2
         go_ret; exact ⟨by first | rfl | (simp; done) | (simp [*]; done), dz⟩
        ·rw [if_neg c8] at H
         have c8b0 : decide (300 < (((rd_T46 l0 x5_1).f0).size : Int)) = false := decide_eq_false c8; have c8b1 : decide (300 < ((rd_T46 l0 x5_1).f0).size) = false := decide_eq_false (by omega); clear c8; by_cases c9 : (((rd_T46 l0 x5_1).f2).size : Int) > 500
         ·rw [if_pos c9] at H
          have c9b0 : decide (500 < (((rd_T46 l0 x5_1).f2).size : Int)) = true := decide_eq_true c9; have c9b1 : decide (500 < ((rd_T46 l0 x5_1).f2).size) = true := decide_eq_true (by omega); clear c9; obtain rfl := Option.some.inj H; have p101 : 0 ≤ (x5_1 : Int) := of_decide_eq_true (by assumption); have q101 : x5_1 < (l0.length : Int) := of_decide_eq_true (by assumption); obtain ⟨ad101, e101, hx101_0, hx101_1, hx101_2⟩ := at_T46 HR0.out x5_1 p101 q101; cases e101; replace p101 := eq_true p101; replace q101 := eq_true q101; have p102 : 0 ≤ (x5_1 : Int) := of_decide_eq_true (by assumption); have q102 : x5_1 < (l0.length : Int) := of_decide_eq_true (by assumption); obtain ⟨ad102, e102, hx102_0, hx102_1, hx102_2⟩ := at_T46 HR0.out x5_1 p102 q102; obtain rfl : ad101 = ad102 := (by injection e102); replace p102 := eq_true p102; replace q102 := eq_true q102; go_wp2
          go_ret; exact ⟨by first | rfl | (simp; done) | (simp [*]; done), dz⟩
         ·rw [if_neg c9] at H
          have c9b0 : decide (500 < (((rd_T46 l0 x5_1).f2).size : Int)) = false := decide_eq_false c9; have c9b1 : decide (500 < ((rd_T46 l0 x5_1).f2).size) = false := decide_eq_false (by omega); clear c9; have H' := am H; clear H; have p101 : 0 ≤ (x5_1 : Int) := of_decide_eq_true (by assumption); have q101 : x5_1 < (l0.length : Int) := of_decide_eq_true (by assumption); obtain ⟨ad101, e101, hx101_0, hx101_1, hx101_2⟩ := at_T46 HR0.out x5_1 p101 q101; cases e101; replace p101 := eq_true p101; replace q101 := eq_true q101; have p102 : 0 ≤ (x5_1 : Int) := of_decide_eq_true (by assumption); have q102 : x5_1 < (l0.length : Int) := of_decide_eq_true (by assumption); obtain ⟨ad102, e102, hx102_0, hx102_1, hx102_2⟩ := at_T46 HR0.out x5_1 p102 q102; obtain rfl : ad101 = ad102 := (by injection e102); replace p102 := eq_true p102; replace q102 := eq_true q102; go_wp2
          go_roundg kj2
          case measure => have := HK1.out; have := HJ2.out; omega
          case rel => exact ⟨(wrap64 (x5_1 + 1)), (by first | rfl | (simp; done) | (simp [*]; done)), H', ⟨by have := HK1.out; have := HJ2.out; omega⟩, dz⟩
       ·rw [if_neg c7] at H
        exact absurd H (by simp)
      ·rw [if_neg c6] at H
       exact absurd H (by simp)
     ·replace c5 := Bool.eq_false_iff.mpr c5
      subst c5; have H1 : (some (decide ((l0.length : Int) > a1))) = some r := by rw [if_neg (show ¬ (false = true) by decide)] at H; exact H
      clear H; have H := H1; clear H1; obtain rfl := Option.some.inj H; go_wp2
      go_ret; exact ⟨by first | rfl | (simp; done) | (simp [*]; done), dz⟩

/-! ### sum_Next: function 49 -/
def sum_Next.f (a0 : Int) (a1 : Int) : Option (Int) := some (IntKind.u64.wrap ((Go.bits .xor .u64 a0 (IntKind.u64.wrap (a1))) * 1099511628211))
set_option maxHeartbeats 8000000 in
set_option maxRecDepth 100000 in
theorem sum_Next.calls (a0 : Int) (a1 : Int) (r : Int) (w : World) (h : sum_Next.f a0 a1 = some r) :
  Calls Tryd.prog 49 #[.int .u64 a0, .int .u8 a1] w fun e w' => e = .returned (.int .u64 r) ∧ Drawn0 w w' := by
 have H : (some (IntKind.u64.wrap ((Go.bits .xor .u64 a0 (IntKind.u64.wrap (a1))) * 1099511628211))) = some r := h; clear h; obtain rfl := Option.some.inj H; go_enter Tryd.func49, Tryd.ntmps49; go_wp2
 go_ret; exact ⟨by first | rfl | (simp; done) | (simp [*]; done), dz⟩

/-! ### sum_Of: function 29 -/
mutual
def sum_Of.l0 : Nat → Int → List (List Int) → Int → Int → Option (Int)
 | 0, _, _, _, _ => none
 | k + 1, x3, x8, x9, x10 => if x10 < x9 then (if 0 ≤ x10 then (if x10 < (x8.length : Int) then (sum_Of.l1 k x3 x8 x9 x10 (rd_L4 x8 x10) ((rd_L4 x8 x10).length : Int) 0) else (none)) else (none)) else (some x3)
def sum_Of.l1 : Nat → Int → List (List Int) → Int → Int → List Int → Int → Int → Option (Int)
 | 0, _, _, _, _, _, _, _ => none
 | k + 1, x3, x8, x9, x10, x14, x15, x16 => if x16 < x15 then (if 0 ≤ x16 then (if x16 < (x14.length : Int) then ((sum_Next.f x3 (rd x14 x16)).bind fun t105 => (sum_Of.l1 k t105 x8 x9 x10 x14 x15 (wrap64 (x16 + 1)))) else (none)) else (none)) else (sum_Of.l0 k x3 x8 x9 (wrap64 (x10 + 1)))
end
def sum_Of.f (k : Nat) (l0 : List (List Int)) : Option (Int) := sum_Of.l0 k 14695981039346656037 l0 (l0.length : Int) 0
theorem sum_Of.mono_l : ∀ k, (∀ y0 y1 y2 y3, LeO (sum_Of.l0 k y0 y1 y2 y3) (sum_Of.l0 (k + 1) y0 y1 y2 y3)) ∧ (∀ y0 y1 y2 y3 y4 y5 y6, LeO (sum_Of.l1 k y0 y1 y2 y3 y4 y5 y6) (sum_Of.l1 (k + 1) y0 y1 y2 y3 y4 y5 y6))
 | 0 => ⟨fun _ _ _ _ r h => by simp [sum_Of.l0] at h, fun _ _ _ _ _ _ _ r h => by simp [sum_Of.l1] at h⟩
 | k + 1 => by
  obtain ⟨ih0, ih1⟩ := sum_Of.mono_l k; refine ⟨?_, ?_⟩
  ·intro y0 y1 y2 y3
   unfold sum_Of.l0
   repeat' with_reducible first | exact ih0 _ _ _ _ | exact ih1 _ _ _ _ _ _ _ | exact LeO.refl _ | exact LeO.none _ | refine LeO.ite ?_ ?_ | refine LeO.bind ?_ (fun _ => ?_)
  ·intro y0 y1 y2 y3 y4 y5 y6
   unfold sum_Of.l1
   repeat' with_reducible first | exact ih0 _ _ _ _ | exact ih1 _ _ _ _ _ _ _ | exact LeO.refl _ | exact LeO.none _ | refine LeO.ite ?_ ?_ | refine LeO.bind ?_ (fun _ => ?_)
theorem sum_Of.mono : ∀ a0 k, LeO (sum_Of.f k a0) (sum_Of.f (k + 1) a0) := by
 intro a0 k; obtain ⟨ih0, ih1⟩ := sum_Of.mono_l k; unfold sum_Of.f
 repeat' with_reducible first | exact ih0 _ _ _ _ | exact ih1 _ _ _ _ _ _ _ | exact LeO.refl _ | exact LeO.none _ | refine LeO.ite ?_ ?_ | refine LeO.bind ?_ (fun _ => ?_)
set_option maxHeartbeats 8000000 in
set_option maxRecDepth 100000 in
theorem sum_Of.calls (k : Nat) (A0 : Option Addr) (c0 : Nat) (l0 : List (List Int)) (r : Int) (w : World) (hr0 : Kd.C (Kd.slice 5 (Kd.int .u8)) w A0 l0.length l0) (hc0 : l0.length ≤ c0) (h : sum_Of.f k l0 = some r) :
  Calls Tryd.prog 29 #[.slice A0 l0.length c0] w fun e w' => e = .returned (.int .u64 r) ∧ Drawn0 w w' := by
 have HR0 := am hr0; have HC0 := am hc0; clear hr0 hc0; have H : (sum_Of.l0 k 14695981039346656037 l0 (l0.length : Int) 0) = some r := h; clear h; have H' := am H; clear H; go_enter Tryd.func29, Tryd.ntmps29; go_wp2
 go_loopg [3, 10] k (fun kq v3 v10 w' => ∃ (x3_1 : Int) (x10_1 : Int), v3 = .int .u64 x3_1 ∧ v10 = .int .i64 x10_1 ∧ Aside0 (sum_Of.l0 kq x3_1 l0 (l0.length : Int) x10_1 = some r) ∧ Aside0 (kq ≤ k) ∧ Drawn0 w w')
 case atStart => exact ⟨(14695981039346656037), (0), (by first | rfl | (simp; done) | (simp [*]; done)), (by first | rfl | (simp; done) | (simp [*]; done)), H', ⟨Nat.le_refl _⟩, dz⟩
 case round =>
  clear H'; obtain ⟨x3_1, x10_1, rfl, rfl, HA, HK1, ⟨m1, rfl⟩⟩ := hrel; cases gk with
  | zero => exact absurd HA.out (by simp [sum_Of.l0])
  | succ k1 =>
   have H := HA.out; clear HA; simp only [sum_Of.l0] at H
   by_cases c2 : x10_1 < (l0.length : Int)
   ·rw [if_pos c2] at H
    have c2b0 : decide (x10_1 < (l0.length : Int)) = true := decide_eq_true c2; clear c2; by_cases c3 : 0 ≤ x10_1
    ·rw [if_pos c3] at H
     have c3b0 : decide (0 ≤ x10_1) = true := decide_eq_true c3; clear c3; by_cases c4 : x10_1 < (l0.length : Int)
     ·rw [if_pos c4] at H
      have c4b0 : decide (x10_1 < (l0.length : Int)) = true := decide_eq_true c4; clear c4; have H' := am H; clear H; have p103 : 0 ≤ (x10_1 : Int) := of_decide_eq_true (by assumption); have q103 : x10_1 < (l0.length : Int) := of_decide_eq_true (by assumption); obtain ⟨ad103, A103_0, c103_0, e103, hx103_0, hl103_0, hi103_0⟩ := at_L4 HR0.out x10_1 p103 q103; cases e103; have HR103_0 := am hi103_0; have HC103_0 := am hl103_0; clear hi103_0 hl103_0; replace p103 := eq_true p103; replace q103 := eq_true q103; go_wp2
      go_loopg [3, 16] k1 (fun kq v3 v16 w' => ∃ (x3_2 : Int) (x16_2 : Int), v3 = .int .u64 x3_2 ∧ v16 = .int .i64 x16_2 ∧ Aside0 (sum_Of.l1 kq x3_2 l0 (l0.length : Int) x10_1 (rd_L4 l0 x10_1) ((rd_L4 l0 x10_1).length : Int) x16_2 = some r) ∧ Aside0 (kq ≤ k1) ∧ Drawn0 w w')
      case atStart => exact ⟨(x3_1), (0), (by first | rfl | (simp; done) | (simp [*]; done)), (by first | rfl | (simp; done) | (simp [*]; done)), H', ⟨Nat.le_refl _⟩, dz⟩
      case round =>
       clear H'; (try clear c1); (try clear p1); (try clear q1); (try clear hx1); (try clear c2); (try clear c2b0); (try clear p2); (try clear c3); (try clear c3b0); (try clear c4); (try clear c4b0); (try clear hx103_0); (try clear p103); (try clear q103); obtain ⟨x3_2, x16_2, rfl, rfl, HA, HK2, ⟨m2, rfl⟩⟩ := hrel; cases gk with
       | zero => exact absurd HA.out (by simp [sum_Of.l1])
       | succ k2 =>
        have H := HA.out; clear HA; simp only [sum_Of.l1] at H
        by_cases c5 : x16_2 < ((rd_L4 l0 x10_1).length : Int)
        ·rw [if_pos c5] at H
         have c5b0 : decide (x16_2 < ((rd_L4 l0 x10_1).length : Int)) = true := decide_eq_true c5; clear c5; by_cases c6 : 0 ≤ x16_2
         ·rw [if_pos c6] at H
          have c6b0 : decide (0 ≤ x16_2) = true := decide_eq_true c6; clear c6; by_cases c7 : x16_2 < ((rd_L4 l0 x10_1).length : Int)
          ·rw [if_pos c7] at H
           have c7b0 : decide (x16_2 < ((rd_L4 l0 x10_1).length : Int)) = true := decide_eq_true c7; clear c7; refine oR H ?_; clear H; intro t105 A8 H; have H' := am H; clear H; have p104 : 0 ≤ (x16_2 : Int) := of_decide_eq_true (by assumption); have q104 : x16_2 < ((rd_L4 l0 x10_1).length : Int) := of_decide_eq_true (by assumption); obtain ⟨ad104, e104, hx104_0⟩ := Kd.at_int HR103_0.out x16_2 p104 q104; cases e104; replace p104 := eq_true p104; replace q104 := eq_true q104; go_wp2_with (first | ((with_reducible refine gate_callee (f := 49) rfl ?_); refine gL (some 22) Tryd.func49 #[.int .u64 x3_2, .int .u8 (rd (rd_L4 l0 x10_1) x16_2)] ?_; (with_reducible refine (sum_Next.calls x3_2 (rd (rd_L4 l0 x10_1) x16_2) t105 _ A8.out).mono ?_); rintro e w' ⟨rfl, ⟨nd, rfl⟩⟩; refine ⟨_, rfl, ?_⟩))
           go_roundg k2
           case measure => have := HK1.out; have := HK2.out; omega
           case rel => exact ⟨(t105), (wrap64 (x16_2 + 1)), (by first | rfl | (simp; done) | (simp [*]; done)), (by first | rfl | (simp; done) | (simp [*]; done)), H', ⟨by have := HK1.out; have := HK2.out; omega⟩, dz⟩
          ·rw [if_neg c7] at H
           exact absurd H (by simp)
         ·rw [if_neg c6] at H
          exact absurd H (by simp)
        ·rw [if_neg c5] at H
         have c5b0 : decide (x16_2 < ((rd_L4 l0 x10_1).length : Int)) = false := decide_eq_false c5; clear c5; have H' := am H; clear H; go_wp2
         go_roundg k2
         case measure => have := HK1.out; have := HK2.out; omega
         case rel => exact ⟨(x3_2), (wrap64 (x10_1 + 1)), (by first | rfl | (simp; done) | (simp [*]; done)), (by first | rfl | (simp; done) | (simp [*]; done)), H', ⟨by have := HK1.out; have := HK2.out; omega⟩, dz⟩
     ·rw [if_neg c4] at H
      exact absurd H (by simp)
    ·rw [if_neg c3] at H
     exact absurd H (by simp)
   ·rw [if_neg c2] at H
    have c2b0 : decide (x10_1 < (l0.length : Int)) = false := decide_eq_false c2; clear c2; obtain rfl := Option.some.inj H; go_wp2
    go_ret; exact ⟨by first | rfl | (simp; done) | (simp [*]; done), dz⟩

/-- Rows of bytes that lie somewhere: the cells that lead to them, as a world has them. -/
def lentK (w0 : World) : Kd (List Int) where
 sz := 1
 E := []
 K := fun _ xs cs => ∃ A c, cs = [.slice A xs.length c] ∧ xs.length ≤ c ∧ Kd.C (Kd.int .u8) w0 A xs.length xs
 M := fun _ _ _ xs cs => ∃ A c, cs = [.slice A xs.length c] ∧ xs.length ≤ c ∧ Kd.C (Kd.int .u8) w0 A xs.length xs
 K_len := by
  rintro w x cs ⟨A, c, rfl, _⟩; rfl
 K_one := by
  rintro w x cs ⟨A, c, rfl, _⟩ u hu; rw [List.mem_singleton.1 hu]; rfl
 K_below := fun _ h => h
 K_of_M := fun h => h
 M_mono := fun _ h => h
 M_bound := fun h => h
 M_move := fun _ h => h
 M_lower := fun _ h => h
theorem lent_back {w0 w : World} {A : Option Addr} {n : Nat} {xs : List (List Int)} (h : Kd.C (lentK w0) w A n xs) (hb : Below w0.heap.size w0 w) : Kd.C (Kd.slice 5 (Kd.int .u8)) w A n xs := by
 obtain ⟨h1, h2, h3⟩ := h; refine ⟨h1, h2, fun h0 => ?_⟩
 obtain ⟨ad, e, hc⟩ := h3 h0; refine ⟨ad, e, fun j q hq => ?_⟩
 obtain ⟨cs, hl, ⟨A1, c1, hcs, hc1, hr1⟩, hcell⟩ := hc j q hq; exact ⟨cs, hl, ⟨A1, c1, hcs, hc1, Kd.C_below hr1 hb⟩, hcell⟩
theorem lent_one {w0 w : World} {base : Nat} {okp : Nat → Prop} {A : Option Addr} {c : Nat} {xs : List Int} (h : Kd.C (Kd.int .u8) w0 A xs.length xs) (hc : xs.length ≤ c) : Reps ((lentK w0).M w base okp) 1 [xs] [.slice A xs.length c] := by
 refine ⟨rfl, fun j p hp => ?_⟩
 match j with
 | 0 =>
  obtain rfl : xs = p := by simpa using hp
  exact ⟨A, c, rfl, hc, h⟩
 | j + 1 => simp at hp
/-- A text's bytes: a row that is read. -/
theorem text_bytes {P : Program} {ops : Array Oper} {rest : List Oper} {o : Oper} {a : Act} {Q : Exit → Act → World → Prop} {W : World} {src dst e : TypeId} {u : TypeDesc} (hgd : o.guard = none) (x : Operand) (hop : o.op = .convert src dst x) {s : ByteArray} (hx : a.eval x = .string s)
  (hs : P.underlying src = some u) (hd : P.underlying dst = some (.slice e)) (he : P.underlying e = some (.int .u8)) (hl : s.size ≤ 9223372036854775807)
  (h : ∀ g c w1, Kd.C (Kd.int .u8) w1 (some ⟨g, 0, none⟩) (bytesOf s).length (bytesOf s) → (bytesOf s).length ≤ c → Below W.heap.size W w1 → wpList P ops Q rest (a.put o.dst (.slice (some ⟨g, 0, none⟩) (bytesOf s).length c)) w1) : wpList P ops Q (o :: rest) a W := by
 have h1 : (execOp a.eval o).run P W = .ok (.value (.slice (some ⟨W.heap.size, 0, none⟩) (bytesOf s).length (grownCap W s.size 0 e))) (Lib.bytesWorld W e s) := by
  have h2 := print_bytes src dst e hs hd he s W; rw [bytesOf_length]; unfold execOp
  simp [hop, hx, h2, Result.andThen]
 refine Kd.event_run hgd h1 (h _ _ _ ?_ (by rw [bytesOf_length]; exact grownCap_ge W s.size 0 e) (bytes_below (Below.refl _ _) (Nat.le_refl _) e s))
 have h3 := bytes_reads W e s hl
 obtain ⟨h4, h5, h6⟩ := h3; rw [bytesOf_length]; refine ⟨h4, h5, fun h0 => ?_⟩
 obtain ⟨ad, hA, hc⟩ := h6 h0; refine ⟨ad, hA, fun j p hj => ?_⟩
 have hjl := (List.getElem?_eq_some_iff.1 hj).1; rw [bytesOf_length] at hjl; refine ⟨[.int .u8 p], rfl, rfl, fun i v hi => ?_⟩
 match i with
 | 0 =>
  obtain rfl : Value.int .u8 p = v := by simpa using hi
  have := hc j hjl; rw [show j * (Kd.int .u8).sz + 0 = j from by show j * 1 + 0 = j; omega, this]; rw [List.getD_eq_getElem?_getD, hj]; rfl
 | i + 1 => simp at hi
/-- The sum of a text's bytes. -/
def sum_Text.f (k : Nat) (s : ByteArray) : Option Int := if s.size ≤ 9223372036854775807 then sum_Of.f k [bytesOf s] else none
theorem sum_Text.mono : ∀ s k, LeO (sum_Text.f k s) (sum_Text.f (k + 1) s) := by
 intro s k; unfold sum_Text.f
 by_cases h : s.size ≤ 9223372036854775807
 ·rw [if_pos h, if_pos h]; exact sum_Of.mono _ k
 ·rw [if_neg h, if_neg h]; exact LeO.refl _
theorem sum_Text.lim {k : Nat} {s : ByteArray} {r : Int} (h : sum_Text.f k s = some r) : s.size ≤ 9223372036854775807 := by
 unfold sum_Text.f at h
 by_cases hl : s.size ≤ 9223372036854775807
 ·exact hl
 ·rw [if_neg hl] at h; cases h
theorem sum_Text.calls (k : Nat) {w0 w1 : World} {e b : Nat} {ok : Nat → Prop} {v : Value} {s : ByteArray} (_hw : Kd.R (lentK w0) e w1 b ok v [bytesOf s]) (A : Option Addr) (c : Nat) (r : Int) (w : World) (hB : Below w0.heap.size w0 w) (hr0 : Kd.C (lentK w0) w A [bytesOf s].length [bytesOf s]) (hc0 : [bytesOf s].length ≤ c) (h : sum_Text.f k s = some r) :
  Calls Tryd.prog 29 #[.slice A [bytesOf s].length c] w fun e w' => e = .returned (.int .u64 r) ∧ Drawn0 w w' := by
 have hl := sum_Text.lim h; unfold sum_Text.f at h
 rw [if_pos hl] at h; exact sum_Of.calls k A c [bytesOf s] r w (lent_back hr0 hB) hc0 h

-- by hand: function 82 (strings_Split)

-- by hand: function 68 (strings_IndexByte)

end Go.Proofs.YtcijimdogddbeaaDoor.P
