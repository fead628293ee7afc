/- Laid by a program of this session (wip/pr), after the printer of the kit: the functions that a statement reaches as plain Lean functions, and that the calls of the machine come to them. No condition. -/
import Derived.Test.YtiamdmlbhmgnjaaDoorHandPile
import Derived.Test.YtiamdmlbhmgnjaaDoorPx0
namespace Go.Proofs.YtiamdmlbhmgnjaaDoor.P
open Go.RowKit Go.Proofs.YtiamdmlbhmgnjaaDoorX Go.Proofs.YtiamdmlbhmgnjaaDoorW.PrintWords Go.Proofs.YtiamdmlbhmgnjaaDoorW.PrintLast Go.Proofs.YtiamdmlbhmgnjaaDoorW.PrintMore
attribute [local go_sem] max2_int min2_int max_two min_two
set_option linter.unusedVariables false
set_option linter.unusedSimpArgs false

/-! ### hogsheadlaw0_GreatNodes: function 17 -/
mutual
def hogsheadlaw0_GreatNodes.l0 : Nat → List (S37) → Int → Int → Option (Bool)
 | 0, _, _, _ => none
 | k + 1, x0, x1, x5 => if x5 < (x0.length : Int) then (hogsheadlaw0_GreatNodes.j1 k x0 x1 x5 (decide ((x0.length : Int) ≤ x1))) else (hogsheadlaw0_GreatNodes.j1 k x0 x1 x5 false)
def hogsheadlaw0_GreatNodes.j1 : Nat → List (S37) → Int → Int → Bool → Option (Bool)
 | 0, _, _, _, _ => none
 | k + 1, x0, x1, x5, x15 => if x15 = true then (if 0 ≤ x5 then (if x5 < (x0.length : Int) then (if (((rd_T37 x0 x5).f0).size : Int) > 300 then (some true) else (if (((rd_T37 x0 x5).f2).size : Int) > 500 then (some true) else (hogsheadlaw0_GreatNodes.l0 k x0 x1 (wrap64 (x5 + 1))))) else (none)) else (none)) else (some (decide ((x0.length : Int) > x1)))
end
def hogsheadlaw0_GreatNodes.f (k : Nat) (l0 : List (S37)) (a1 : Int) : Option (Bool) := hogsheadlaw0_GreatNodes.l0 k l0 a1 0
theorem hogsheadlaw0_GreatNodes.mono_l : ∀ k, (∀ y0 y1 y2, LeO (hogsheadlaw0_GreatNodes.l0 k y0 y1 y2) (hogsheadlaw0_GreatNodes.l0 (k + 1) y0 y1 y2)) ∧ (∀ y0 y1 y2 y3, LeO (hogsheadlaw0_GreatNodes.j1 k y0 y1 y2 y3) (hogsheadlaw0_GreatNodes.j1 (k + 1) y0 y1 y2 y3))
 | 0 => ⟨fun _ _ _ r h => by simp [hogsheadlaw0_GreatNodes.l0] at h, fun _ _ _ _ r h => by simp [hogsheadlaw0_GreatNodes.j1] at h⟩
 | k + 1 => by
  obtain ⟨ih0, ih1⟩ := hogsheadlaw0_GreatNodes.mono_l k; refine ⟨?_, ?_⟩
  ·intro y0 y1 y2
   unfold hogsheadlaw0_GreatNodes.l0
   repeat' with_reducible first | exact ih0 _ _ _ | exact ih1 _ _ _ _ | exact LeO.refl _ | exact LeO.none _ | refine LeO.ite ?_ ?_ | refine LeO.bind ?_ (fun _ => ?_)
  ·intro y0 y1 y2 y3
   unfold hogsheadlaw0_GreatNodes.j1
   repeat' with_reducible first | exact ih0 _ _ _ | exact ih1 _ _ _ _ | exact LeO.refl _ | exact LeO.none _ | refine LeO.ite ?_ ?_ | refine LeO.bind ?_ (fun _ => ?_)
theorem hogsheadlaw0_GreatNodes.mono : ∀ a0 a1 k, LeO (hogsheadlaw0_GreatNodes.f k a0 a1) (hogsheadlaw0_GreatNodes.f (k + 1) a0 a1) := by
 intro a0 a1 k; obtain ⟨ih0, ih1⟩ := hogsheadlaw0_GreatNodes.mono_l k; unfold hogsheadlaw0_GreatNodes.f
 repeat' with_reducible first | exact ih0 _ _ _ | exact ih1 _ _ _ _ | exact LeO.refl _ | exact LeO.none _ | refine LeO.ite ?_ ?_ | refine LeO.bind ?_ (fun _ => ?_)
set_option maxHeartbeats 8000000 in
set_option maxRecDepth 100000 in
theorem hogsheadlaw0_GreatNodes.calls (k : Nat) (A0 : Option Addr) (c0 : Nat) (l0 : List (S37)) (a1 : Int) (r : Bool) (w : World) (hr0 : Kd.C k37 w A0 l0.length l0) (hc0 : l0.length ≤ c0) (h : hogsheadlaw0_GreatNodes.f k l0 a1 = some r) :
  Calls Tryd.prog 17 #[.slice A0 l0.length c0, .int .i64 a1] w fun e w' => e = .returned (.bool r) ∧ Drawn0 w w' := by
 have HR0 := am hr0; have HC0 := am hc0; clear hr0 hc0; have H : (hogsheadlaw0_GreatNodes.l0 k l0 a1 0) = some r := h; clear h; have H' := am H; clear H; go_enter Tryd.func17, Tryd.ntmps17; go_wp2
 go_loopg [5] k (fun kq v5 w' => ∃ (x5_1 : Int), v5 = .int .i64 x5_1 ∧ Aside0 (hogsheadlaw0_GreatNodes.l0 kq l0 a1 x5_1 = some r) ∧ Aside0 (kq ≤ k) ∧ Drawn0 w w')
 case atStart => exact ⟨(0), (by first | rfl | (simp; done) | (simp [*]; done)), H', ⟨Nat.le_refl _⟩, dz⟩
 case round =>
  clear H'; (try clear c1); (try clear p2); obtain ⟨x5_1, rfl, HA, HK1, ⟨m1, rfl⟩⟩ := hrel; cases gk with
  | zero => exact absurd HA.out (by simp [hogsheadlaw0_GreatNodes.l0])
  | succ k1 =>
   have H := HA.out; clear HA; simp only [hogsheadlaw0_GreatNodes.l0] at H
   have HC3 := am H; clear H; go_upto_region 2 with (fail)
   go_cut [15] (fun v15 wc => ∃ (kq : Nat) (x15_2 : Bool), v15 = .bool x15_2 ∧ Aside0 (hogsheadlaw0_GreatNodes.j1 kq l0 a1 x5_1 x15_2 = some r) ∧ Aside0 (kq ≤ k1) ∧ Drawn0 w wc)
   case first =>
    have H := HC3.out; clear HC3; by_cases c4 : x5_1 < (l0.length : Int)
    ·rw [if_pos c4] at H
     have c4b0 : decide (x5_1 < (l0.length : Int)) = true := decide_eq_true c4; clear c4; (first | rw [c4b0] | (simp only [i64_w, i32_w]; rw [c4b0]) | skip)
     have H' := am H; clear H; go_wp2
     go_meet; case rel => exact ⟨_, (decide ((l0.length : Int) ≤ a1)), (by first | rfl | (simp; done) | (simp [*]; done)), H', ⟨by have := HK1.out; first | omega | exact Nat.le_refl _⟩, dz⟩
    ·rw [if_neg c4] at H
     have c4b0 : decide (x5_1 < (l0.length : Int)) = false := decide_eq_false c4; clear c4; (first | rw [c4b0] | (simp only [i64_w, i32_w]; rw [c4b0]) | skip)
     have H' := am H; clear H; go_wp2
     go_meet; case rel => exact ⟨_, (false), (by first | rfl | (simp; done) | (simp [*]; done)), H', ⟨by have := HK1.out; first | omega | exact Nat.le_refl _⟩, dz⟩
   case rest =>
    clear HC3; (try clear c1); (try clear p2); (try clear c4); (try clear c4b0); (try clear p2); obtain ⟨kq, x15_2, rfl, HA, HJ2, ⟨mc2, rfl⟩⟩ := hcut; cases kq with
    | zero => exact absurd HA.out (by simp [hogsheadlaw0_GreatNodes.j1])
    | succ kj2 =>
     have H := HA.out; clear HA; simp only [hogsheadlaw0_GreatNodes.j1] at H
     by_cases c5 : x15_2 = true
     ·subst c5
      have H1 : (if 0 ≤ x5_1 then (if x5_1 < (l0.length : Int) then (if (((rd_T37 l0 x5_1).f0).size : Int) > 300 then (some true) else (if (((rd_T37 l0 x5_1).f2).size : Int) > 500 then (some true) else (hogsheadlaw0_GreatNodes.l0 kj2 l0 a1 (wrap64 (x5_1 + 1))))) else (none)) else (none)) = some r := by rw [if_pos rfl] at H; exact H
      clear H; have H := H1; clear H1; by_cases c6 : 0 ≤ x5_1
      ·rw [if_pos c6] at H
       have c6b0 : decide (0 ≤ x5_1) = true := decide_eq_true c6; clear c6; by_cases c7 : x5_1 < (l0.length : Int)
       ·rw [if_pos c7] at H
        have c7b0 : decide (x5_1 < (l0.length : Int)) = true := decide_eq_true c7; clear c7; by_cases c8 : (((rd_T37 l0 x5_1).f0).size : Int) > 300
        ·rw [if_pos c8] at H
         have c8b0 : decide (300 < (((rd_T37 l0 x5_1).f0).size : Int)) = true := decide_eq_true c8; have c8b1 : decide (300 < ((rd_T37 l0 x5_1).f0).size) = true := decide_eq_true (by omega); clear c8; obtain rfl := Option.some.inj H; have p101 : 0 ≤ (x5_1 : Int) := of_decide_eq_true (by assumption); have q101 : x5_1 < (l0.length : Int) := of_decide_eq_true (by assumption); obtain ⟨ad101, e101, hx101_0, hx101_1, hx101_2⟩ := at_T37 HR0.out x5_1 p101 q101; cases e101; replace p101 := eq_true p101; replace q101 := eq_true q101; go_wp2
         go_ret; exact ⟨by first | rfl | (simp; done) | (simp [*]; done), dz⟩
        ·rw [if_neg c8] at H
         have c8b0 : decide (300 < (((rd_T37 l0 x5_1).f0).size : Int)) = false := decide_eq_false c8; have c8b1 : decide (300 < ((rd_T37 l0 x5_1).f0).size) = false := decide_eq_false (by omega); clear c8; by_cases c9 : (((rd_T37 l0 x5_1).f2).size : Int) > 500
         ·rw [if_pos c9] at H
          have c9b0 : decide (500 < (((rd_T37 l0 x5_1).f2).size : Int)) = true := decide_eq_true c9; have c9b1 : decide (500 < ((rd_T37 l0 x5_1).f2).size) = true := decide_eq_true (by omega); clear c9; obtain rfl := Option.some.inj H; have p101 : 0 ≤ (x5_1 : Int) := of_decide_eq_true (by assumption); have q101 : x5_1 < (l0.length : Int) := of_decide_eq_true (by assumption); obtain ⟨ad101, e101, hx101_0, hx101_1, hx101_2⟩ := at_T37 HR0.out x5_1 p101 q101; cases e101; replace p101 := eq_true p101; replace q101 := eq_true q101; have p102 : 0 ≤ (x5_1 : Int) := of_decide_eq_true (by assumption); have q102 : x5_1 < (l0.length : Int) := of_decide_eq_true (by assumption); obtain ⟨ad102, e102, hx102_0, hx102_1, hx102_2⟩ := at_T37 HR0.out x5_1 p102 q102; obtain rfl : ad101 = ad102 := (by injection e102); replace p102 := eq_true p102; replace q102 := eq_true q102; go_wp2
          go_ret; exact ⟨by first | rfl | (simp; done) | (simp [*]; done), dz⟩
         ·rw [if_neg c9] at H
          have c9b0 : decide (500 < (((rd_T37 l0 x5_1).f2).size : Int)) = false := decide_eq_false c9; have c9b1 : decide (500 < ((rd_T37 l0 x5_1).f2).size) = false := decide_eq_false (by omega); clear c9; have H' := am H; clear H; have p101 : 0 ≤ (x5_1 : Int) := of_decide_eq_true (by assumption); have q101 : x5_1 < (l0.length : Int) := of_decide_eq_true (by assumption); obtain ⟨ad101, e101, hx101_0, hx101_1, hx101_2⟩ := at_T37 HR0.out x5_1 p101 q101; cases e101; replace p101 := eq_true p101; replace q101 := eq_true q101; have p102 : 0 ≤ (x5_1 : Int) := of_decide_eq_true (by assumption); have q102 : x5_1 < (l0.length : Int) := of_decide_eq_true (by assumption); obtain ⟨ad102, e102, hx102_0, hx102_1, hx102_2⟩ := at_T37 HR0.out x5_1 p102 q102; obtain rfl : ad101 = ad102 := (by injection e102); replace p102 := eq_true p102; replace q102 := eq_true q102; go_wp2
          go_roundg kj2
          case measure => have := HK1.out; have := HJ2.out; omega
          case rel => exact ⟨(wrap64 (x5_1 + 1)), (by first | rfl | (simp; done) | (simp [*]; done)), H', ⟨by have := HK1.out; have := HJ2.out; omega⟩, dz⟩
       ·rw [if_neg c7] at H
        exact absurd H (by simp)
      ·rw [if_neg c6] at H
       exact absurd H (by simp)
     ·replace c5 := Bool.eq_false_iff.mpr c5
      subst c5; have H1 : (some (decide ((l0.length : Int) > a1))) = some r := by rw [if_neg (show ¬ (false = true) by decide)] at H; exact H
      clear H; have H := H1; clear H1; obtain rfl := Option.some.inj H; go_wp2
      go_ret; exact ⟨by first | rfl | (simp; done) | (simp [*]; done), dz⟩

/-! ### hogsheadlaw4_great: function 7 -/
mutual
def hogsheadlaw4_great.l0 : Nat → List (List (S37)) → Int → Option (Bool)
 | 0, _, _ => none
 | k + 1, x0, x3 => if x3 < (x0.length : Int) then (hogsheadlaw4_great.j1 k x0 x3 (decide ((x0.length : Int) ≤ 5))) else (hogsheadlaw4_great.j1 k x0 x3 false)
def hogsheadlaw4_great.j1 : Nat → List (List (S37)) → Int → Bool → Option (Bool)
 | 0, _, _, _ => none
 | k + 1, x0, x3, x12 => if x12 = true then (if 0 ≤ x3 then (if x3 < (x0.length : Int) then ((hogsheadlaw0_GreatNodes.f k (rd_L3 x0 x3) 30).bind fun t104 => (if t104 = true then (some true) else (hogsheadlaw4_great.l0 k x0 (wrap64 (x3 + 1))))) else (none)) else (none)) else (some (decide ((x0.length : Int) > 5)))
end
def hogsheadlaw4_great.f (k : Nat) (l0 : List (List (S37))) : Option (Bool) := hogsheadlaw4_great.l0 k l0 0
theorem hogsheadlaw4_great.mono_l : ∀ k, (∀ y0 y1, LeO (hogsheadlaw4_great.l0 k y0 y1) (hogsheadlaw4_great.l0 (k + 1) y0 y1)) ∧ (∀ y0 y1 y2, LeO (hogsheadlaw4_great.j1 k y0 y1 y2) (hogsheadlaw4_great.j1 (k + 1) y0 y1 y2))
 | 0 => ⟨fun _ _ r h => by simp [hogsheadlaw4_great.l0] at h, fun _ _ _ r h => by simp [hogsheadlaw4_great.j1] at h⟩
 | k + 1 => by
  obtain ⟨ih0, ih1⟩ := hogsheadlaw4_great.mono_l k; refine ⟨?_, ?_⟩
  ·intro y0 y1
   unfold hogsheadlaw4_great.l0
   repeat' with_reducible first | exact ih0 _ _ | exact ih1 _ _ _ | exact hogsheadlaw0_GreatNodes.mono _ _ _ | exact LeO.refl _ | exact LeO.none _ | refine LeO.ite ?_ ?_ | refine LeO.bind ?_ (fun _ => ?_)
  ·intro y0 y1 y2
   unfold hogsheadlaw4_great.j1
   repeat' with_reducible first | exact ih0 _ _ | exact ih1 _ _ _ | exact hogsheadlaw0_GreatNodes.mono _ _ _ | exact LeO.refl _ | exact LeO.none _ | refine LeO.ite ?_ ?_ | refine LeO.bind ?_ (fun _ => ?_)
theorem hogsheadlaw4_great.mono : ∀ a0 k, LeO (hogsheadlaw4_great.f k a0) (hogsheadlaw4_great.f (k + 1) a0) := by
 intro a0 k; obtain ⟨ih0, ih1⟩ := hogsheadlaw4_great.mono_l k; unfold hogsheadlaw4_great.f
 repeat' with_reducible first | exact ih0 _ _ | exact ih1 _ _ _ | exact hogsheadlaw0_GreatNodes.mono _ _ _ | exact LeO.refl _ | exact LeO.none _ | refine LeO.ite ?_ ?_ | refine LeO.bind ?_ (fun _ => ?_)
set_option maxHeartbeats 8000000 in
set_option maxRecDepth 100000 in
theorem hogsheadlaw4_great.calls (k : Nat) (A0 : Option Addr) (c0 : Nat) (l0 : List (List (S37))) (r : Bool) (w : World) (hr0 : Kd.C (Kd.slice 37 k37) w A0 l0.length l0) (hc0 : l0.length ≤ c0) (h : hogsheadlaw4_great.f k l0 = some r) :
  Calls Tryd.prog 7 #[.slice A0 l0.length c0] w fun e w' => e = .returned (.bool r) ∧ Drawn0 w w' := by
 have HR0 := am hr0; have HC0 := am hc0; clear hr0 hc0; have H : (hogsheadlaw4_great.l0 k l0 0) = some r := h; clear h; have H' := am H; clear H; go_enter Tryd.func7, Tryd.ntmps7; go_wp2
 go_loopg [3] k (fun kq v3 w' => ∃ (x3_1 : Int), v3 = .int .i64 x3_1 ∧ Aside0 (hogsheadlaw4_great.l0 kq l0 x3_1 = some r) ∧ Aside0 (kq ≤ k) ∧ Drawn0 w w')
 case atStart => exact ⟨(0), (by first | rfl | (simp; done) | (simp [*]; done)), H', ⟨Nat.le_refl _⟩, dz⟩
 case round =>
  clear H'; obtain ⟨x3_1, rfl, HA, HK1, ⟨m1, rfl⟩⟩ := hrel; cases gk with
  | zero => exact absurd HA.out (by simp [hogsheadlaw4_great.l0])
  | succ k1 =>
   have H := HA.out; clear HA; simp only [hogsheadlaw4_great.l0] at H
   have HC2 := am H; clear H; go_upto_region 2 with (fail)
   go_cut [12] (fun v12 wc => ∃ (kq : Nat) (x12_1 : Bool), v12 = .bool x12_1 ∧ Aside0 (hogsheadlaw4_great.j1 kq l0 x3_1 x12_1 = some r) ∧ Aside0 (kq ≤ k1) ∧ Drawn0 w wc)
   case first =>
    have H := HC2.out; clear HC2; by_cases c3 : x3_1 < (l0.length : Int)
    ·rw [if_pos c3] at H
     have c3b0 : decide (x3_1 < (l0.length : Int)) = true := decide_eq_true c3; clear c3; (first | rw [c3b0] | (simp only [i64_w, i32_w]; rw [c3b0]) | skip)
     have H' := am H; clear H; go_wp2
     go_meet; case rel => exact ⟨_, (decide ((l0.length : Int) ≤ 5)), (by first | rfl | (simp; done) | (simp [*]; done)), H', ⟨by have := HK1.out; first | omega | exact Nat.le_refl _⟩, dz⟩
    ·rw [if_neg c3] at H
     have c3b0 : decide (x3_1 < (l0.length : Int)) = false := decide_eq_false c3; clear c3; (first | rw [c3b0] | (simp only [i64_w, i32_w]; rw [c3b0]) | skip)
     have H' := am H; clear H; go_wp2
     go_meet; case rel => exact ⟨_, (false), (by first | rfl | (simp; done) | (simp [*]; done)), H', ⟨by have := HK1.out; first | omega | exact Nat.le_refl _⟩, dz⟩
   case rest =>
    clear HC2; (try clear p2); (try clear c3); (try clear c3b0); obtain ⟨kq, x12_1, rfl, HA, HJ1, ⟨mc1, rfl⟩⟩ := hcut; cases kq with
    | zero => exact absurd HA.out (by simp [hogsheadlaw4_great.j1])
    | succ kj1 =>
     have H := HA.out; clear HA; simp only [hogsheadlaw4_great.j1] at H
     by_cases c4 : x12_1 = true
     ·subst c4
      have H1 : (if 0 ≤ x3_1 then (if x3_1 < (l0.length : Int) then ((hogsheadlaw0_GreatNodes.f kj1 (rd_L3 l0 x3_1) 30).bind fun t104 => (if t104 = true then (some true) else (hogsheadlaw4_great.l0 kj1 l0 (wrap64 (x3_1 + 1))))) else (none)) else (none)) = some r := by rw [if_pos rfl] at H; exact H
      clear H; have H := H1; clear H1; by_cases c5 : 0 ≤ x3_1
      ·rw [if_pos c5] at H
       have c5b0 : decide (0 ≤ x3_1) = true := decide_eq_true c5; clear c5; by_cases c6 : x3_1 < (l0.length : Int)
       ·rw [if_pos c6] at H
        have c6b0 : decide (x3_1 < (l0.length : Int)) = true := decide_eq_true c6; clear c6; refine oR H ?_; clear H; intro t104 A7 H; by_cases c8 : t104 = true
        ·subst c8
         have H1 : (some true) = some r := by rw [if_pos rfl] at H; exact H
         clear H; have H := H1; clear H1; obtain rfl := Option.some.inj H; have p103 : 0 ≤ (x3_1 : Int) := of_decide_eq_true (by assumption); have q103 : x3_1 < (l0.length : Int) := of_decide_eq_true (by assumption); obtain ⟨ad103, A103_0, c103_0, e103, hx103_0, hl103_0, hi103_0⟩ := at_L3 HR0.out x3_1 p103 q103; cases e103; have HR103_0 := am hi103_0; have HC103_0 := am hl103_0; clear hi103_0 hl103_0; replace p103 := eq_true p103; replace q103 := eq_true q103; go_wp2_with (first | ((with_reducible refine gate_callee (f := 17) rfl ?_); refine gL (some 19) Tryd.func17 #[.slice A103_0 (rd_L3 l0 x3_1).length c103_0, .int .i64 30] ?_; (with_reducible refine (hogsheadlaw0_GreatNodes.calls kj1 _ _ (rd_L3 l0 x3_1) 30 true _ ?side1 ?side2 A7.out).mono ?_); (case side1 => exact cz HR103_0.out); (case side2 => exact HC103_0.out); rintro e w' ⟨rfl, ⟨nd, rfl⟩⟩; refine ⟨_, rfl, ?_⟩))
         go_ret; exact ⟨by first | rfl | (simp; done) | (simp [*]; done), dz⟩
        ·replace c8 := Bool.eq_false_iff.mpr c8
         subst c8; have H1 : (hogsheadlaw4_great.l0 kj1 l0 (wrap64 (x3_1 + 1))) = some r := by rw [if_neg (show ¬ (false = true) by decide)] at H; exact H
         clear H; have H := H1; clear H1; have H' := am H; clear H; have p103 : 0 ≤ (x3_1 : Int) := of_decide_eq_true (by assumption); have q103 : x3_1 < (l0.length : Int) := of_decide_eq_true (by assumption); obtain ⟨ad103, A103_0, c103_0, e103, hx103_0, hl103_0, hi103_0⟩ := at_L3 HR0.out x3_1 p103 q103; cases e103; have HR103_0 := am hi103_0; have HC103_0 := am hl103_0; clear hi103_0 hl103_0; replace p103 := eq_true p103; replace q103 := eq_true q103; go_wp2_with (first | ((with_reducible refine gate_callee (f := 17) rfl ?_); refine gL (some 19) Tryd.func17 #[.slice A103_0 (rd_L3 l0 x3_1).length c103_0, .int .i64 30] ?_; (with_reducible refine (hogsheadlaw0_GreatNodes.calls kj1 _ _ (rd_L3 l0 x3_1) 30 false _ ?side1 ?side2 A7.out).mono ?_); (case side1 => exact cz HR103_0.out); (case side2 => exact HC103_0.out); rintro e w' ⟨rfl, ⟨nd, rfl⟩⟩; refine ⟨_, rfl, ?_⟩))
         go_roundg kj1
         case measure => have := HK1.out; have := HJ1.out; omega
         case rel => exact ⟨(wrap64 (x3_1 + 1)), (by first | rfl | (simp; done) | (simp [*]; done)), H', ⟨by have := HK1.out; have := HJ1.out; omega⟩, dz⟩
       ·rw [if_neg c6] at H
        exact absurd H (by simp)
      ·rw [if_neg c5] at H
       exact absurd H (by simp)
     ·replace c4 := Bool.eq_false_iff.mpr c4
      subst c4; have H1 : (some (decide ((l0.length : Int) > 5))) = some r := by rw [if_neg (show ¬ (false = true) by decide)] at H; exact H
      clear H; have H := H1; clear H1; obtain rfl := Option.some.inj H; go_wp2
      go_ret; exact ⟨by first | rfl | (simp; done) | (simp [*]; done), dz⟩

def tri (n : S37) : Tri := (n.f0, n.f1, n.f2)
/-- The blocks of a pile at g, by what stands there: its own, its map's, its row's. -/
def PileAt (W : World) (g k : Nat) : Prop := k = g ∨ ∃ v m b, W.heap[g]? = some (.cells #[.map (some m), v, .bool b] 46 (0, 0)) ∧ (k = m ∨ v.ownBlock = some k)
/-- A pile at block g of W: a map that holds each of its nodes at its path, its row of nodes, and whether something collided. -/
def IsS46 (w0 W : World) (g : Nat) (f0 : Bool) (f1 : List (S37)) (f2 : Bool) : Prop := ∃ v m, W.heap[g]? = some (.cells #[.map (some m), v, .bool f2] 46 (0, 0)) ∧ w0.heap.size ≤ g ∧ w0.heap.size ≤ m ∧ k37.R 37 W w0.heap.size (fun _ => True) v f1 ∧ MapN Tryd.prog 9 W m (f1.map tri)
/-- A row of nodes stays where its block does. -/
theorem nodes_move {e : Nat} {w w1 : World} {base : Nat} {ok : Nat → Prop} {v : Value} {xs : List S37} (h : k37.R e w base ok v xs) (hm : ∀ k, v.ownBlock = some k → w1.heap[k]? = w.heap[k]?) : k37.R e w1 base ok v xs := by
 obtain ⟨h0, inner, ho, hr⟩ := h; exact ⟨h0, inner, own_move ho hm, hr⟩
section
variable {w0 W W1 : World} {g : Nat} {f0 : Bool} {f1 : List (S37)} {f2 : Bool}
theorem IsS46.step (h : IsS46 w0 W g f0 f1 f2) (hm : ∀ k, k < W.heap.size → PileAt W g k → W1.heap[k]? = W.heap[k]?) : IsS46 w0 W1 g f0 f1 f2 := by
 obtain ⟨v, m, hb, hg, hm0, hr, hl⟩ := h; have h1 : ∀ k, v.ownBlock = some k → W1.heap[k]? = W.heap[k]? := fun k hk => by
  obtain ⟨cs, hc⟩ := Kd.R_typed hr k hk; exact hm k (blk_lt hc) (.inr ⟨v, m, f2, hb, .inr hk⟩)
 exact ⟨v, m, (hm g (blk_lt hb) (.inl rfl)).trans hb, hg, hm0, nodes_move hr h1, hl.same (hm m hl.lt (.inr ⟨v, m, f2, hb, .inl rfl⟩))⟩
theorem IsS46.below (h : IsS46 w0 W g f0 f1 f2) (hw : Below W.heap.size W W1) : IsS46 w0 W1 g f0 f1 f2 := h.step (fun k hk _ => hw.block k hk)
theorem IsS46.grown {row : Option Nat} (h : IsS46 w0 W g f0 f1 f2) (hw : W.grownBy W1 row) (hne : ∀ k, PileAt W g k → some k ≠ row) : IsS46 w0 W1 g f0 f1 f2 := h.step (fun k hk ht => hw.block k hk (hne k ht))
theorem IsS46.kept {S : Nat → Prop} (h : IsS46 w0 W g f0 f1 f2) (hk : Kept W W1 S) (hne : ∀ k, PileAt W g k → ¬ S k) : IsS46 w0 W1 g f0 f1 f2 := h.step (fun k hlt ht => hk.2 k hlt (hne k ht))
theorem IsS46.alloc (h : IsS46 w0 W g f0 f1 f2) (o : Obj) : IsS46 w0 (W.alloc o) g f0 f1 f2 := h.below (bA (Below.refl _ _) o)
theorem IsS46.drewN (h : IsS46 w0 W g f0 f1 f2) (m : Nat) : IsS46 w0 (W.drewN m) g f0 f1 f2 := h.step (fun _ _ _ => rfl)
theorem IsS46.drew (h : IsS46 w0 W g f0 f1 f2) : IsS46 w0 W.drew g f0 f1 f2 := h.step (fun _ _ _ => rfl)
theorem IsS46.at_ {m : Nat} (hq : W.drewN m = W1) (h : IsS46 w0 W g f0 f1 f2) : IsS46 w0 W1 g f0 f1 f2 := by subst hq; exact IsS46.drewN h m
theorem IsS46.lt (h : IsS46 w0 W g f0 f1 f2) : g < W.heap.size := by
 obtain ⟨v, m, hb, _⟩ := h; exact blk_lt hb
theorem IsS46.ge (h : IsS46 w0 W g f0 f1 f2) : w0.heap.size ≤ g := by
 obtain ⟨v, m, hb, hg, _⟩ := h; exact hg
theorem IsS46.fresh (h : IsS46 w0 W g f0 f1 f2) : ∀ k, W.heap.size ≤ k → k ≠ g := fun k hk e => by have := h.lt; omega
theorem IsS46.lower {w00 : World} (h : IsS46 w0 W g f0 f1 f2) (hs : w00.heap.size ≤ w0.heap.size) : IsS46 w00 W g f0 f1 f2 := by
 obtain ⟨v, m, hb, hg, hm0, hr, hl⟩ := h; exact ⟨v, m, hb, Nat.le_trans hs hg, Nat.le_trans hs hm0, Kd.R_lower hr hs, hl⟩
/-- The pile's blocks are its own, of the pile's and nodes' types, and a map. -/
theorem IsS46.typed (h : IsS46 w0 W g f0 f1 f2) (k : Nat) (ht : PileAt W g k) : (w0.heap.size ≤ k ∧ k < W.heap.size) ∧ ∀ cs q fr, W.heap[k]? = some (.cells cs q fr) → (q = 46 ∧ k = g) ∨ (q = 37 ∧ ∃ v m b, W.heap[g]? = some (.cells #[.map (some m), v, .bool b] 46 (0, 0)) ∧ v.ownBlock = some k) := by
 obtain ⟨v, m, hb, hg, hm0, hr, hl⟩ := h; rcases ht with rfl | ⟨v', m', b', hb', ht⟩
 ·refine ⟨⟨hg, blk_lt hb⟩, fun cs q fr hc => .inl ⟨?_, rfl⟩⟩
  rw [hb] at hc; injection hc with hc; injection hc with _ hc; exact hc.symm
 ·rw [hb] at hb'
  injection hb' with hb'; injection hb' with hb'; have e2 : #[Value.map (some m), v, .bool f2].toList = #[Value.map (some m'), v', .bool b'].toList := congrArg _ hb'; simp only [List.cons.injEq, Value.map.injEq, Option.some.injEq, Value.bool.injEq, and_true] at e2
  obtain ⟨rfl, rfl, rfl⟩ := e2; rcases ht with rfl | ht
  ·refine ⟨⟨hm0, hl.lt⟩, fun cs q fr hc => ?_⟩
   obtain ⟨es, clock, he⟩ := hl.is_map; rw [he] at hc; cases hc
  ·obtain ⟨cs', hc'⟩ := Kd.R_typed hr k ht
   refine ⟨⟨Kd.R_base hr k ht, blk_lt hc'⟩, fun cs q fr hc => .inr ⟨?_, v, _, _, hb, ht⟩⟩
   rw [hc'] at hc; injection hc with hc; injection hc with _ hc; exact hc.symm
section
variable {α : Type} {d : Kd α} {e : Nat} {base : Nat} {ok : Nat → Prop} {v : Value} {xs : List α}
theorem IsS46.apartT (h : IsS46 w0 W g f0 f1 f2) (ho : d.R e W base ok v xs) (ht : ∀ q, q ∈ e :: d.E → q ≠ 46 ∧ q ≠ 37) : d.R e W base (fun k => ok k ∧ ¬ PileAt W g k) v xs :=
 Kd.R_mono (Kd.R_bound ho) (fun k hk => ⟨hk.1, fun h2 => by
  obtain ⟨_, _, _, q, hq, cells', hc⟩ := hk; have h3 := ht q hq; rcases (h.typed k h2).2 _ _ _ hc with h4 | h4
  ·exact h3.1 h4.1
  ·exact h3.2 h4.1⟩)
theorem IsS46.apart (h : IsS46 w0 W g f0 f1 f2) (ho : d.R e W base ok v xs) (ht : ∀ q, q ∈ e :: d.E → q ≠ 46) : d.R e W base (fun k => ok k ∧ k ≠ g) v xs := by
 obtain ⟨v, m, hb, _⟩ := h; exact Kd.R_types ho hb ht
theorem IsS46.own_ne (h : IsS46 w0 W g f0 f1 f2) (ho : d.R e W base ok v xs) (ht : e ≠ 46) : some g ≠ v.ownBlock := by
 obtain ⟨v, m, hb, _⟩ := h; exact Kd.R_ne ho hb ht
end
theorem PileAt.back {w w' : World} {g k : Nat} (h : w.heap[g]? = w'.heap[g]?) (hk : PileAt w' g k) : PileAt w g k := by
 rcases hk with rfl | ⟨v, m, b, hb, hk⟩
 ·exact .inl rfl
 ·exact .inr ⟨v, m, b, h.trans hb, hk⟩
theorem IsS46.ne_blk {a : Nat} {cs : Array Value} {t : TypeId} {fr : Nat × Nat} (h : IsS46 w0 W g f0 f1 f2) (hb2 : W.heap[a]? = some (.cells cs t fr)) (ht : t ≠ 46) : g ≠ a := by
 rintro rfl; obtain ⟨v, m, hb, _⟩ := h; rw [hb] at hb2; injection hb2 with hb2; injection hb2 with _ hb2; exact ht hb2.symm
/-- A store into a block that is none of the pile's. -/
theorem IsS46.farP {p : Addr} (h : IsS46 w0 W g f0 f1 f2) (hne : ¬ PileAt W g p.block) (u : Value) : IsS46 w0 (W.setCell p u) g f0 f1 f2 := h.step (fun k _ ht => Below.heap_setCell W p u k (fun e => hne (e ▸ ht)))
theorem IsS46.set_2 (h : IsS46 w0 W g f0 f1 f2) (x : Bool) : IsS46 w0 (W.setCell ⟨g, 2, none⟩ (.bool x)) g f0 f1 x := by
 obtain ⟨v, m, hb, hg, hm0, hr, hl⟩ := h; obtain ⟨es, clock, he⟩ := hl.is_map; have hmg : m ≠ g := by
  rintro rfl; rw [hb] at he; cases he
 refine ⟨v, m, by simpa using blk_set hb 2 (.bool x), hg, hm0, Kd.R_set hr hb (by decide) _ _, hl.set (a := ⟨g, 2, none⟩) hmg _⟩
theorem IsS46.boxN {gb : Nat} (h : IsS46 w0 W g f0 f1 f2) (hg : gb = W.heap.size) (hb : Below W.heap.size W W1) : ∀ k, PileAt W1 g k → k < gb := fun k hk => by
 rw [hg]; exact (h.typed k (PileAt.back (hb.block g h.lt).symm hk)).1.2
theorem IsS46.far3N {b : Nat} (h : IsS46 w0 W g f0 f1 f2) (hn : ∀ k, PileAt W g k → k < b) (u v x : Value) : IsS46 w0 (((W.setCell ⟨b, 0, none⟩ u).setCell ⟨b, 1, none⟩ v).setCell ⟨b, 2, none⟩ x) g f0 f1 f2 :=
 h.step (fun k _ ht => by
  have h1 : k ≠ b := fun e => by have := hn k ht; omega
  exact ((Below.heap_setCell _ ⟨b, 2, none⟩ x k h1).trans (Below.heap_setCell _ ⟨b, 1, none⟩ v k h1)).trans (Below.heap_setCell _ ⟨b, 0, none⟩ u k h1))
/-- A pile, opened. -/
theorem IsS46.open_ (h : IsS46 w0 W g f0 f1 f2) : ∃ m A1 c1, W.heap[g]? = some (.cells #[.map (some m), .slice A1 f1.length c1, .bool f2] 46 (0, 0)) ∧ w0.heap.size ≤ g ∧ Kd.C k37 W A1 f1.length f1 ∧ f1.length ≤ c1 := by
 obtain ⟨v, m, hb, hg, hm0, hr, hl⟩ := h; obtain ⟨A, c, rfl, h1, h2⟩ := Kd.R_reads hr; exact ⟨m, A, c, hb, hg, h2, h1⟩
end
theorem cellS46_0 {W : World} {g m n c1 : Nat} {A1 : Option Addr} {b : Bool} (h : W.heap[g]? = some (.cells #[.map (some m), .slice A1 n c1, .bool b] 46 (0, 0))) : W.cell? ⟨g, 0, none⟩ = some (.map (some m)) := (blk_cell h 0).trans rfl
theorem cellS46_1 {W : World} {g m n c1 : Nat} {A1 : Option Addr} {b : Bool} (h : W.heap[g]? = some (.cells #[.map (some m), .slice A1 n c1, .bool b] 46 (0, 0))) : W.cell? ⟨g, 1, none⟩ = some (.slice A1 n c1) := (blk_cell h 1).trans rfl
theorem cellS46_2 {W : World} {g m n c1 : Nat} {A1 : Option Addr} {b : Bool} (h : W.heap[g]? = some (.cells #[.map (some m), .slice A1 n c1, .bool b] 46 (0, 0))) : W.cell? ⟨g, 2, none⟩ = some (.bool b) := (blk_cell h 2).trans rfl
theorem keep_blk {W W1 : World} {b : Nat} {o : Obj} (h : W.heap[b]? = some o) (hk : KeepBut W W1 W.heap.size none) : W1.heap[b]? = some o := (hk.2 b (blk_lt h) (Nat.ne_of_lt (blk_lt h)) (by simp)).trans h
/-- What a look-up in the pile's map tells. -/
def pile_look.f (s0 : Bool) (s1 : List (S37)) (s2 : Bool) (p : ByteArray) : Option (ByteArray × Int × ByteArray × Bool × Bool × List (S37) × Bool) := if p.size ≤ maxLen then some ((foundT (s1.map tri) p).1.1, (foundT (s1.map tri) p).1.2.1, (foundT (s1.map tri) p).1.2.2, (foundT (s1.map tri) p).2, s0, s1, s2) else none
theorem IsS46.look {w0 W : World} {g : Nat} {f0 : Bool} {f1 : List (S37)} {f2 : Bool} {p : ByteArray} {t0 : ByteArray} {t1 : Int} {t2 : ByteArray} {t3 t4 : Bool} {t5 : List (S37)} {t6 : Bool} (h : IsS46 w0 W g f0 f1 f2) (ha : pile_look.f f0 f1 f2 p = some (t0, t1, t2, t3, t4, t5, t6)) :
  (∃ m, W.cell? ⟨g, 0, none⟩ = some (.map (some m)) ∧ (Instr.lookup 44 (.map (some m)) (.string p) true).run Tryd.prog W = .ok (.tuple #[.agg #[.string t0, .int .i64 t1, .string t2], .bool t3]) W) ∧ t4 = f0 ∧ t5 = f1 ∧ t6 = f2 := by
 unfold pile_look.f at ha
 by_cases hp : p.size ≤ maxLen
 ·rw [if_pos hp] at ha
  simp only [Option.some.injEq, Prod.mk.injEq] at ha
  obtain ⟨rfl, rfl, rfl, rfl, rfl, rfl, rfl⟩ := ha; obtain ⟨v, m, hb, hg, hm0, hr, hl⟩ := h; exact ⟨⟨m, (blk_cell hb 0).trans rfl, MapN.look hl Tryd.underlying9 Tryd.underlying44 (by kernel_rfl) hp⟩, rfl, rfl, rfl⟩
 ·rw [if_neg hp] at ha
  cases ha
/-- A pile none of whose blocks is N or later, its map at m. -/
def IsPileN (w0 W : World) (g N m : Nat) (f0 : Bool) (f1 : List (S37)) (f2 : Bool) : Prop := IsS46 w0 W g f0 f1 f2 ∧ (∀ k, PileAt W g k → k < N) ∧ W.cell? ⟨g, 0, none⟩ = some (.map (some m))
section
variable {w0 W W1 : World} {g N m : Nat} {f0 : Bool} {f1 : List (S37)} {f2 : Bool}
theorem IsPileN.fst (t : IsPileN w0 W g N m f0 f1 f2) : IsS46 w0 W g f0 f1 f2 := t.1
theorem IsPileN.of (h : IsS46 w0 W g f0 f1 f2) : ∃ m, IsPileN w0 W g W.heap.size m f0 f1 f2 := by
 have h1 := fun k hk => (h.typed k hk).1.2
 have h2 := h; obtain ⟨v, m, hb, _⟩ := h2; exact ⟨m, h, h1, (blk_cell hb 0).trans rfl⟩
theorem IsPileN.step (t : IsPileN w0 W g N m f0 f1 f2) (hm : ∀ k, k < W.heap.size → PileAt W g k → W1.heap[k]? = W.heap[k]?) : IsPileN w0 W1 g N m f0 f1 f2 := by
 have hg := hm g t.1.lt (.inl rfl); refine ⟨t.1.step hm, fun k hk => t.2.1 k (PileAt.back hg.symm hk), ?_⟩
 obtain ⟨v, m', hb, _⟩ := t.1; have h1 := t.2.2; rw [(blk_cell hb 0).trans rfl] at h1; exact ((blk_cell (hg.trans hb) 0).trans rfl).trans h1
theorem IsPileN.below (t : IsPileN w0 W g N m f0 f1 f2) (hw : Below W.heap.size W W1) : IsPileN w0 W1 g N m f0 f1 f2 := t.step (fun k hk _ => hw.block k hk)
theorem IsPileN.alloc (t : IsPileN w0 W g N m f0 f1 f2) (o : Obj) : IsPileN w0 (W.alloc o) g N m f0 f1 f2 := t.below (bA (Below.refl _ _) o)
theorem IsPileN.drewN (t : IsPileN w0 W g N m f0 f1 f2) (n : Nat) : IsPileN w0 (W.drewN n) g N m f0 f1 f2 := t.step (fun _ _ _ => rfl)
theorem IsPileN.drew (t : IsPileN w0 W g N m f0 f1 f2) : IsPileN w0 W.drew g N m f0 f1 f2 := t.step (fun _ _ _ => rfl)
theorem IsPileN.far {p : Addr} (t : IsPileN w0 W g N m f0 f1 f2) (hN : N ≤ p.block) (u : Value) : IsPileN w0 (W.setCell p u) g N m f0 f1 f2 := t.step (fun k _ ht => Below.heap_setCell W p u k (fun e => by have := t.2.1 k ht; omega))
theorem IsPileN.far3 {b : Nat} (t : IsPileN w0 W g N m f0 f1 f2) (hN : N ≤ b) (u v x : Value) : IsPileN w0 (((W.setCell ⟨b, 0, none⟩ u).setCell ⟨b, 1, none⟩ v).setCell ⟨b, 2, none⟩ x) g N m f0 f1 f2 := ((t.far (p := ⟨b, 0, none⟩) hN u).far (p := ⟨b, 1, none⟩) hN v).far (p := ⟨b, 2, none⟩) hN x
theorem IsPileN.lt (t : IsPileN w0 W g N m f0 f1 f2) : g < W.heap.size := t.1.lt
theorem IsPileN.ge (t : IsPileN w0 W g N m f0 f1 f2) : w0.heap.size ≤ g := t.1.ge
theorem IsPileN.kept {S : Nat → Prop} (t : IsPileN w0 W g N m f0 f1 f2) (hk : Kept W W1 S) (hne : ∀ k, PileAt W g k → ¬ S k) : IsPileN w0 W1 g N m f0 f1 f2 := t.step (fun k hlt ht => hk.2 k hlt (hne k ht))
theorem IsPileN.keep (t : IsPileN w0 W g N m f0 f1 f2) (hk : KeepBut W W1 W.heap.size none) : IsPileN w0 W1 g N m f0 f1 f2 := t.step (fun k hlt _ => hk.2 k hlt (by omega) (by simp))
theorem IsPileN.cell0 (t : IsPileN w0 W g N m f0 f1 f2) : W.cell? ⟨g, 0, none⟩ = some (.map (some m)) := t.2.2
theorem IsPileN.look {p : ByteArray} {t0 : ByteArray} {t1 : Int} {t2 : ByteArray} {t3 t4 : Bool} {t5 : List (S37)} {t6 : Bool} {s0 : Bool} {s1 : List (S37)} {s2 : Bool} (t : IsPileN w0 W g N m f0 f1 f2) (ha : pile_look.f s0 s1 s2 p = some (t0, t1, t2, t3, t4, t5, t6)) (he : s1 = f1) : (Instr.lookup 44 (.map (some m)) (.string p) true).run Tryd.prog W = .ok (.tuple #[.agg #[.string t0, .int .i64 t1, .string t2], .bool t3]) W := by
 subst he; have hb : pile_look.f f0 s1 f2 p = some (t0, t1, t2, t3, f0, s1, f2) := by
  unfold pile_look.f at ha ⊢
  by_cases hp : p.size ≤ maxLen
  ·rw [if_pos hp] at ha ⊢
   simp only [Option.some.injEq, Prod.mk.injEq] at ha
   obtain ⟨rfl, rfl, rfl, rfl, _⟩ := ha; rfl
  ·rw [if_neg hp] at ha
   cases ha
 obtain ⟨⟨m', hc, hl⟩, _⟩ := t.1.look hb; rw [t.2.2] at hc; simp only [Option.some.injEq, Value.map.injEq] at hc
 subst hc; exact hl
theorem IsPileN.set_2 (t : IsPileN w0 W g N m f0 f1 f2) (x : Bool) : IsPileN w0 (W.setCell ⟨g, 2, none⟩ (.bool x)) g N m f0 f1 x := by
 obtain ⟨v, m', hb, _⟩ := t.1; have hm := t.2.2; rw [(blk_cell hb 0).trans rfl] at hm; have h2 : (W.setCell ⟨g, 2, none⟩ (.bool x)).heap[g]? = some (.cells #[.map (some m'), v, .bool x] 46 (0, 0)) := by simpa using blk_set hb 2 (.bool x)
 refine ⟨t.1.set_2 x, fun k hk => t.2.1 k ?_, ((blk_cell h2 0).trans rfl).trans hm⟩
 rcases hk with rfl | ⟨v', m'', b', hb', hk⟩
 ·exact .inl rfl
 ·rw [h2] at hb'
  injection hb' with hb'; injection hb' with hb'; have e2 : #[Value.map (some m'), v, .bool x].toList = #[Value.map (some m''), v', .bool b'].toList := congrArg _ hb'; simp only [List.cons.injEq, Value.map.injEq, Option.some.injEq, Value.bool.injEq, and_true] at e2
  obtain ⟨rfl, rfl, rfl⟩ := e2; exact .inr ⟨_, _, _, hb, hk⟩
end
section
variable {w0 W W1 : World} {g N m : Nat} {f0 : Bool} {f1 : List (S37)} {f2 : Bool}
theorem IsPileN.open_ (t : IsPileN w0 W g N m f0 f1 f2) : ∃ A c, W.heap[g]? = some (.cells #[.map (some m), .slice A f1.length c, .bool f2] 46 (0, 0)) ∧ w0.heap.size ≤ g ∧ w0.heap.size ≤ m ∧ k37.R 37 W w0.heap.size (fun _ => True) (.slice A f1.length c) f1 ∧ MapN Tryd.prog 9 W m (f1.map tri) ∧ ∀ k, (Value.slice A f1.length c).ownBlock = some k → k < N := by
 obtain ⟨⟨v, m', hb, hg, hm0, hr, hl⟩, h2, h3⟩ := t; have h4 : W.cell? ⟨g, 0, none⟩ = some (.map (some m')) := (blk_cell hb 0).trans rfl; rw [h4] at h3; injection h3 with h3; injection h3 with h3; injection h3 with h3; subst h3; obtain ⟨A, c, rfl, _⟩ := Kd.R_reads hr; exact ⟨A, c, hb, hg, hm0, hr, hl, fun k hk => h2 k (.inr ⟨_, _, _, hb, .inr hk⟩)⟩
end
/-- An update of a map with a node, in a region that draws. -/
theorem updN_ {P : Program} {ops : Array Oper} {Q : Exit → Act → World → Prop} {oi : Oper} {N : Option Tmp} {a : Act} {w : World} {K : Act → World → Prop} (m x v : Operand) (t k e : TypeId) (hw : Region.wanted oi (yielded ops a.tmps) = true) (hN : oi.dst = N) (hop : oi.op = .mapUpdate t m x v)
  (hk : P.underlying k = some .string) (ht : P.underlying t = some (.map k e)) {b n : Nat} {D : DataW Unit} {q : Tri} (hm : a.eval m = .map (some b)) (hx : a.eval x = .string q.1) (hv : a.eval v = valT q)
  (hown : w.ownsMap P k nodeR b n D) (hn : n < maxLen) (hp : q.1.size ≤ maxLen)
  (h : ∀ w', w'.ownsMap P k nodeR b (n + 1) (D.put (.string q.1.data.toList) (datT q)) → w.grownBy w' (some b) → K (a.put N undef) w') : if Region.wanted oi (yielded ops a.tmps) = true then Oper.wp P oi a w K Q else K (a.put N undef) w := by
 rw [if_pos hw]; subst hN; obtain ⟨w', hrun, r1, r2⟩ := hown.update (Maps.string_keyed hk) ht hn (WideMaps.keyOf_string_mk hk hp) (nodeR_val q); unfold Oper.wp
 simp [execOp, hop, hm, hx, hv, hrun, Result.andThen]
 exact h _ r1 r2
theorem MapN.ne_cells {P : Program} {k m g t : Nat} {fr : Nat × Nat} {cs : Array Value} {l : List Tri} {w : World} (h : MapN P k w m l) (hb : w.heap[g]? = some (.cells cs t fr)) : m ≠ g := by
 rintro rfl; obtain ⟨es, clock, he⟩ := h.is_map; rw [he] at hb; cases hb
theorem R_mappedN {P : Program} {k e' m : Nat} {l : List Tri} {w w1 : World} {α : Type} {d : Kd α} {base : Nat} {ok : Nat → Prop} {v : Value} {xs : List α} (h : d.R e' w base ok v xs) (hm : MapN P k w m l) (hg : w.grownBy w1 (some m)) : d.R e' w1 base ok v xs :=
 Kd.R_mono (Kd.R_grown (Kd.R_bound h) hg (fun k hk he => by
  obtain ⟨_, _, _, q, _, cells, hc⟩ := hk; injection he with he; subst he; obtain ⟨es, clock, hb⟩ := hm.is_map; rw [hb] at hc; cases hc)) (fun _ hk => hk.1)
theorem MapN.ne_row {P : Program} {k e' m : Nat} {l : List Tri} {w : World} {α : Type} {d : Kd α} {base : Nat} {ok : Nat → Prop} {v : Value} {xs : List α} (h : MapN P k w m l) (ho : d.R e' w base ok v xs) : some m ≠ v.ownBlock := fun h2 => by
 obtain ⟨cs, hc⟩ := Kd.R_typed ho m h2.symm; exact MapN.ne_cells h hc rfl
/-- All else stays: what is none of the pile's blocks at w. -/
def KeptP (w W : World) (g : Nat) : Prop := Kept w W (PileAt w g)
section
variable {w W W1 : World} {g : Nat}
theorem KeptP.refl (w : World) (g : Nat) : KeptP w w g := Kept.refl w _
theorem KeptP.size (h : KeptP w W g) : w.heap.size ≤ W.heap.size := h.1
theorem KeptP.set_ (h : KeptP w W g) (j : Nat) (u : Value) : KeptP w (W.setCell ⟨g, j, none⟩ u) g := ⟨by simpa [World.setCell] using h.1, fun i hi hn => (Below.heap_setCell W ⟨g, j, none⟩ u i (fun e => hn (.inl e))).trans (h.2 i hi hn)⟩
theorem KeptP.drewN (h : KeptP w W g) (n : Nat) : KeptP w (W.drewN n) g := ⟨h.1, fun i hi hn => h.2 i hi hn⟩
theorem KeptP.drew (h : KeptP w W g) : KeptP w W.drew g := ⟨h.1, fun i hi hn => h.2 i hi hn⟩
theorem KeptP.below (h : KeptP w W g) (hb : Below W.heap.size W W1) : KeptP w W1 g := ⟨Nat.le_trans h.1 hb.size, fun i hi hn => (hb.block i (Nat.lt_of_lt_of_le hi h.1)).trans (h.2 i hi hn)⟩
theorem KeptP.alloc (h : KeptP w W g) (o : Obj) : KeptP w (W.alloc o) g := h.below (bA (Below.refl _ _) o)
theorem KeptP.far {p : Addr} (h : KeptP w W g) (hN : w.heap.size ≤ p.block) (u : Value) : KeptP w (W.setCell p u) g := ⟨by simpa [World.setCell] using h.1, fun i hi hn => (Below.heap_setCell W p u i (by omega)).trans (h.2 i hi hn)⟩
theorem KeptP.keep (h : KeptP w W g) (hk : KeepBut W W1 W.heap.size none) : KeptP w W1 g := ⟨Nat.le_trans h.1 hk.1, fun i hi hn => (hk.2 i (Nat.lt_of_lt_of_le hi h.1) (by have := h.1; omega) (by simp)).trans (h.2 i hi hn)⟩
end
def pile_lookN.f (s0 : Bool) (s1 : List (S37)) (s2 : Bool) (p : ByteArray) (k : Int) (d : ByteArray) : Option (ByteArray × Int × ByteArray × Bool × Bool × List (S37) × Bool) := pile_look.f s0 s1 s2 p
/-- A node put behind the others (its path is not there yet). -/
def pile_put.f (s0 : Bool) (s1 : List (S37)) (s2 : Bool) (p : ByteArray) (k : Int) (d : ByteArray) : Option (Bool × List (S37) × Bool) := if p.size ≤ maxLen ∧ d.size ≤ maxLen ∧ s1.length < 1000000000 ∧ lookT (s1.map tri) p = none then some (s0, s1 ++ [⟨p, k, d⟩], s2) else none

-- (a state that is made)
end Go.Proofs.YtiamdmlbhmgnjaaDoor.P
