/- Laid by a program of this session (wip/pr), after the printer of the kit: the functions that a statement reaches as plain Lean functions, and that the calls of the machine come to them. No condition. -/
import Derived.Test.YtiamdmlbhmgnjaaDoorPx0
import Derived.Test.YtiamdmlbhmgnjaaDoorPx13
namespace Go.Proofs.YtiamdmlbhmgnjaaDoor.P
open Go.RowKit Go.Proofs.YtiamdmlbhmgnjaaDoorX Go.Proofs.YtiamdmlbhmgnjaaDoorW.PrintWords Go.Proofs.YtiamdmlbhmgnjaaDoorW.PrintLast Go.Proofs.YtiamdmlbhmgnjaaDoorW.PrintMore
attribute [local go_sem] max2_int min2_int max_two min_two
set_option linter.unusedVariables false
set_option linter.unusedSimpArgs false

/-- Values as they were laid, one cell each. -/
def rawV : Kd Value where
 sz := 1
 E := []
 K := fun _ x cs => cs = [x] ∧ x.oneCell' = true
 M := fun _ _ _ x cs => cs = [x] ∧ x.oneCell' = true
 K_len := by
  rintro w x cs ⟨rfl, _⟩; rfl
 K_one := by
  rintro w x cs ⟨rfl, h⟩ u hu; rw [List.mem_singleton.1 hu]; exact h
 K_below := fun _ h => h
 K_of_M := fun h => h
 M_mono := fun _ h => h
 M_bound := fun h => ⟨h.1, h.2⟩
 M_move := fun _ h => h
 M_lower := fun _ h => h
theorem rawV_two {w : World} {base : Nat} {okp : Nat → Prop} {a b : Value} (ha : a.oneCell' = true) (hb : b.oneCell' = true) : Reps (rawV.M w base okp) 1 [a, b] [a, b] := by
 refine ⟨rfl, fun j p hp => ?_⟩
 match j with
 | 0 =>
  obtain rfl : a = p := by simpa using hp
  exact ⟨rfl, ha⟩
 | 1 =>
  obtain rfl : b = p := by simpa using hp
  exact ⟨rfl, hb⟩
 | j + 2 => simp at hp
/-- union.Of of two trees that are written out as a list. -/
def union_Two.f (k : Nat) (p : Int) (a b : List (S37)) : Option (List (S37) × Int) := union_Of.f k p [a, b]
theorem union_Two.mono : ∀ p a b k, LeO (union_Two.f k p a b) (union_Two.f (k + 1) p a b) := by
 intro p a b k; unfold union_Two.f
 exact union_Of.mono _ _ k
theorem union_Two.calls (k : Nat) (p : Int) (A1 : Option Addr) (c1 : Nat) (a : List (S37)) (A2 : Option Addr) (c2 : Nat) (b : List (S37)) (r1 : List (S37)) (r2 : Int) (A : Option Addr) (c : Nat) (w : World) (hr0 : Kd.C rawV w A 2 [.slice A1 a.length c1, .slice A2 b.length c2]) (hc0 : 2 ≤ c) (hr1 : Kd.C k37 w A1 a.length a) (hc1 : a.length ≤ c1) (hr2 : Kd.C k37 w A2 b.length b) (hc2 : b.length ≤ c2) (h : union_Two.f k p a b = some (r1, r2)) :
  Calls Tryd.prog 9 #[.int .i64 p, .slice A 2 c] w fun e w' => ∃ v0_ : Value, e = .returned (.tuple #[v0_, .int .i64 r2]) ∧ Kd.R k37 37 w' w.heap.size (fun _ => True) v0_ r1 ∧ Below w.heap.size w w' := by
 refine union_Of.calls k p A c [a, b] r1 r2 w ?_ hc0 h
 obtain ⟨h1, h2, h3⟩ := hr0; refine ⟨h1, h2, fun h0 => ?_⟩
 obtain ⟨ad, e, hc⟩ := h3 h0; refine ⟨ad, e, fun j q hq => ?_⟩
 match j with
 | 0 =>
  obtain ⟨cs, l, ⟨rfl, _⟩, hcell⟩ := hc 0 _ rfl; obtain rfl : a = q := by simpa using hq
  exact ⟨_, l, ⟨A1, c1, rfl, hc1, hr1⟩, hcell⟩
 | 1 =>
  obtain ⟨cs, l, ⟨rfl, _⟩, hcell⟩ := hc 1 _ rfl; obtain rfl : b = q := by simpa using hq
  exact ⟨_, l, ⟨A2, c2, rfl, hc2, hr2⟩, hcell⟩
 | j + 2 => simp at hq

/-! ### hogsheadlaw0_GreatNodes: function 17 -/
mutual
def hogsheadlaw0_GreatNodes.l0 : Nat → List (S37) → Int → Int → Option (Bool)
 | 0, _, _, _ => none
 | k + 1, x0, x1, x5 => if x5 < (x0.length : Int) then (hogsheadlaw0_GreatNodes.j1 k x0 x1 x5 (decide ((x0.length : Int) ≤ x1))) else (hogsheadlaw0_GreatNodes.j1 k x0 x1 x5 false)
def hogsheadlaw0_GreatNodes.j1 : Nat → List (S37) → Int → Int → Bool → Option (Bool)
 | 0, _, _, _, _ => none
 | k + 1, x0, x1, x5, x15 => if x15 = true then (if 0 ≤ x5 then (if x5 < (x0.length : Int) then (if (((rd_T37 x0 x5).f0).size : Int) > 300 then (some true) else (if (((rd_T37 x0 x5).f2).size : Int) > 500 then (some true) else (hogsheadlaw0_GreatNodes.l0 k x0 x1 (wrap64 (x5 + 1))))) else (none)) else (none)) else (some (decide ((x0.length : Int) > x1)))
end
def hogsheadlaw0_GreatNodes.f (k : Nat) (l0 : List (S37)) (a1 : Int) : Option (Bool) := hogsheadlaw0_GreatNodes.l0 k l0 a1 0
theorem hogsheadlaw0_GreatNodes.mono_l : ∀ k, (∀ y0 y1 y2, LeO (hogsheadlaw0_GreatNodes.l0 k y0 y1 y2) (hogsheadlaw0_GreatNodes.l0 (k + 1) y0 y1 y2)) ∧ (∀ y0 y1 y2 y3, LeO (hogsheadlaw0_GreatNodes.j1 k y0 y1 y2 y3) (hogsheadlaw0_GreatNodes.j1 (k + 1) y0 y1 y2 y3))
 | 0 => ⟨fun _ _ _ r h => by simp [hogsheadlaw0_GreatNodes.l0] at h, fun _ _ _ _ r h => by simp [hogsheadlaw0_GreatNodes.j1] at h⟩
 | k + 1 => by
  obtain ⟨ih0, ih1⟩ := hogsheadlaw0_GreatNodes.mono_l k; refine ⟨?_, ?_⟩
  ·intro y0 y1 y2
   unfold hogsheadlaw0_GreatNodes.l0
   repeat' with_reducible first | exact ih0 _ _ _ | exact ih1 _ _ _ _ | exact LeO.refl _ | exact LeO.none _ | refine LeO.ite ?_ ?_ | refine LeO.bind ?_ (fun _ => ?_)
  ·intro y0 y1 y2 y3
   unfold hogsheadlaw0_GreatNodes.j1
   repeat' with_reducible first | exact ih0 _ _ _ | exact ih1 _ _ _ _ | exact LeO.refl _ | exact LeO.none _ | refine LeO.ite ?_ ?_ | refine LeO.bind ?_ (fun _ => ?_)
theorem hogsheadlaw0_GreatNodes.mono : ∀ a0 a1 k, LeO (hogsheadlaw0_GreatNodes.f k a0 a1) (hogsheadlaw0_GreatNodes.f (k + 1) a0 a1) := by
 intro a0 a1 k; obtain ⟨ih0, ih1⟩ := hogsheadlaw0_GreatNodes.mono_l k; unfold hogsheadlaw0_GreatNodes.f
 repeat' with_reducible first | exact ih0 _ _ _ | exact ih1 _ _ _ _ | exact LeO.refl _ | exact LeO.none _ | refine LeO.ite ?_ ?_ | refine LeO.bind ?_ (fun _ => ?_)
set_option maxHeartbeats 8000000 in
set_option maxRecDepth 100000 in
theorem hogsheadlaw0_GreatNodes.calls (k : Nat) (A0 : Option Addr) (c0 : Nat) (l0 : List (S37)) (a1 : Int) (r : Bool) (w : World) (hr0 : Kd.C k37 w A0 l0.length l0) (hc0 : l0.length ≤ c0) (h : hogsheadlaw0_GreatNodes.f k l0 a1 = some r) :
  Calls Tryd.prog 17 #[.slice A0 l0.length c0, .int .i64 a1] w fun e w' => e = .returned (.bool r) ∧ Drawn0 w w' := by
 have HR0 := am hr0; have HC0 := am hc0; clear hr0 hc0; have H : (hogsheadlaw0_GreatNodes.l0 k l0 a1 0) = some r := h; clear h; have H' := am H; clear H; go_enter Tryd.func17, Tryd.ntmps17; go_wp2
 go_loopg [5] k (fun kq v5 w' => ∃ (x5_1 : Int), v5 = .int .i64 x5_1 ∧ Aside0 (hogsheadlaw0_GreatNodes.l0 kq l0 a1 x5_1 = some r) ∧ Aside0 (kq ≤ k) ∧ Drawn0 w w')
 case atStart => exact ⟨(0), (by first | rfl | (simp; done) | (simp [*]; done)), H', ⟨Nat.le_refl _⟩, dz⟩
 case round =>
  clear H'; (try clear c1); (try clear p2); obtain ⟨x5_1, rfl, HA, HK1, ⟨m1, rfl⟩⟩ := hrel; cases gk with
  | zero => exact absurd HA.out (by simp [hogsheadlaw0_GreatNodes.l0])
  | succ k1 =>
   have H := HA.out; clear HA; simp only [hogsheadlaw0_GreatNodes.l0] at H
   have HC3 := am H; clear H; go_upto_region 2 with (fail)
   go_cut [15] (fun v15 wc => ∃ (kq : Nat) (x15_2 : Bool), v15 = .bool x15_2 ∧ Aside0 (hogsheadlaw0_GreatNodes.j1 kq l0 a1 x5_1 x15_2 = some r) ∧ Aside0 (kq ≤ k1) ∧ Drawn0 w wc)
   case first =>
    have H := HC3.out; clear HC3; by_cases c4 : x5_1 < (l0.length : Int)
    ·rw [if_pos c4] at H
     have c4b0 : decide (x5_1 < (l0.length : Int)) = true := decide_eq_true c4; clear c4; (first | rw [c4b0] | (simp only [i64_w, i32_w]; rw [c4b0]) | skip)
     have H' := am H; clear H; go_wp2
     go_meet; case rel => exact ⟨_, (decide ((l0.length : Int) ≤ a1)), (by first | rfl | (simp; done) | (simp [*]; done)), H', ⟨by have := HK1.out; first | omega | exact Nat.le_refl _⟩, dz⟩
    ·rw [if_neg c4] at H
     have c4b0 : decide (x5_1 < (l0.length : Int)) = false := decide_eq_false c4; clear c4; (first | rw [c4b0] | (simp only [i64_w, i32_w]; rw [c4b0]) | skip)
     have H' := am H; clear H; go_wp2
     go_meet; case rel => exact ⟨_, (false), (by first | rfl | (simp; done) | (simp [*]; done)), H', ⟨by have := HK1.out; first | omega | exact Nat.le_refl _⟩, dz⟩
   case rest =>
    clear HC3; (try clear c1); (try clear p2); (try clear c4); (try clear c4b0); (try clear p2); obtain ⟨kq, x15_2, rfl, HA, HJ2, ⟨mc2, rfl⟩⟩ := hcut; cases kq with
    | zero => exact absurd HA.out (by simp [hogsheadlaw0_GreatNodes.j1])
    | succ kj2 =>
     have H := HA.out; clear HA; simp only [hogsheadlaw0_GreatNodes.j1] at H
     by_cases c5 : x15_2 = true
     ·subst c5
      have H1 : (if 0 ≤ x5_1 then (if x5_1 < (l0.length : Int) then (if (((rd_T37 l0 x5_1).f0).size : Int) > 300 then (some true) else (if (((rd_T37 l0 x5_1).f2).size : Int) > 500 then (some true) else (hogsheadlaw0_GreatNodes.l0 kj2 l0 a1 (wrap64 (x5_1 + 1))))) else (none)) else (none)) = some r := by rw [if_pos rfl] at H; exact H
      clear H; have H := H1; clear H1; by_cases c6 : 0 ≤ x5_1
      ·rw [if_pos c6] at H
       have c6b0 : decide (0 ≤ x5_1) = true := decide_eq_true c6; clear c6; by_cases c7 : x5_1 < (l0.length : Int)
       ·rw [if_pos c7] at H
        have c7b0 : decide (x5_1 < (l0.length : Int)) = true := decide_eq_true c7; clear c7; by_cases c8 : (((rd_T37 l0 x5_1).f0).size : Int) > 300
        ·rw [if_pos c8] at H
         have c8b0 : decide (300 < (((rd_T37 l0 x5_1).f0).size : Int)) = true := decide_eq_true c8; have c8b1 : decide (300 < ((rd_T37 l0 x5_1).f0).size) = true := decide_eq_true (by omega); clear c8; obtain rfl := Option.some.inj H; have p229 : 0 ≤ (x5_1 : Int) := of_decide_eq_true (by assumption); have q229 : x5_1 < (l0.length : Int) := of_decide_eq_true (by assumption); obtain ⟨ad229, e229, hx229_0, hx229_1, hx229_2⟩ := at_T37 HR0.out x5_1 p229 q229; cases e229; replace p229 := eq_true p229; replace q229 := eq_true q229; go_wp2
         go_ret; exact ⟨by first | rfl | (simp; done) | (simp [*]; done), dz⟩
        ·rw [if_neg c8] at H
         have c8b0 : decide (300 < (((rd_T37 l0 x5_1).f0).size : Int)) = false := decide_eq_false c8; have c8b1 : decide (300 < ((rd_T37 l0 x5_1).f0).size) = false := decide_eq_false (by omega); clear c8; by_cases c9 : (((rd_T37 l0 x5_1).f2).size : Int) > 500
         ·rw [if_pos c9] at H
          have c9b0 : decide (500 < (((rd_T37 l0 x5_1).f2).size : Int)) = true := decide_eq_true c9; have c9b1 : decide (500 < ((rd_T37 l0 x5_1).f2).size) = true := decide_eq_true (by omega); clear c9; obtain rfl := Option.some.inj H; have p229 : 0 ≤ (x5_1 : Int) := of_decide_eq_true (by assumption); have q229 : x5_1 < (l0.length : Int) := of_decide_eq_true (by assumption); obtain ⟨ad229, e229, hx229_0, hx229_1, hx229_2⟩ := at_T37 HR0.out x5_1 p229 q229; cases e229; replace p229 := eq_true p229; replace q229 := eq_true q229; have p230 : 0 ≤ (x5_1 : Int) := of_decide_eq_true (by assumption); have q230 : x5_1 < (l0.length : Int) := of_decide_eq_true (by assumption); obtain ⟨ad230, e230, hx230_0, hx230_1, hx230_2⟩ := at_T37 HR0.out x5_1 p230 q230; obtain rfl : ad229 = ad230 := (by injection e230); replace p230 := eq_true p230; replace q230 := eq_true q230; go_wp2
          go_ret; exact ⟨by first | rfl | (simp; done) | (simp [*]; done), dz⟩
         ·rw [if_neg c9] at H
          have c9b0 : decide (500 < (((rd_T37 l0 x5_1).f2).size : Int)) = false := decide_eq_false c9; have c9b1 : decide (500 < ((rd_T37 l0 x5_1).f2).size) = false := decide_eq_false (by omega); clear c9; have H' := am H; clear H; have p229 : 0 ≤ (x5_1 : Int) := of_decide_eq_true (by assumption); have q229 : x5_1 < (l0.length : Int) := of_decide_eq_true (by assumption); obtain ⟨ad229, e229, hx229_0, hx229_1, hx229_2⟩ := at_T37 HR0.out x5_1 p229 q229; cases e229; replace p229 := eq_true p229; replace q229 := eq_true q229; have p230 : 0 ≤ (x5_1 : Int) := of_decide_eq_true (by assumption); have q230 : x5_1 < (l0.length : Int) := of_decide_eq_true (by assumption); obtain ⟨ad230, e230, hx230_0, hx230_1, hx230_2⟩ := at_T37 HR0.out x5_1 p230 q230; obtain rfl : ad229 = ad230 := (by injection e230); replace p230 := eq_true p230; replace q230 := eq_true q230; go_wp2
          go_roundg kj2
          case measure => have := HK1.out; have := HJ2.out; omega
          case rel => exact ⟨(wrap64 (x5_1 + 1)), (by first | rfl | (simp; done) | (simp [*]; done)), H', ⟨by have := HK1.out; have := HJ2.out; omega⟩, dz⟩
       ·rw [if_neg c7] at H
        exact absurd H (by simp)
      ·rw [if_neg c6] at H
       exact absurd H (by simp)
     ·replace c5 := Bool.eq_false_iff.mpr c5
      subst c5; have H1 : (some (decide ((l0.length : Int) > a1))) = some r := by rw [if_neg (show ¬ (false = true) by decide)] at H; exact H
      clear H; have H := H1; clear H1; obtain rfl := Option.some.inj H; go_wp2
      go_ret; exact ⟨by first | rfl | (simp; done) | (simp [*]; done), dz⟩

/-! ### hogsheadlaw4_great: function 7 -/
mutual
def hogsheadlaw4_great.l0 : Nat → List (List (S37)) → Int → Option (Bool)
 | 0, _, _ => none
 | k + 1, x0, x3 => if x3 < (x0.length : Int) then (hogsheadlaw4_great.j1 k x0 x3 (decide ((x0.length : Int) ≤ 5))) else (hogsheadlaw4_great.j1 k x0 x3 false)
def hogsheadlaw4_great.j1 : Nat → List (List (S37)) → Int → Bool → Option (Bool)
 | 0, _, _, _ => none
 | k + 1, x0, x3, x12 => if x12 = true then (if 0 ≤ x3 then (if x3 < (x0.length : Int) then ((hogsheadlaw0_GreatNodes.f k (rd_L4 x0 x3) 30).bind fun t232 => (if t232 = true then (some true) else (hogsheadlaw4_great.l0 k x0 (wrap64 (x3 + 1))))) else (none)) else (none)) else (some (decide ((x0.length : Int) > 5)))
end
def hogsheadlaw4_great.f (k : Nat) (l0 : List (List (S37))) : Option (Bool) := hogsheadlaw4_great.l0 k l0 0
theorem hogsheadlaw4_great.mono_l : ∀ k, (∀ y0 y1, LeO (hogsheadlaw4_great.l0 k y0 y1) (hogsheadlaw4_great.l0 (k + 1) y0 y1)) ∧ (∀ y0 y1 y2, LeO (hogsheadlaw4_great.j1 k y0 y1 y2) (hogsheadlaw4_great.j1 (k + 1) y0 y1 y2))
 | 0 => ⟨fun _ _ r h => by simp [hogsheadlaw4_great.l0] at h, fun _ _ _ r h => by simp [hogsheadlaw4_great.j1] at h⟩
 | k + 1 => by
  obtain ⟨ih0, ih1⟩ := hogsheadlaw4_great.mono_l k; refine ⟨?_, ?_⟩
  ·intro y0 y1
   unfold hogsheadlaw4_great.l0
   repeat' with_reducible first | exact ih0 _ _ | exact ih1 _ _ _ | exact hogsheadlaw0_GreatNodes.mono _ _ _ | exact LeO.refl _ | exact LeO.none _ | refine LeO.ite ?_ ?_ | refine LeO.bind ?_ (fun _ => ?_)
  ·intro y0 y1 y2
   unfold hogsheadlaw4_great.j1
   repeat' with_reducible first | exact ih0 _ _ | exact ih1 _ _ _ | exact hogsheadlaw0_GreatNodes.mono _ _ _ | exact LeO.refl _ | exact LeO.none _ | refine LeO.ite ?_ ?_ | refine LeO.bind ?_ (fun _ => ?_)
theorem hogsheadlaw4_great.mono : ∀ a0 k, LeO (hogsheadlaw4_great.f k a0) (hogsheadlaw4_great.f (k + 1) a0) := by
 intro a0 k; obtain ⟨ih0, ih1⟩ := hogsheadlaw4_great.mono_l k; unfold hogsheadlaw4_great.f
 repeat' with_reducible first | exact ih0 _ _ | exact ih1 _ _ _ | exact hogsheadlaw0_GreatNodes.mono _ _ _ | exact LeO.refl _ | exact LeO.none _ | refine LeO.ite ?_ ?_ | refine LeO.bind ?_ (fun _ => ?_)
set_option maxHeartbeats 8000000 in
set_option maxRecDepth 100000 in
theorem hogsheadlaw4_great.calls (k : Nat) (A0 : Option Addr) (c0 : Nat) (l0 : List (List (S37))) (r : Bool) (w : World) (hr0 : Kd.C (Kd.slice 37 k37) w A0 l0.length l0) (hc0 : l0.length ≤ c0) (h : hogsheadlaw4_great.f k l0 = some r) :
  Calls Tryd.prog 7 #[.slice A0 l0.length c0] w fun e w' => e = .returned (.bool r) ∧ Drawn0 w w' := by
 have HR0 := am hr0; have HC0 := am hc0; clear hr0 hc0; have H : (hogsheadlaw4_great.l0 k l0 0) = some r := h; clear h; have H' := am H; clear H; go_enter Tryd.func7, Tryd.ntmps7; go_wp2
 go_loopg [3] k (fun kq v3 w' => ∃ (x3_1 : Int), v3 = .int .i64 x3_1 ∧ Aside0 (hogsheadlaw4_great.l0 kq l0 x3_1 = some r) ∧ Aside0 (kq ≤ k) ∧ Drawn0 w w')
 case atStart => exact ⟨(0), (by first | rfl | (simp; done) | (simp [*]; done)), H', ⟨Nat.le_refl _⟩, dz⟩
 case round =>
  clear H'; obtain ⟨x3_1, rfl, HA, HK1, ⟨m1, rfl⟩⟩ := hrel; cases gk with
  | zero => exact absurd HA.out (by simp [hogsheadlaw4_great.l0])
  | succ k1 =>
   have H := HA.out; clear HA; simp only [hogsheadlaw4_great.l0] at H
   have HC2 := am H; clear H; go_upto_region 2 with (fail)
   go_cut [12] (fun v12 wc => ∃ (kq : Nat) (x12_1 : Bool), v12 = .bool x12_1 ∧ Aside0 (hogsheadlaw4_great.j1 kq l0 x3_1 x12_1 = some r) ∧ Aside0 (kq ≤ k1) ∧ Drawn0 w wc)
   case first =>
    have H := HC2.out; clear HC2; by_cases c3 : x3_1 < (l0.length : Int)
    ·rw [if_pos c3] at H
     have c3b0 : decide (x3_1 < (l0.length : Int)) = true := decide_eq_true c3; clear c3; (first | rw [c3b0] | (simp only [i64_w, i32_w]; rw [c3b0]) | skip)
     have H' := am H; clear H; go_wp2
     go_meet; case rel => exact ⟨_, (decide ((l0.length : Int) ≤ 5)), (by first | rfl | (simp; done) | (simp [*]; done)), H', ⟨by have := HK1.out; first | omega | exact Nat.le_refl _⟩, dz⟩
    ·rw [if_neg c3] at H
     have c3b0 : decide (x3_1 < (l0.length : Int)) = false := decide_eq_false c3; clear c3; (first | rw [c3b0] | (simp only [i64_w, i32_w]; rw [c3b0]) | skip)
     have H' := am H; clear H; go_wp2
     go_meet; case rel => exact ⟨_, (false), (by first | rfl | (simp; done) | (simp [*]; done)), H', ⟨by have := HK1.out; first | omega | exact Nat.le_refl _⟩, dz⟩
   case rest =>
    clear HC2; (try clear p2); (try clear c3); (try clear c3b0); obtain ⟨kq, x12_1, rfl, HA, HJ1, ⟨mc1, rfl⟩⟩ := hcut; cases kq with
    | zero => exact absurd HA.out (by simp [hogsheadlaw4_great.j1])
    | succ kj1 =>
     have H := HA.out; clear HA; simp only [hogsheadlaw4_great.j1] at H
     by_cases c4 : x12_1 = true
     ·subst c4
      have H1 : (if 0 ≤ x3_1 then (if x3_1 < (l0.length : Int) then ((hogsheadlaw0_GreatNodes.f kj1 (rd_L4 l0 x3_1) 30).bind fun t232 => (if t232 = true then (some true) else (hogsheadlaw4_great.l0 kj1 l0 (wrap64 (x3_1 + 1))))) else (none)) else (none)) = some r := by rw [if_pos rfl] at H; exact H
      clear H; have H := H1; clear H1; by_cases c5 : 0 ≤ x3_1
      ·rw [if_pos c5] at H
       have c5b0 : decide (0 ≤ x3_1) = true := decide_eq_true c5; clear c5; by_cases c6 : x3_1 < (l0.length : Int)
       ·rw [if_pos c6] at H
        have c6b0 : decide (x3_1 < (l0.length : Int)) = true := decide_eq_true c6; clear c6; refine oR H ?_; clear H; intro t232 A7 H; by_cases c8 : t232 = true
        ·subst c8
         have H1 : (some true) = some r := by rw [if_pos rfl] at H; exact H
         clear H; have H := H1; clear H1; obtain rfl := Option.some.inj H; have p231 : 0 ≤ (x3_1 : Int) := of_decide_eq_true (by assumption); have q231 : x3_1 < (l0.length : Int) := of_decide_eq_true (by assumption); obtain ⟨ad231, A231_0, c231_0, e231, hx231_0, hl231_0, hi231_0⟩ := at_L4 HR0.out x3_1 p231 q231; cases e231; have HR231_0 := am hi231_0; have HC231_0 := am hl231_0; clear hi231_0 hl231_0; replace p231 := eq_true p231; replace q231 := eq_true q231; go_wp2_with (first | ((with_reducible refine gate_callee (f := 17) rfl ?_); refine gL (some 19) Tryd.func17 #[.slice A231_0 (rd_L4 l0 x3_1).length c231_0, .int .i64 30] ?_; (with_reducible refine (hogsheadlaw0_GreatNodes.calls kj1 _ _ (rd_L4 l0 x3_1) 30 true _ ?side1 ?side2 A7.out).mono ?_); (case side1 => exact cz HR231_0.out); (case side2 => exact HC231_0.out); rintro e w' ⟨rfl, ⟨nd, rfl⟩⟩; refine ⟨_, rfl, ?_⟩))
         go_ret; exact ⟨by first | rfl | (simp; done) | (simp [*]; done), dz⟩
        ·replace c8 := Bool.eq_false_iff.mpr c8
         subst c8; have H1 : (hogsheadlaw4_great.l0 kj1 l0 (wrap64 (x3_1 + 1))) = some r := by rw [if_neg (show ¬ (false = true) by decide)] at H; exact H
         clear H; have H := H1; clear H1; have H' := am H; clear H; have p231 : 0 ≤ (x3_1 : Int) := of_decide_eq_true (by assumption); have q231 : x3_1 < (l0.length : Int) := of_decide_eq_true (by assumption); obtain ⟨ad231, A231_0, c231_0, e231, hx231_0, hl231_0, hi231_0⟩ := at_L4 HR0.out x3_1 p231 q231; cases e231; have HR231_0 := am hi231_0; have HC231_0 := am hl231_0; clear hi231_0 hl231_0; replace p231 := eq_true p231; replace q231 := eq_true q231; go_wp2_with (first | ((with_reducible refine gate_callee (f := 17) rfl ?_); refine gL (some 19) Tryd.func17 #[.slice A231_0 (rd_L4 l0 x3_1).length c231_0, .int .i64 30] ?_; (with_reducible refine (hogsheadlaw0_GreatNodes.calls kj1 _ _ (rd_L4 l0 x3_1) 30 false _ ?side1 ?side2 A7.out).mono ?_); (case side1 => exact cz HR231_0.out); (case side2 => exact HC231_0.out); rintro e w' ⟨rfl, ⟨nd, rfl⟩⟩; refine ⟨_, rfl, ?_⟩))
         go_roundg kj1
         case measure => have := HK1.out; have := HJ1.out; omega
         case rel => exact ⟨(wrap64 (x3_1 + 1)), (by first | rfl | (simp; done) | (simp [*]; done)), H', ⟨by have := HK1.out; have := HJ1.out; omega⟩, dz⟩
       ·rw [if_neg c6] at H
        exact absurd H (by simp)
      ·rw [if_neg c5] at H
       exact absurd H (by simp)
     ·replace c4 := Bool.eq_false_iff.mpr c4
      subst c4; have H1 : (some (decide ((l0.length : Int) > 5))) = some r := by rw [if_neg (show ¬ (false = true) by decide)] at H; exact H
      clear H; have H := H1; clear H1; obtain rfl := Option.some.inj H; go_wp2
      go_ret; exact ⟨by first | rfl | (simp; done) | (simp [*]; done), dz⟩

end Go.Proofs.YtiamdmlbhmgnjaaDoor.P
