/- Laid by a program of this session (wip/pr), after the printer of the kit: the functions that a statement reaches as plain Lean functions, and that the calls of the machine come to them. No condition. -/
import Derived.Test.YtnbcmmgkdpekjaaDoorPx0
import Derived.Test.YtnbcmmgkdpekjaaDoorPx13
namespace Go.Proofs.YtnbcmmgkdpekjaaDoor.P
open Go.RowKit Go.Proofs.YtnbcmmgkdpekjaaDoorX Go.Proofs.YtnbcmmgkdpekjaaDoorW.PrintWords Go.Proofs.YtnbcmmgkdpekjaaDoorW.PrintLast Go.Proofs.YtnbcmmgkdpekjaaDoorW.PrintMore
attribute [local go_sem] max2_int min2_int max_two min_two
set_option linter.unusedVariables false
set_option linter.unusedSimpArgs false

/-! ### hogsheadref7_Name: function 16 -/
mutual
def hogsheadref7_Name.j0 : Nat → ByteArray → Bool → Option (Bool)
 | 0, _, _ => none
 | k + 1, x0, x17 => if x17 = true then (some false) else (hogsheadref7_Name.l0 k x0 0)
def hogsheadref7_Name.l0 : Nat → ByteArray → Int → Option (Bool)
 | 0, _, _ => none
 | k + 1, x0, x3 => if x3 < 8 then (if 0 ≤ x3 then (if x3 < (x0.size : Int) then ((hogsheadref7_In.f k (⟨#[48, 49, 50, 51, 52, 53, 54, 55, 56, 57, 97, 98, 99, 100, 102, 103, 104, 105, 106, 107, 108, 109, 110, 112, 113, 114, 115, 118, 119, 120, 121, 122]⟩ : ByteArray) (bt x0 x3)).bind fun t236 => (if t236 = true then (hogsheadref7_Name.l0 k x0 (wrap64 (x3 + 1))) else (some false))) else (none)) else (none)) else (hogsheadref7_Name.l1 k x0 9)
def hogsheadref7_Name.l1 : Nat → ByteArray → Int → Option (Bool)
 | 0, _, _ => none
 | k + 1, x0, x4 => if x4 < (x0.size : Int) then (if 0 ≤ x4 then ((hogsheadref7_In.f k (⟨#[97, 98, 99, 100, 101, 102, 103, 104, 105, 106, 107, 108, 109, 110, 111, 112, 113, 114, 115, 116, 117, 118, 119, 120, 121, 122, 48, 49, 50, 51, 52, 53, 54, 55, 56, 57]⟩ : ByteArray) (bt x0 x4)).bind fun t237 => (if t237 = true then (hogsheadref7_Name.l1 k x0 (wrap64 (x4 + 1))) else (if x4 = 9 then (some false) else ((hogsheadref7_In.f k (⟨#[46, 43, 95, 45]⟩ : ByteArray) (bt x0 x4)).bind fun t238 => (if t238 = true then (hogsheadref7_Name.l1 k x0 (wrap64 (x4 + 1))) else (some false)))))) else (none)) else (some true)
end
def hogsheadref7_Name.f (k : Nat) (a0 : ByteArray) : Option (Bool) := if (a0.size : Int) < 10 then (hogsheadref7_Name.j0 k a0 true) else (if (a0.size : Int) > 30 then (hogsheadref7_Name.j0 k a0 true) else (if 8 < (a0.size : Int) then (hogsheadref7_Name.j0 k a0 ((bt a0 8) != 45)) else (none)))
theorem hogsheadref7_Name.mono_l : ∀ k, (∀ y0 y1, LeO (hogsheadref7_Name.j0 k y0 y1) (hogsheadref7_Name.j0 (k + 1) y0 y1)) ∧ (∀ y0 y1, LeO (hogsheadref7_Name.l0 k y0 y1) (hogsheadref7_Name.l0 (k + 1) y0 y1)) ∧ (∀ y0 y1, LeO (hogsheadref7_Name.l1 k y0 y1) (hogsheadref7_Name.l1 (k + 1) y0 y1))
 | 0 => ⟨fun _ _ r h => by simp [hogsheadref7_Name.j0] at h, fun _ _ r h => by simp [hogsheadref7_Name.l0] at h, fun _ _ r h => by simp [hogsheadref7_Name.l1] at h⟩
 | k + 1 => by
  obtain ⟨ih0, ih1, ih2⟩ := hogsheadref7_Name.mono_l k; refine ⟨?_, ?_, ?_⟩
  ·intro y0 y1
   unfold hogsheadref7_Name.j0
   repeat' with_reducible first | exact ih0 _ _ | exact ih1 _ _ | exact ih2 _ _ | exact hogsheadref7_In.mono _ _ _ | exact LeO.refl _ | exact LeO.none _ | refine LeO.ite ?_ ?_ | refine LeO.bind ?_ (fun _ => ?_)
  ·intro y0 y1
   unfold hogsheadref7_Name.l0
   repeat' with_reducible first | exact ih0 _ _ | exact ih1 _ _ | exact ih2 _ _ | exact hogsheadref7_In.mono _ _ _ | exact LeO.refl _ | exact LeO.none _ | refine LeO.ite ?_ ?_ | refine LeO.bind ?_ (fun _ => ?_)
  ·intro y0 y1
   unfold hogsheadref7_Name.l1
   repeat' with_reducible first | exact ih0 _ _ | exact ih1 _ _ | exact ih2 _ _ | exact hogsheadref7_In.mono _ _ _ | exact LeO.refl _ | exact LeO.none _ | refine LeO.ite ?_ ?_ | refine LeO.bind ?_ (fun _ => ?_)
theorem hogsheadref7_Name.mono : ∀ a0 k, LeO (hogsheadref7_Name.f k a0) (hogsheadref7_Name.f (k + 1) a0) := by
 intro a0 k; obtain ⟨ih0, ih1, ih2⟩ := hogsheadref7_Name.mono_l k; unfold hogsheadref7_Name.f
 repeat' with_reducible first | exact ih0 _ _ | exact ih1 _ _ | exact ih2 _ _ | exact hogsheadref7_In.mono _ _ _ | exact LeO.refl _ | exact LeO.none _ | refine LeO.ite ?_ ?_ | refine LeO.bind ?_ (fun _ => ?_)
set_option maxHeartbeats 8000000 in
set_option maxRecDepth 100000 in
theorem hogsheadref7_Name.calls (k : Nat) (a0 : ByteArray) (r : Bool) (w : World) (h : hogsheadref7_Name.f k a0 = some r) :
  Calls Tryd.prog 16 #[.string a0] w fun e w' => e = .returned (.bool r) ∧ Drawn0 w w' := by
 have H : (if (a0.size : Int) < 10 then (hogsheadref7_Name.j0 k a0 true) else (if (a0.size : Int) > 30 then (hogsheadref7_Name.j0 k a0 true) else (if 8 < (a0.size : Int) then (hogsheadref7_Name.j0 k a0 ((bt a0 8) != 45)) else (none)))) = some r := h; clear h; have HC2 := am H; clear H; go_enter Tryd.func16, Tryd.ntmps16; go_upto_region 1 with (fail)
 go_cut [17] (fun v17 wc => ∃ (kq : Nat) (x17_1 : Bool), v17 = .bool x17_1 ∧ Aside0 (hogsheadref7_Name.j0 kq a0 x17_1 = some r) ∧ Aside0 (kq ≤ k) ∧ Drawn0 w wc)
 case first =>
  have H := HC2.out; clear HC2; by_cases c3 : (a0.size : Int) < 10
  ·rw [if_pos c3] at H
   have c3b0 : decide ((a0.size : Int) < 10) = true := decide_eq_true c3; have c3b1 : decide (a0.size < 10) = true := decide_eq_true (by omega); clear c3; (first | rw [c3b0] | (simp only [i64_w, i32_w]; rw [c3b0]) | skip)
   have H' := am H; clear H; go_wp2
   go_meet; case rel => exact ⟨_, (true), (by first | rfl | (simp; done) | (simp [*]; done)), H', ⟨by first | omega | exact Nat.le_refl _⟩, dz⟩
  ·rw [if_neg c3] at H
   have c3b0 : decide ((a0.size : Int) < 10) = false := decide_eq_false c3; have c3b1 : decide (a0.size < 10) = false := decide_eq_false (by omega); clear c3; (first | rw [c3b0] | (simp only [i64_w, i32_w]; rw [c3b0]) | skip)
   by_cases c4 : (a0.size : Int) > 30
   ·rw [if_pos c4] at H
    have c4b0 : decide (30 < (a0.size : Int)) = true := decide_eq_true c4; have c4b1 : decide (30 < a0.size) = true := decide_eq_true (by omega); clear c4; have H' := am H; clear H; go_wp2
    go_meet; case rel => exact ⟨_, (true), (by first | rfl | (simp; done) | (simp [*]; done)), H', ⟨by first | omega | exact Nat.le_refl _⟩, dz⟩
   ·rw [if_neg c4] at H
    have c4b0 : decide (30 < (a0.size : Int)) = false := decide_eq_false c4; have c4b1 : decide (30 < a0.size) = false := decide_eq_false (by omega); clear c4; by_cases c5 : 8 < (a0.size : Int)
    ·rw [if_pos c5] at H
     have c5b0 : decide (8 < (a0.size : Int)) = true := decide_eq_true c5; have c5b1 : decide (8 < a0.size) = true := decide_eq_true (by omega); clear c5; have H' := am H; clear H; have p6 : 0 ≤ (8 : Int) := (by omega); have q6 : 8 < a0.size := (by have : (8 : Int) < (a0.size : Int) := of_decide_eq_true (by assumption); omega); have hx6 : ∀ h : 8 < a0.size, ((a0[8]'h).toNat : Int) = bt a0 8 := bt_at a0 8; clear p6; have qi6 : (8 < (a0.size : Int)) = True := eq_true (of_decide_eq_true (by assumption)); replace q6 := eq_true q6; go_wp2
     go_meet; case rel => exact ⟨_, (((bt a0 8) != 45)), (by first | rfl | (simp; done) | (simp [*]; done)), H', ⟨by first | omega | exact Nat.le_refl _⟩, dz⟩
    ·rw [if_neg c5] at H
     exact absurd H (by simp)
 case rest =>
  clear HC2; (try clear c1); (try clear p2); (try clear c3); (try clear c3b0); (try clear c3b1); (try clear c4); (try clear c4b0); (try clear c4b1); (try clear c5); (try clear c5b0); (try clear c5b1); (try clear p6); (try clear q6); (try clear hx6); (try clear qi6); (try clear p6); (try clear q6); obtain ⟨kq, x17_1, rfl, HA, HJ1, ⟨mc1, rfl⟩⟩ := hcut; cases kq with
  | zero => exact absurd HA.out (by simp [hogsheadref7_Name.j0])
  | succ kj1 =>
   have H := HA.out; clear HA; simp only [hogsheadref7_Name.j0] at H
   by_cases c7 : x17_1 = true
   ·subst c7
    have H1 : (some false) = some r := by rw [if_pos rfl] at H; exact H
    clear H; have H := H1; clear H1; obtain rfl := Option.some.inj H; go_wp2
    go_ret; exact ⟨by first | rfl | (simp; done) | (simp [*]; done), dz⟩
   ·replace c7 := Bool.eq_false_iff.mpr c7
    subst c7; have H1 : (hogsheadref7_Name.l0 kj1 a0 0) = some r := by rw [if_neg (show ¬ (false = true) by decide)] at H; exact H
    clear H; have H := H1; clear H1; have H' := am H; clear H; go_wp2
    go_loopg [3] kj1 (fun kq v3 w' => ∃ (x3_2 : Int), v3 = .int .i64 x3_2 ∧ Aside0 (hogsheadref7_Name.l0 kq a0 x3_2 = some r) ∧ Aside0 (kq ≤ kj1) ∧ Drawn0 w w')
    case atStart => exact ⟨(0), (by first | rfl | (simp; done) | (simp [*]; done)), H', ⟨Nat.le_refl _⟩, dz⟩
    case round =>
     clear H'; (try clear c1); (try clear p2); (try clear c3); (try clear c3b0); (try clear c3b1); (try clear c4); (try clear c4b0); (try clear c4b1); (try clear c5); (try clear c5b0); (try clear c5b1); (try clear p6); (try clear q6); (try clear hx6); (try clear qi6); (try clear c7); (try clear p2); (try clear p6); (try clear q6); obtain ⟨x3_2, rfl, HA, HK2, ⟨m2, rfl⟩⟩ := hrel; cases gk with
     | zero => exact absurd HA.out (by simp [hogsheadref7_Name.l0])
     | succ k2 =>
      have H := HA.out; clear HA; simp only [hogsheadref7_Name.l0] at H
      by_cases c8 : x3_2 < 8
      ·rw [if_pos c8] at H
       have c8b0 : decide (x3_2 < 8) = true := decide_eq_true c8; clear c8; by_cases c9 : 0 ≤ x3_2
       ·rw [if_pos c9] at H
        have c9b0 : decide (0 ≤ x3_2) = true := decide_eq_true c9; clear c9; by_cases c10 : x3_2 < (a0.size : Int)
        ·rw [if_pos c10] at H
         have c10b0 : decide (x3_2 < (a0.size : Int)) = true := decide_eq_true c10; clear c10; refine oR H ?_; clear H; intro t236 A12 H; by_cases c13 : t236 = true
         ·subst c13
          have H1 : (hogsheadref7_Name.l0 k2 a0 (wrap64 (x3_2 + 1))) = some r := by rw [if_pos rfl] at H; exact H
          clear H; have H := H1; clear H1; have H' := am H; clear H; have p11 : 0 ≤ (x3_2 : Int) := of_decide_eq_true (by assumption); have q11 : x3_2 < (a0.size : Int) := of_decide_eq_true (by assumption); have hx11 := bt_at a0 x3_2; replace p11 := eq_true p11; replace q11 := eq_true q11; go_wp2_with (first | ((with_reducible refine gate_callee (f := 31) rfl ?_); refine gL (some 25) Tryd.func31 #[.string (⟨#[48, 49, 50, 51, 52, 53, 54, 55, 56, 57, 97, 98, 99, 100, 102, 103, 104, 105, 106, 107, 108, 109, 110, 112, 113, 114, 115, 118, 119, 120, 121, 122]⟩ : ByteArray), .int .u8 (bt a0 x3_2)] ?_; (with_reducible refine (hogsheadref7_In.calls k2 (⟨#[48, 49, 50, 51, 52, 53, 54, 55, 56, 57, 97, 98, 99, 100, 102, 103, 104, 105, 106, 107, 108, 109, 110, 112, 113, 114, 115, 118, 119, 120, 121, 122]⟩ : ByteArray) (bt a0 x3_2) true _ A12.out).mono ?_); rintro e w' ⟨rfl, ⟨nd, rfl⟩⟩; refine ⟨_, rfl, ?_⟩))
          go_roundg k2
          case measure => have := HJ1.out; have := HK2.out; omega
          case rel => exact ⟨(wrap64 (x3_2 + 1)), (by first | rfl | (simp; done) | (simp [*]; done)), H', ⟨by have := HJ1.out; have := HK2.out; omega⟩, dz⟩
         ·replace c13 := Bool.eq_false_iff.mpr c13
          subst c13; have H1 : (some false) = some r := by rw [if_neg (show ¬ (false = true) by decide)] at H; exact H
          clear H; have H := H1; clear H1; obtain rfl := Option.some.inj H; have p11 : 0 ≤ (x3_2 : Int) := of_decide_eq_true (by assumption); have q11 : x3_2 < (a0.size : Int) := of_decide_eq_true (by assumption); have hx11 := bt_at a0 x3_2; replace p11 := eq_true p11; replace q11 := eq_true q11; go_wp2_with (first | ((with_reducible refine gate_callee (f := 31) rfl ?_); refine gL (some 25) Tryd.func31 #[.string (⟨#[48, 49, 50, 51, 52, 53, 54, 55, 56, 57, 97, 98, 99, 100, 102, 103, 104, 105, 106, 107, 108, 109, 110, 112, 113, 114, 115, 118, 119, 120, 121, 122]⟩ : ByteArray), .int .u8 (bt a0 x3_2)] ?_; (with_reducible refine (hogsheadref7_In.calls k2 (⟨#[48, 49, 50, 51, 52, 53, 54, 55, 56, 57, 97, 98, 99, 100, 102, 103, 104, 105, 106, 107, 108, 109, 110, 112, 113, 114, 115, 118, 119, 120, 121, 122]⟩ : ByteArray) (bt a0 x3_2) false _ A12.out).mono ?_); rintro e w' ⟨rfl, ⟨nd, rfl⟩⟩; refine ⟨_, rfl, ?_⟩))
          go_ret; exact ⟨by first | rfl | (simp; done) | (simp [*]; done), dz⟩
        ·rw [if_neg c10] at H
         exact absurd H (by simp)
       ·rw [if_neg c9] at H
        exact absurd H (by simp)
      ·rw [if_neg c8] at H
       have c8b0 : decide (x3_2 < 8) = false := decide_eq_false c8; clear c8; have H' := am H; clear H; go_wp2
       go_loopg [4] k2 (fun kq v4 w' => ∃ (x4_3 : Int), v4 = .int .i64 x4_3 ∧ Aside0 (hogsheadref7_Name.l1 kq a0 x4_3 = some r) ∧ Aside0 (kq ≤ k2) ∧ Drawn0 w w')
       case atStart => exact ⟨(9), (by first | rfl | (simp; done) | (simp [*]; done)), H', ⟨Nat.le_refl _⟩, dz⟩
       case round =>
        clear H'; (try clear c1); (try clear p1); (try clear q1); (try clear hx1); (try clear p2); (try clear c3); (try clear c3b0); (try clear c3b1); (try clear c4); (try clear c4b0); (try clear c4b1); (try clear c5); (try clear c5b0); (try clear c5b1); (try clear p6); (try clear q6); (try clear hx6); (try clear qi6); (try clear c7); (try clear c8); (try clear c8b0); (try clear c9); (try clear c9b0); (try clear c10); (try clear c10b0); (try clear p11); (try clear q11); (try clear hx11); (try clear c13); (try clear p11); (try clear p2); (try clear p6); (try clear q11); (try clear q6); obtain ⟨x4_3, rfl, HA, HK3, ⟨m3, rfl⟩⟩ := hrel; cases gk with
        | zero => exact absurd HA.out (by simp [hogsheadref7_Name.l1])
        | succ k3 =>
         have H := HA.out; clear HA; simp only [hogsheadref7_Name.l1] at H
         by_cases c14 : x4_3 < (a0.size : Int)
         ·rw [if_pos c14] at H
          have c14b0 : decide (x4_3 < (a0.size : Int)) = true := decide_eq_true c14; clear c14; by_cases c15 : 0 ≤ x4_3
          ·rw [if_pos c15] at H
           have c15b0 : decide (0 ≤ x4_3) = true := decide_eq_true c15; clear c15; refine oR H ?_; clear H; intro t237 A17 H; by_cases c18 : t237 = true
           ·subst c18
            have H1 : (hogsheadref7_Name.l1 k3 a0 (wrap64 (x4_3 + 1))) = some r := by rw [if_pos rfl] at H; exact H
            clear H; have H := H1; clear H1; have H' := am H; clear H; have p16 : 0 ≤ (x4_3 : Int) := of_decide_eq_true (by assumption); have q16 : x4_3 < (a0.size : Int) := of_decide_eq_true (by assumption); have hx16 := bt_at a0 x4_3; replace p16 := eq_true p16; replace q16 := eq_true q16; go_wp2_with (first | ((with_reducible refine gate_callee (f := 31) rfl ?_); refine gL (some 36) Tryd.func31 #[.string (⟨#[97, 98, 99, 100, 101, 102, 103, 104, 105, 106, 107, 108, 109, 110, 111, 112, 113, 114, 115, 116, 117, 118, 119, 120, 121, 122, 48, 49, 50, 51, 52, 53, 54, 55, 56, 57]⟩ : ByteArray), .int .u8 (bt a0 x4_3)] ?_; (with_reducible refine (hogsheadref7_In.calls k3 (⟨#[97, 98, 99, 100, 101, 102, 103, 104, 105, 106, 107, 108, 109, 110, 111, 112, 113, 114, 115, 116, 117, 118, 119, 120, 121, 122, 48, 49, 50, 51, 52, 53, 54, 55, 56, 57]⟩ : ByteArray) (bt a0 x4_3) true _ A17.out).mono ?_); rintro e w' ⟨rfl, ⟨nd, rfl⟩⟩; refine ⟨_, rfl, ?_⟩))
            go_roundg k3
            case measure => have := HJ1.out; have := HK2.out; have := HK3.out; omega
            case rel => exact ⟨(wrap64 (x4_3 + 1)), (by first | rfl | (simp; done) | (simp [*]; done)), H', ⟨by have := HJ1.out; have := HK2.out; have := HK3.out; omega⟩, dz⟩
           ·replace c18 := Bool.eq_false_iff.mpr c18
            subst c18; have H1 : (if x4_3 = 9 then (some false) else ((hogsheadref7_In.f k3 (⟨#[46, 43, 95, 45]⟩ : ByteArray) (bt a0 x4_3)).bind fun t238 => (if t238 = true then (hogsheadref7_Name.l1 k3 a0 (wrap64 (x4_3 + 1))) else (some false)))) = some r := by rw [if_neg (show ¬ (false = true) by decide)] at H; exact H
            clear H; have H := H1; clear H1; by_cases c19 : x4_3 = 9
            ·rw [if_pos c19] at H
             have c19b0 : (x4_3 == 9) = true := beq_iff_eq.mpr c19; have c19b1 : (x4_3 != 9) = false := bne_eq_false_iff_eq.mpr c19; clear c19; obtain rfl := Option.some.inj H; have p16 : 0 ≤ (x4_3 : Int) := of_decide_eq_true (by assumption); have q16 : x4_3 < (a0.size : Int) := of_decide_eq_true (by assumption); have hx16 := bt_at a0 x4_3; replace p16 := eq_true p16; replace q16 := eq_true q16; go_wp2_with (first | ((with_reducible refine gate_callee (f := 31) rfl ?_); refine gL (some 36) Tryd.func31 #[.string (⟨#[97, 98, 99, 100, 101, 102, 103, 104, 105, 106, 107, 108, 109, 110, 111, 112, 113, 114, 115, 116, 117, 118, 119, 120, 121, 122, 48, 49, 50, 51, 52, 53, 54, 55, 56, 57]⟩ : ByteArray), .int .u8 (bt a0 x4_3)] ?_; (with_reducible refine (hogsheadref7_In.calls k3 (⟨#[97, 98, 99, 100, 101, 102, 103, 104, 105, 106, 107, 108, 109, 110, 111, 112, 113, 114, 115, 116, 117, 118, 119, 120, 121, 122, 48, 49, 50, 51, 52, 53, 54, 55, 56, 57]⟩ : ByteArray) (bt a0 x4_3) false _ A17.out).mono ?_); rintro e w' ⟨rfl, ⟨nd, rfl⟩⟩; refine ⟨_, rfl, ?_⟩))
             go_ret; exact ⟨by first | rfl | (simp; done) | (simp [*]; done), dz⟩
            ·rw [if_neg c19] at H
             have c19b0 : (x4_3 == 9) = false := beq_eq_false_iff_ne.mpr c19; have c19b1 : (x4_3 != 9) = true := bne_iff_ne.mpr c19; refine oR H ?_; clear H; intro t238 A21 H; by_cases c22 : t238 = true
             ·subst c22
              have H1 : (hogsheadref7_Name.l1 k3 a0 (wrap64 (x4_3 + 1))) = some r := by rw [if_pos rfl] at H; exact H
              clear H; have H := H1; clear H1; have H' := am H; clear H; have p16 : 0 ≤ (x4_3 : Int) := of_decide_eq_true (by assumption); have q16 : x4_3 < (a0.size : Int) := of_decide_eq_true (by assumption); have hx16 := bt_at a0 x4_3; replace p16 := eq_true p16; replace q16 := eq_true q16; go_wp2_with (first | ((with_reducible refine gate_callee (f := 31) rfl ?_); refine gL (some 36) Tryd.func31 #[.string (⟨#[97, 98, 99, 100, 101, 102, 103, 104, 105, 106, 107, 108, 109, 110, 111, 112, 113, 114, 115, 116, 117, 118, 119, 120, 121, 122, 48, 49, 50, 51, 52, 53, 54, 55, 56, 57]⟩ : ByteArray), .int .u8 (bt a0 x4_3)] ?_; (with_reducible refine (hogsheadref7_In.calls k3 (⟨#[97, 98, 99, 100, 101, 102, 103, 104, 105, 106, 107, 108, 109, 110, 111, 112, 113, 114, 115, 116, 117, 118, 119, 120, 121, 122, 48, 49, 50, 51, 52, 53, 54, 55, 56, 57]⟩ : ByteArray) (bt a0 x4_3) false _ A17.out).mono ?_); rintro e w' ⟨rfl, ⟨nd, rfl⟩⟩; refine ⟨_, rfl, ?_⟩; have p20 : 0 ≤ (x4_3 : Int) := of_decide_eq_true (by assumption); have q20 : x4_3 < (a0.size : Int) := of_decide_eq_true (by assumption); have hx20 := bt_at a0 x4_3; replace p20 := eq_true p20; replace q20 := eq_true q20) | (go_at_call 31; (with_reducible refine (hogsheadref7_In.calls k3 (⟨#[46, 43, 95, 45]⟩ : ByteArray) (bt a0 x4_3) true _ A21.out).mono ?_); rintro e w' ⟨rfl, ⟨nd, rfl⟩⟩))
              go_roundg k3
              case measure => have := HJ1.out; have := HK2.out; have := HK3.out; omega
              case rel => exact ⟨(wrap64 (x4_3 + 1)), (by first | rfl | (simp; done) | (simp [*]; done)), H', ⟨by have := HJ1.out; have := HK2.out; have := HK3.out; omega⟩, dz⟩
             ·replace c22 := Bool.eq_false_iff.mpr c22
              subst c22; have H1 : (some false) = some r := by rw [if_neg (show ¬ (false = true) by decide)] at H; exact H
              clear H; have H := H1; clear H1; obtain rfl := Option.some.inj H; have p16 : 0 ≤ (x4_3 : Int) := of_decide_eq_true (by assumption); have q16 : x4_3 < (a0.size : Int) := of_decide_eq_true (by assumption); have hx16 := bt_at a0 x4_3; replace p16 := eq_true p16; replace q16 := eq_true q16; go_wp2_with (first | ((with_reducible refine gate_callee (f := 31) rfl ?_); refine gL (some 36) Tryd.func31 #[.string (⟨#[97, 98, 99, 100, 101, 102, 103, 104, 105, 106, 107, 108, 109, 110, 111, 112, 113, 114, 115, 116, 117, 118, 119, 120, 121, 122, 48, 49, 50, 51, 52, 53, 54, 55, 56, 57]⟩ : ByteArray), .int .u8 (bt a0 x4_3)] ?_; (with_reducible refine (hogsheadref7_In.calls k3 (⟨#[97, 98, 99, 100, 101, 102, 103, 104, 105, 106, 107, 108, 109, 110, 111, 112, 113, 114, 115, 116, 117, 118, 119, 120, 121, 122, 48, 49, 50, 51, 52, 53, 54, 55, 56, 57]⟩ : ByteArray) (bt a0 x4_3) false _ A17.out).mono ?_); rintro e w' ⟨rfl, ⟨nd, rfl⟩⟩; refine ⟨_, rfl, ?_⟩; have p20 : 0 ≤ (x4_3 : Int) := of_decide_eq_true (by assumption); have q20 : x4_3 < (a0.size : Int) := of_decide_eq_true (by assumption); have hx20 := bt_at a0 x4_3; replace p20 := eq_true p20; replace q20 := eq_true q20) | (go_at_call 31; (with_reducible refine (hogsheadref7_In.calls k3 (⟨#[46, 43, 95, 45]⟩ : ByteArray) (bt a0 x4_3) false _ A21.out).mono ?_); rintro e w' ⟨rfl, ⟨nd, rfl⟩⟩))
              go_ret; exact ⟨by first | rfl | (simp; done) | (simp [*]; done), dz⟩
          ·rw [if_neg c15] at H
           exact absurd H (by simp)
         ·rw [if_neg c14] at H
          have c14b0 : decide (x4_3 < (a0.size : Int)) = false := decide_eq_false c14; clear c14; obtain rfl := Option.some.inj H; go_wp2
          go_ret; exact ⟨by first | rfl | (simp; done) | (simp [*]; done), dz⟩

/-! ### hogsheadref7_Hash: function 17 -/
def hogsheadref7_Hash.f (k : Nat) (a0 : ByteArray) : Option (ByteArray) := (hogsheadref7_Name.f k a0).bind fun t239 => (if t239 = true then (if 0 ≤ 8 then (if 8 ≤ (a0.size : Int) then (some (a0.extract 0 8)) else (none)) else (none)) else (some (⟨#[]⟩ : ByteArray)))
theorem hogsheadref7_Hash.mono : ∀ a0 k, LeO (hogsheadref7_Hash.f k a0) (hogsheadref7_Hash.f (k + 1) a0) := by
 intro a0 k; unfold hogsheadref7_Hash.f
 repeat' with_reducible first | exact hogsheadref7_Name.mono _ _ | exact LeO.refl _ | exact LeO.none _ | refine LeO.ite ?_ ?_ | refine LeO.bind ?_ (fun _ => ?_)
set_option maxHeartbeats 8000000 in
set_option maxRecDepth 100000 in
theorem hogsheadref7_Hash.calls (k : Nat) (a0 : ByteArray) (r : ByteArray) (w : World) (h : hogsheadref7_Hash.f k a0 = some r) :
  Calls Tryd.prog 17 #[.string a0] w fun e w' => e = .returned (.string r) ∧ Drawn0 w w' := by
 have H : ((hogsheadref7_Name.f k a0).bind fun t239 => (if t239 = true then (if 0 ≤ 8 then (if 8 ≤ (a0.size : Int) then (some (a0.extract 0 8)) else (none)) else (none)) else (some (⟨#[]⟩ : ByteArray)))) = some r := h; clear h; refine oR H ?_; clear H; intro t239 A2 H; by_cases c3 : t239 = true
 ·subst c3
  have H1 : (if 0 ≤ 8 then (if 8 ≤ (a0.size : Int) then (some (a0.extract 0 8)) else (none)) else (none)) = some r := by rw [if_pos rfl] at H; exact H
  clear H; have H := H1; clear H1; by_cases c4 : 0 ≤ 8
  ·rw [if_pos c4] at H
   have c4b0 := eq_true c4; have c4b1 : decide (0 ≤ 8) = true := decide_eq_true c4; clear c4; by_cases c5 : 8 ≤ (a0.size : Int)
   ·rw [if_pos c5] at H
    have c5b0 := eq_true c5; have c5b1 : decide (8 ≤ (a0.size : Int)) = true := decide_eq_true c5; clear c5; obtain rfl := Option.some.inj H; go_enter Tryd.func17, Tryd.ntmps17; go_wp2_with (first | ((with_reducible refine gate_callee (f := 16) rfl ?_); refine gL (some 4) Tryd.func16 #[.string a0] ?_; (with_reducible refine (hogsheadref7_Name.calls k a0 true _ A2.out).mono ?_); rintro e w' ⟨rfl, ⟨nd, rfl⟩⟩; refine ⟨_, rfl, ?_⟩))
    go_ret; exact ⟨by first | rfl | (simp; done) | (simp [*]; done), dz⟩
   ·rw [if_neg c5] at H
    exact absurd H (by simp)
  ·rw [if_neg c4] at H
   exact absurd H (by simp)
 ·replace c3 := Bool.eq_false_iff.mpr c3
  subst c3; have H1 : (some (⟨#[]⟩ : ByteArray)) = some r := by rw [if_neg (show ¬ (false = true) by decide)] at H; exact H
  clear H; have H := H1; clear H1; obtain rfl := Option.some.inj H; go_enter Tryd.func17, Tryd.ntmps17; go_wp2_with (first | ((with_reducible refine gate_callee (f := 16) rfl ?_); refine gL (some 4) Tryd.func16 #[.string a0] ?_; (with_reducible refine (hogsheadref7_Name.calls k a0 false _ A2.out).mono ?_); rintro e w' ⟨rfl, ⟨nd, rfl⟩⟩; refine ⟨_, rfl, ?_⟩))
  go_ret; exact ⟨by first | rfl | (simp; done) | (simp [*]; done), dz⟩

end Go.Proofs.YtnbcmmgkdpekjaaDoor.P
