/- Laid by a program of this session (wip/pr), after the printer of the kit: the functions that a statement reaches as plain Lean functions, and that the calls of the machine come to them. No condition. -/
import Derived.Test.YtiamdmlbhmgnjaaDoorPx0
import Derived.Test.YtiamdmlbhmgnjaaDoorPx15
import Derived.Test.YtiamdmlbhmgnjaaDoorPx16
namespace Go.Proofs.YtiamdmlbhmgnjaaDoor.P
open Go.RowKit Go.Proofs.YtiamdmlbhmgnjaaDoorX Go.Proofs.YtiamdmlbhmgnjaaDoorW.PrintWords Go.Proofs.YtiamdmlbhmgnjaaDoorW.PrintLast Go.Proofs.YtiamdmlbhmgnjaaDoorW.PrintMore
attribute [local go_sem] max2_int min2_int max_two min_two
set_option linter.unusedVariables false
set_option linter.unusedSimpArgs false

/-! ### hogsheadref1_Split: function 48 -/
def hogsheadref1_Split.f (k : Nat) (a0 : ByteArray) : Option (List ByteArray) := if a0.toList = ([] : List UInt8) then (some ([] : List ByteArray)) else ((hogsheadref1_May.f k a0).bind fun t263 => (if t263 = true then ((hogsheadref1_Cut.f k a0).bind fun t264 => (some t264)) else (some ([] : List ByteArray))))
theorem hogsheadref1_Split.mono : ∀ a0 k, LeO (hogsheadref1_Split.f k a0) (hogsheadref1_Split.f (k + 1) a0) := by
 intro a0 k; unfold hogsheadref1_Split.f
 repeat' with_reducible first | exact hogsheadref1_Cut.mono _ _ | exact hogsheadref1_May.mono _ _ | exact LeO.refl _ | exact LeO.none _ | refine LeO.ite ?_ ?_ | refine LeO.bind ?_ (fun _ => ?_)
set_option maxHeartbeats 8000000 in
set_option maxRecDepth 100000 in
theorem hogsheadref1_Split.calls (k : Nat) (a0 : ByteArray) (r : List ByteArray) (w : World) (h : hogsheadref1_Split.f k a0 = some r) :
  Calls Tryd.prog 48 #[.string a0] w fun e w' => ∃ v0_ : Value, e = .returned (v0_) ∧ Kd.R Kd.string 9 w' w.heap.size (fun _ => True) v0_ r ∧ Below w.heap.size w w' := by
 have HB := am (Below.refl w.heap.size w); have H : (if a0.toList = ([] : List UInt8) then (some ([] : List ByteArray)) else ((hogsheadref1_May.f k a0).bind fun t263 => (if t263 = true then ((hogsheadref1_Cut.f k a0).bind fun t264 => (some t264)) else (some ([] : List ByteArray))))) = some r := h; clear h; by_cases c2 : a0.toList = ([] : List UInt8)
 ·rw [if_pos c2] at H
  have c2b0 : (a0.toList == ([] : List UInt8)) = true := beq_iff_eq.mpr c2; have c2b1 : (a0.toList != ([] : List UInt8)) = false := bne_eq_false_iff_eq.mpr c2; clear c2; obtain rfl := Option.some.inj H; go_enter Tryd.func48, Tryd.ntmps48; go_wp2
  go_ret; exact ⟨_, by first | rfl | (simp [eN, eS] <;> rfl) | (simp [*, eN, eS] <;> rfl), by first | exact Kd.R_nil _ _ _ _ _ | exact Kd.N_nil _ _ _ _ _ | exact Kd.V_nil _ _ _ _ _ | exact Kd.Q_nil _ _ _ _ _ | exact Kd.S_nil _ _ _ _ _, bz⟩
 ·rw [if_neg c2] at H
  have c2b0 : (a0.toList == ([] : List UInt8)) = false := beq_eq_false_iff_ne.mpr c2; have c2b1 : (a0.toList != ([] : List UInt8)) = true := bne_iff_ne.mpr c2; refine oR H ?_; clear H; intro t263 A3 H; by_cases c4 : t263 = true
  ·subst c4
   have H1 : ((hogsheadref1_Cut.f k a0).bind fun t264 => (some t264)) = some r := by rw [if_pos rfl] at H; exact H
   clear H; have H := H1; clear H1; refine oR H ?_; clear H; intro t264 A5 H; obtain rfl := Option.some.inj H; go_enter Tryd.func48, Tryd.ntmps48; go_wp2_with (first | (go_at_call 47; (with_reducible refine (hogsheadref1_May.calls k a0 true _ A3.out).mono ?_); rintro e w6 ⟨rfl, hb⟩; replace HB := bs hb) | ((with_reducible refine gate_callee (f := 54) rfl ?_); refine gL (some 11) Tryd.func54 #[.string a0] ?_; (with_reducible refine (hogsheadref1_Cut.calls k a0 t264 _ A5.out).mono ?_); rintro e w7 ⟨v265, rfl, ho0, hb⟩; refine ⟨_, rfl, ?_⟩; have HO266 := am (Kd.R_lower ho0 siz); replace HB := bs hb; (try clear ho0)))
   go_ret; exact ⟨_, by first | rfl | (simp [eN, eS] <;> rfl) | (simp [*, eN, eS] <;> rfl), by (with_reducible repeat (first | apply rA | apply rN | apply rD)); exact HO266.out, bz⟩
  ·replace c4 := Bool.eq_false_iff.mpr c4
   subst c4; have H1 : (some ([] : List ByteArray)) = some r := by rw [if_neg (show ¬ (false = true) by decide)] at H; exact H
   clear H; have H := H1; clear H1; obtain rfl := Option.some.inj H; go_enter Tryd.func48, Tryd.ntmps48; go_wp2_with (first | (go_at_call 47; (with_reducible refine (hogsheadref1_May.calls k a0 false _ A3.out).mono ?_); rintro e w8 ⟨rfl, hb⟩; replace HB := bs hb))
   go_ret; exact ⟨_, by first | rfl | (simp [eN, eS] <;> rfl) | (simp [*, eN, eS] <;> rfl), by first | exact Kd.R_nil _ _ _ _ _ | exact Kd.N_nil _ _ _ _ _ | exact Kd.V_nil _ _ _ _ _ | exact Kd.Q_nil _ _ _ _ _ | exact Kd.S_nil _ _ _ _ _, bz⟩

/-! ### hogsheadref1_Join: function 49 -/
mutual
def hogsheadref1_Join.l0 : Nat → List ByteArray → ByteArray → Int → Option (ByteArray × Bool)
 | 0, _, _, _ => none
 | k + 1, x0, x4, x5 => if x5 < (x0.length : Int) then (if 0 ≤ x5 then ((hogsheadref1_Part.f k (rdOf ByteArray.empty x0 x5)).bind fun t269 => (if t269 = true then (hogsheadref1_Join.j1 k x0 x4 x5 (decide ((x4.size : Int) > 200))) else (hogsheadref1_Join.j1 k x0 x4 x5 true))) else (none)) else ((hogsheadref1_May.f k x4).bind fun t267 => (if t267 = true then (some (x4, true)) else (some ((⟨#[]⟩ : ByteArray), false))))
def hogsheadref1_Join.j1 : Nat → List ByteArray → ByteArray → Int → Bool → Option (ByteArray × Bool)
 | 0, _, _, _, _ => none
 | k + 1, x0, x4, x5, x22 => if x22 = true then (some ((⟨#[]⟩ : ByteArray), false)) else (if x5 > 0 then (if x4.size + 1 ≤ 9223372036854775807 then (if 0 ≤ x5 then (if x5 < (x0.length : Int) then (if (x4 ++ (⟨#[47]⟩ : ByteArray)).size + (rdOf ByteArray.empty x0 x5).size ≤ 9223372036854775807 then (hogsheadref1_Join.l0 k x0 ((x4 ++ (⟨#[47]⟩ : ByteArray)) ++ (rdOf ByteArray.empty x0 x5)) (wrap64 (x5 + 1))) else (none)) else (none)) else (none)) else (none)) else (if 0 ≤ x5 then (if x5 < (x0.length : Int) then (if x4.size + (rdOf ByteArray.empty x0 x5).size ≤ 9223372036854775807 then (hogsheadref1_Join.l0 k x0 (x4 ++ (rdOf ByteArray.empty x0 x5)) (wrap64 (x5 + 1))) else (none)) else (none)) else (none)))
end
def hogsheadref1_Join.f (k : Nat) (l0 : List ByteArray) : Option (ByteArray × Bool) := hogsheadref1_Join.l0 k l0 (⟨#[]⟩ : ByteArray) 0
theorem hogsheadref1_Join.mono_l : ∀ k, (∀ y0 y1 y2, LeO (hogsheadref1_Join.l0 k y0 y1 y2) (hogsheadref1_Join.l0 (k + 1) y0 y1 y2)) ∧ (∀ y0 y1 y2 y3, LeO (hogsheadref1_Join.j1 k y0 y1 y2 y3) (hogsheadref1_Join.j1 (k + 1) y0 y1 y2 y3))
 | 0 => ⟨fun _ _ _ r h => by simp [hogsheadref1_Join.l0] at h, fun _ _ _ _ r h => by simp [hogsheadref1_Join.j1] at h⟩
 | k + 1 => by
  obtain ⟨ih0, ih1⟩ := hogsheadref1_Join.mono_l k; refine ⟨?_, ?_⟩
  ·intro y0 y1 y2
   unfold hogsheadref1_Join.l0
   repeat' with_reducible first | exact ih0 _ _ _ | exact ih1 _ _ _ _ | exact hogsheadref1_May.mono _ _ | exact hogsheadref1_Part.mono _ _ | exact LeO.refl _ | exact LeO.none _ | refine LeO.ite ?_ ?_ | refine LeO.bind ?_ (fun _ => ?_)
  ·intro y0 y1 y2 y3
   unfold hogsheadref1_Join.j1
   repeat' with_reducible first | exact ih0 _ _ _ | exact ih1 _ _ _ _ | exact hogsheadref1_May.mono _ _ | exact hogsheadref1_Part.mono _ _ | exact LeO.refl _ | exact LeO.none _ | refine LeO.ite ?_ ?_ | refine LeO.bind ?_ (fun _ => ?_)
theorem hogsheadref1_Join.mono : ∀ a0 k, LeO (hogsheadref1_Join.f k a0) (hogsheadref1_Join.f (k + 1) a0) := by
 intro a0 k; obtain ⟨ih0, ih1⟩ := hogsheadref1_Join.mono_l k; unfold hogsheadref1_Join.f
 repeat' with_reducible first | exact ih0 _ _ _ | exact ih1 _ _ _ _ | exact hogsheadref1_May.mono _ _ | exact hogsheadref1_Part.mono _ _ | exact LeO.refl _ | exact LeO.none _ | refine LeO.ite ?_ ?_ | refine LeO.bind ?_ (fun _ => ?_)
set_option maxHeartbeats 8000000 in
set_option maxRecDepth 100000 in
theorem hogsheadref1_Join.calls (k : Nat) (A0 : Option Addr) (c0 : Nat) (l0 : List ByteArray) (r1 : ByteArray) (r2 : Bool) (w : World) (hr0 : Kd.C Kd.string w A0 l0.length l0) (hc0 : l0.length ≤ c0) (h : hogsheadref1_Join.f k l0 = some (r1, r2)) :
  Calls Tryd.prog 49 #[.slice A0 l0.length c0] w fun e w' => e = .returned (.tuple #[.string r1, .bool r2]) ∧ Below w.heap.size w w' := by
 have HR0 := am hr0; have HC0 := am hc0; clear hr0 hc0; have HB := am (Below.refl w.heap.size w); have H : (hogsheadref1_Join.l0 k l0 (⟨#[]⟩ : ByteArray) 0) = some (r1, r2) := h; clear h; have H' := am H; clear H; go_enter Tryd.func49, Tryd.ntmps49; go_wp2
 go_loopg [4, 5] k (fun kq v4 v5 w' => ∃ (x4_1 : ByteArray) (x5_1 : Int), v4 = .string x4_1 ∧ v5 = .int .i64 x5_1 ∧ Aside0 (hogsheadref1_Join.l0 kq l0 x4_1 x5_1 = some (r1, r2)) ∧ Aside0 (kq ≤ k) ∧ Aside0 (Below w.heap.size w w'))
 case atStart => exact ⟨((⟨#[]⟩ : ByteArray)), (0), (by first | rfl | (simp; done) | (simp [*]; done)), (by first | rfl | (simp; done) | (simp [*]; done)), H', ⟨Nat.le_refl _⟩, ⟨bz⟩⟩
 case round =>
  clear H'; obtain ⟨x4_1, x5_1, rfl, rfl, HA, HK1, HB⟩ := hrel; cases gk with
  | zero => exact absurd HA.out (by simp [hogsheadref1_Join.l0])
  | succ k1 =>
   have H := HA.out; clear HA; simp only [hogsheadref1_Join.l0] at H
   by_cases c2 : x5_1 < (l0.length : Int)
   ·rw [if_pos c2] at H
    have c2b0 : decide (x5_1 < (l0.length : Int)) = true := decide_eq_true c2; clear c2; have HC3 := am H; clear H; go_upto_region 5 with (fail)
    go_cut [22] (fun v22 wc => ∃ (kq : Nat) (x22_2 : Bool), v22 = .bool x22_2 ∧ Aside0 (hogsheadref1_Join.j1 kq l0 x4_1 x5_1 x22_2 = some (r1, r2)) ∧ Aside0 (kq ≤ k1) ∧ Aside0 (Below w.heap.size w wc))
    case first =>
     have H := HC3.out; clear HC3; by_cases c4 : 0 ≤ x5_1
     ·rw [if_pos c4] at H
      have c4b0 : decide (0 ≤ x5_1) = true := decide_eq_true c4; clear c4; (first | rw [c4b0] | (simp only [i64_w, i32_w]; rw [c4b0]) | skip)
      refine oR H ?_; clear H; intro t269 A5 H; by_cases c6 : t269 = true
      ·subst c6
       have H1 : (hogsheadref1_Join.j1 k1 l0 x4_1 x5_1 (decide ((x4_1.size : Int) > 200))) = some (r1, r2) := by rw [if_pos rfl] at H; exact H
       clear H; have H := H1; clear H1; have H' := am H; clear H; have p268 : 0 ≤ (x5_1 : Int) := of_decide_eq_true (by assumption); have q268 : x5_1 < (l0.length : Int) := of_decide_eq_true (by assumption); obtain ⟨ad268, e268, hx268_0⟩ := Kd.at_string HR0.out x5_1 p268 q268; cases e268; replace hx268_0 := (HB.out.cell (wB w _ hx268_0)).trans hx268_0; replace p268 := eq_true p268; replace q268 := eq_true q268; go_wp2_with (first | ((with_reducible refine gate_callee (f := 55) rfl ?_); refine gL (some 16) Tryd.func55 #[.string (rdOf ByteArray.empty l0 x5_1)] ?_; (with_reducible refine (hogsheadref1_Part.calls k1 (rdOf ByteArray.empty l0 x5_1) true _ A5.out).mono ?_); rintro e w' ⟨rfl, ⟨nd, rfl⟩⟩; refine ⟨_, rfl, ?_⟩))
       go_meet; case rel => exact ⟨_, (decide ((x4_1.size : Int) > 200)), (by first | rfl | (simp; done) | (simp [*]; done)), H', ⟨by have := HK1.out; first | omega | exact Nat.le_refl _⟩, ⟨bz⟩⟩
      ·replace c6 := Bool.eq_false_iff.mpr c6
       subst c6; have H1 : (hogsheadref1_Join.j1 k1 l0 x4_1 x5_1 true) = some (r1, r2) := by rw [if_neg (show ¬ (false = true) by decide)] at H; exact H
       clear H; have H := H1; clear H1; have H' := am H; clear H; have p268 : 0 ≤ (x5_1 : Int) := of_decide_eq_true (by assumption); have q268 : x5_1 < (l0.length : Int) := of_decide_eq_true (by assumption); obtain ⟨ad268, e268, hx268_0⟩ := Kd.at_string HR0.out x5_1 p268 q268; cases e268; replace hx268_0 := (HB.out.cell (wB w _ hx268_0)).trans hx268_0; replace p268 := eq_true p268; replace q268 := eq_true q268; go_wp2_with (first | ((with_reducible refine gate_callee (f := 55) rfl ?_); refine gL (some 16) Tryd.func55 #[.string (rdOf ByteArray.empty l0 x5_1)] ?_; (with_reducible refine (hogsheadref1_Part.calls k1 (rdOf ByteArray.empty l0 x5_1) false _ A5.out).mono ?_); rintro e w' ⟨rfl, ⟨nd, rfl⟩⟩; refine ⟨_, rfl, ?_⟩))
       go_meet; case rel => exact ⟨_, (true), (by first | rfl | (simp; done) | (simp [*]; done)), H', ⟨by have := HK1.out; first | omega | exact Nat.le_refl _⟩, ⟨bz⟩⟩
     ·rw [if_neg c4] at H
      exact absurd H (by simp)
    case rest =>
     clear HC3; (try clear c2); (try clear c2b0); (try clear p2); (try clear q2); (try clear hx2); (try clear c4); (try clear c4b0); (try clear c5); (try clear c6); (try clear hx268_0); (try clear p268); (try clear q268); obtain ⟨kq, x22_2, rfl, HA, HJ2, HB⟩ := hcut; cases kq with
     | zero => exact absurd HA.out (by simp [hogsheadref1_Join.j1])
     | succ kj2 =>
      have H := HA.out; clear HA; simp only [hogsheadref1_Join.j1] at H
      by_cases c7 : x22_2 = true
      ·subst c7
       have H1 : (some ((⟨#[]⟩ : ByteArray), false)) = some (r1, r2) := by rw [if_pos rfl] at H; exact H
       clear H; have H := H1; clear H1; simp only [Option.some.injEq, Prod.mk.injEq] at H
       obtain ⟨rfl, rfl⟩ := H; go_wp2
       go_ret2; exact ⟨ez, bz⟩
      ·replace c7 := Bool.eq_false_iff.mpr c7
       subst c7; have H1 : (if x5_1 > 0 then (if x4_1.size + 1 ≤ 9223372036854775807 then (if 0 ≤ x5_1 then (if x5_1 < (l0.length : Int) then (if (x4_1 ++ (⟨#[47]⟩ : ByteArray)).size + (rdOf ByteArray.empty l0 x5_1).size ≤ 9223372036854775807 then (hogsheadref1_Join.l0 kj2 l0 ((x4_1 ++ (⟨#[47]⟩ : ByteArray)) ++ (rdOf ByteArray.empty l0 x5_1)) (wrap64 (x5_1 + 1))) else (none)) else (none)) else (none)) else (none)) else (if 0 ≤ x5_1 then (if x5_1 < (l0.length : Int) then (if x4_1.size + (rdOf ByteArray.empty l0 x5_1).size ≤ 9223372036854775807 then (hogsheadref1_Join.l0 kj2 l0 (x4_1 ++ (rdOf ByteArray.empty l0 x5_1)) (wrap64 (x5_1 + 1))) else (none)) else (none)) else (none))) = some (r1, r2) := by rw [if_neg (show ¬ (false = true) by decide)] at H; exact H
       clear H; have H := H1; clear H1; by_cases c8 : x5_1 > 0
       ·rw [if_pos c8] at H
        have c8b0 : decide (0 < x5_1) = true := decide_eq_true c8; clear c8; by_cases c9 : x4_1.size + 1 ≤ 9223372036854775807
        ·rw [if_pos c9] at H
         have c9b0 := eq_true c9; have c9b1 : decide (x4_1.size + 1 ≤ 9223372036854775807) = true := decide_eq_true c9; try have c9b2 : (9223372036854775807 < x4_1.size + 1) = False := eq_false (Nat.not_lt.2 c9)
         by_cases c10 : 0 ≤ x5_1
         ·rw [if_pos c10] at H
          have c10b0 : decide (0 ≤ x5_1) = true := decide_eq_true c10; clear c10; by_cases c11 : x5_1 < (l0.length : Int)
          ·rw [if_pos c11] at H
           have c11b0 : decide (x5_1 < (l0.length : Int)) = true := decide_eq_true c11; clear c11; by_cases c12 : (x4_1 ++ (⟨#[47]⟩ : ByteArray)).size + (rdOf ByteArray.empty l0 x5_1).size ≤ 9223372036854775807
           ·rw [if_pos c12] at H
            have c12b0 := eq_true c12; have c12b1 : decide ((x4_1 ++ (⟨#[47]⟩ : ByteArray)).size + (rdOf ByteArray.empty l0 x5_1).size ≤ 9223372036854775807) = true := decide_eq_true c12; try have c12b2 : (9223372036854775807 < (x4_1 ++ (⟨#[47]⟩ : ByteArray)).size + (rdOf ByteArray.empty l0 x5_1).size) = False := eq_false (Nat.not_lt.2 c12)
            have H' := am H; clear H; have p270 : 0 ≤ (x5_1 : Int) := of_decide_eq_true (by assumption); have q270 : x5_1 < (l0.length : Int) := of_decide_eq_true (by assumption); obtain ⟨ad270, e270, hx270_0⟩ := Kd.at_string HR0.out x5_1 p270 q270; cases e270; replace hx270_0 := (HB.out.cell (wB w _ hx270_0)).trans hx270_0; replace p270 := eq_true p270; replace q270 := eq_true q270; go_wp2
            go_roundg kj2
            case measure => have := HK1.out; have := HJ2.out; omega
            case rel => exact ⟨((x4_1 ++ (⟨#[47]⟩ : ByteArray)) ++ (rdOf ByteArray.empty l0 x5_1)), (wrap64 (x5_1 + 1)), (by first | rfl | (simp; done) | (simp [*]; done)), (by first | rfl | (simp; done) | (simp [*]; done)), H', ⟨by have := HK1.out; have := HJ2.out; omega⟩, ⟨bz⟩⟩
           ·rw [if_neg c12] at H
            exact absurd H (by simp)
          ·rw [if_neg c11] at H
           exact absurd H (by simp)
         ·rw [if_neg c10] at H
          exact absurd H (by simp)
        ·rw [if_neg c9] at H
         exact absurd H (by simp)
       ·rw [if_neg c8] at H
        have c8b0 : decide (0 < x5_1) = false := decide_eq_false c8; clear c8; by_cases c13 : 0 ≤ x5_1
        ·rw [if_pos c13] at H
         have c13b0 : decide (0 ≤ x5_1) = true := decide_eq_true c13; clear c13; by_cases c14 : x5_1 < (l0.length : Int)
         ·rw [if_pos c14] at H
          have c14b0 : decide (x5_1 < (l0.length : Int)) = true := decide_eq_true c14; clear c14; by_cases c15 : x4_1.size + (rdOf ByteArray.empty l0 x5_1).size ≤ 9223372036854775807
          ·rw [if_pos c15] at H
           have c15b0 := eq_true c15; have c15b1 : decide (x4_1.size + (rdOf ByteArray.empty l0 x5_1).size ≤ 9223372036854775807) = true := decide_eq_true c15; try have c15b2 : (9223372036854775807 < x4_1.size + (rdOf ByteArray.empty l0 x5_1).size) = False := eq_false (Nat.not_lt.2 c15)
           have H' := am H; clear H; have p271 : 0 ≤ (x5_1 : Int) := of_decide_eq_true (by assumption); have q271 : x5_1 < (l0.length : Int) := of_decide_eq_true (by assumption); obtain ⟨ad271, e271, hx271_0⟩ := Kd.at_string HR0.out x5_1 p271 q271; cases e271; replace hx271_0 := (HB.out.cell (wB w _ hx271_0)).trans hx271_0; replace p271 := eq_true p271; replace q271 := eq_true q271; go_wp2
           go_roundg kj2
           case measure => have := HK1.out; have := HJ2.out; omega
           case rel => exact ⟨(x4_1 ++ (rdOf ByteArray.empty l0 x5_1)), (wrap64 (x5_1 + 1)), (by first | rfl | (simp; done) | (simp [*]; done)), (by first | rfl | (simp; done) | (simp [*]; done)), H', ⟨by have := HK1.out; have := HJ2.out; omega⟩, ⟨bz⟩⟩
          ·rw [if_neg c15] at H
           exact absurd H (by simp)
         ·rw [if_neg c14] at H
          exact absurd H (by simp)
        ·rw [if_neg c13] at H
         exact absurd H (by simp)
   ·rw [if_neg c2] at H
    have c2b0 : decide (x5_1 < (l0.length : Int)) = false := decide_eq_false c2; clear c2; refine oR H ?_; clear H; intro t267 A16 H; by_cases c17 : t267 = true
    ·subst c17
     have H1 : (some (x4_1, true)) = some (r1, r2) := by rw [if_pos rfl] at H; exact H
     clear H; have H := H1; clear H1; simp only [Option.some.injEq, Prod.mk.injEq] at H
     obtain ⟨rfl, rfl⟩ := H; go_wp2_with (first | ((with_reducible refine gate_callee (f := 47) rfl ?_); refine gL (some 34) Tryd.func47 #[.string x4_1] ?_; (with_reducible refine (hogsheadref1_May.calls k1 x4_1 true _ A16.out).mono ?_); rintro e w18 ⟨rfl, hb⟩; refine ⟨_, rfl, ?_⟩; replace HB := bs hb))
     go_ret2; exact ⟨ez, bz⟩
    ·replace c17 := Bool.eq_false_iff.mpr c17
     subst c17; have H1 : (some ((⟨#[]⟩ : ByteArray), false)) = some (r1, r2) := by rw [if_neg (show ¬ (false = true) by decide)] at H; exact H
     clear H; have H := H1; clear H1; simp only [Option.some.injEq, Prod.mk.injEq] at H
     obtain ⟨rfl, rfl⟩ := H; go_wp2_with (first | ((with_reducible refine gate_callee (f := 47) rfl ?_); refine gL (some 34) Tryd.func47 #[.string x4_1] ?_; (with_reducible refine (hogsheadref1_May.calls k1 x4_1 false _ A16.out).mono ?_); rintro e w19 ⟨rfl, hb⟩; refine ⟨_, rfl, ?_⟩; replace HB := bs hb))
     go_ret2; exact ⟨ez, bz⟩

/-! ### hogsheadref1_Parent: function 39 -/
def hogsheadref1_Parent.f (k : Nat) (a0 : ByteArray) : Option (ByteArray × Bool) := (hogsheadref1_Split.f k a0).bind fun t272 => (if (t272.length : Int) = 0 then (some ((⟨#[]⟩ : ByteArray), false)) else (if 0 ≤ (wrap64 ((t272.length : Int) - 1)) then (if (wrap64 ((t272.length : Int) - 1)) ≤ (t272.length : Int) then ((hogsheadref1_Join.f k (t272.take ((wrap64 ((t272.length : Int) - 1)) : Int).toNat)).bind fun bt279 => (some (bt279.1, bt279.2))) else (none)) else (none)))
theorem hogsheadref1_Parent.mono : ∀ a0 k, LeO (hogsheadref1_Parent.f k a0) (hogsheadref1_Parent.f (k + 1) a0) := by
 intro a0 k; unfold hogsheadref1_Parent.f
 repeat' with_reducible first | exact hogsheadref1_Join.mono _ _ | exact hogsheadref1_Split.mono _ _ | exact LeO.refl _ | exact LeO.none _ | refine LeO.ite ?_ ?_ | refine LeO.bind ?_ (fun _ => ?_)
set_option maxHeartbeats 8000000 in
set_option maxRecDepth 100000 in
theorem hogsheadref1_Parent.calls (k : Nat) (a0 : ByteArray) (r1 : ByteArray) (r2 : Bool) (w : World) (h : hogsheadref1_Parent.f k a0 = some (r1, r2)) :
  Calls Tryd.prog 39 #[.string a0] w fun e w' => e = .returned (.tuple #[.string r1, .bool r2]) ∧ Below w.heap.size w w' := by
 have HB := am (Below.refl w.heap.size w); have H : ((hogsheadref1_Split.f k a0).bind fun t272 => (if (t272.length : Int) = 0 then (some ((⟨#[]⟩ : ByteArray), false)) else (if 0 ≤ (wrap64 ((t272.length : Int) - 1)) then (if (wrap64 ((t272.length : Int) - 1)) ≤ (t272.length : Int) then ((hogsheadref1_Join.f k (t272.take ((wrap64 ((t272.length : Int) - 1)) : Int).toNat)).bind fun bt279 => (some (bt279.1, bt279.2))) else (none)) else (none)))) = some (r1, r2) := h; clear h; refine oR H ?_; clear H; intro t272 A2 H; by_cases c3 : (t272.length : Int) = 0
 ·rw [if_pos c3] at H
  have c3b0 : ((t272.length : Int) == 0) = true := beq_iff_eq.mpr c3; have c3b1 : ((t272.length : Int) != 0) = false := bne_eq_false_iff_eq.mpr c3; clear c3; simp only [Option.some.injEq, Prod.mk.injEq] at H
  obtain ⟨rfl, rfl⟩ := H; go_enter Tryd.func39, Tryd.ntmps39; go_wp2_with (first | ((with_reducible refine gate_callee (f := 48) rfl ?_); refine gL (some 6) Tryd.func48 #[.string a0] ?_; (with_reducible refine (hogsheadref1_Split.calls k a0 t272 _ A2.out).mono ?_); rintro e w4 ⟨v273, rfl, ho0, hb⟩; refine ⟨_, rfl, ?_⟩; have HO274 := am (Kd.R_lower ho0 siz); replace HB := bs hb; (try clear ho0); obtain ⟨Ao5, co5, eo5⟩ := Kd.R_slice HO274.out; subst eo5))
  go_ret2; exact ⟨ez, bz⟩
 ·rw [if_neg c3] at H
  have c3b0 : ((t272.length : Int) == 0) = false := beq_eq_false_iff_ne.mpr c3; have c3b1 : ((t272.length : Int) != 0) = true := bne_iff_ne.mpr c3; have c3b2 : ¬ (t272 = []) := fun h_ => c3 (by rw [h_]; rfl)
  obtain ⟨ji6, hji6⟩ : ∃ j_ : Int, (wrap64 ((t272.length : Int) - 1)) = j_ := ⟨_, rfl⟩; replace H : (if 0 ≤ (ji6) then (if (ji6) ≤ (t272.length : Int) then ((hogsheadref1_Join.f k (t272.take ((ji6) : Int).toNat)).bind fun bt279 => (some (bt279.1, bt279.2))) else (none)) else (none)) = some (r1, r2) := by first | (rw [hji6] at H; exact H) | (simp only [hji6] at H ⊢; exact H)
  (try rw [hji6] at A2)
  have hji6w : (IntKind.i64.wrap ((t272.length : Int) - 1)) = ji6 := (i64_w _).trans hji6; by_cases c7 : 0 ≤ (ji6)
  ·rw [if_pos c7] at H
   have c7b0 := eq_true c7; have c7b1 : decide (0 ≤ (ji6)) = true := decide_eq_true c7; clear c7; by_cases c8 : (ji6) ≤ (t272.length : Int)
   ·rw [if_pos c8] at H
    have c8b0 := eq_true c8; have c8b1 : decide ((ji6) ≤ (t272.length : Int)) = true := decide_eq_true c8; clear c8; obtain ⟨y275, hy275⟩ : ∃ y_ : List ByteArray, y_ = (t272.take ((ji6) : Int).toNat) := ⟨_, rfl⟩; try rw [← hy275] at H
    have Ny275 := am hy275; clear hy275; replace H := oB H; obtain ⟨⟨t279, t280⟩, A90, H⟩ := H; replace H : (some (t279, t280)) = some (r1, r2) := H; have A9 := am A90; clear A90; simp only [Option.some.injEq, Prod.mk.injEq] at H
    obtain ⟨rfl, rfl⟩ := H; go_enter Tryd.func39, Tryd.ntmps39; go_wp2_with (first | ((with_reducible refine gate_callee (f := 48) rfl ?_); refine gL (some 6) Tryd.func48 #[.string a0] ?_; (with_reducible refine (hogsheadref1_Split.calls k a0 t272 _ A2.out).mono ?_); rintro e w10 ⟨v273, rfl, ho0, hb⟩; refine ⟨_, rfl, ?_⟩; have HO274 := am (Kd.R_lower ho0 siz); replace HB := bs hb; (try clear ho0); obtain ⟨Ao11, co11, eo11⟩ := Kd.R_slice HO274.out; subst eo11; have q12 : ((ji6) : Int) ≤ ((t272.length : Int) : Int) := of_decide_eq_true (by assumption); obtain ⟨i012, hi012, _, hsz12, _⟩ := info_parts info9; have hroom12 : t272.length ≤ co11 := (Kd.R_reads' HO274.out).2.1; have hC12 : Kd.C Kd.string _ Ao11 t272.length t272 := (Kd.R_reads' HO274.out).2.2; have hcut12 := cut_to (P := Tryd.prog) 67 9 .i64 Tryd.underlying67 hi012 Ao11 t272.length co11 (ji6) (of_decide_eq_true (by assumption)) q12 hroom12; have hr12 := Kd.C_take (m := ((ji6) : Int).toNat) hC12 (by omega); have hy12 : y275.length = ((ji6) : Int).toNat := (by rw [Ny275.out, lT]; omega); rw [← Ny275.out] at hr12; rw [← hy12] at hcut12; have HR278 := am hr12; have HC278 := am (show y275.length ≤ co11 from by omega); clear hr12 hC12 hroom12 hi012 hsz12; have KY12 := am hy12; clear hy12; have KL12 := am (show ((ji6) : Int).toNat ≤ t272.length from by omega); replace q12 := eq_true q12) | ((with_reducible refine gate_callee (f := 49) rfl ?_); refine gL (some 15) Tryd.func49 #[.slice Ao11 y275.length co11] ?_; (with_reducible refine (hogsheadref1_Join.calls k _ _ y275 t279 t280 _ ?side1 ?side2 A9.out).mono ?_); (case side1 => repeat (first | exact (by repeat (first | (with_reducible exact HR278.out) | (with_reducible refine cA ?_ _) | (with_reducible refine cN ?_ _) | (with_reducible refine cD ?_) | exact HR278.out)) | (with_reducible refine cA ?_ _) | (with_reducible refine cN ?_ _) | (with_reducible refine cD ?_))); (case side2 => exact HC278.out); rintro e w13 ⟨rfl, hb⟩; refine ⟨_, rfl, ?_⟩; replace HO274 := am (Kd.R_below (rz HO274.out) hb); replace HR278 := am (Kd.C_below (by repeat (first | (with_reducible exact HR278.out) | (with_reducible refine cA ?_ _) | (with_reducible refine cN ?_ _) | (with_reducible refine cD ?_) | exact HR278.out)) hb); replace HB := bs hb))
    go_ret2; exact ⟨by first | rfl | (simp [eN, eS] <;> rfl) | (simp only [← hji6]; first | rfl | (simp [eN, eS] <;> rfl)) | (simp [*, eN, eS] <;> rfl), bz⟩
   ·rw [if_neg c8] at H
    exact absurd H (by simp)
  ·rw [if_neg c7] at H
   exact absurd H (by simp)

end Go.Proofs.YtiamdmlbhmgnjaaDoor.P
