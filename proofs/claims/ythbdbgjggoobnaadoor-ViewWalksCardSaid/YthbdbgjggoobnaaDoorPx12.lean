/- Laid by a program of this session (wip/pr), after the printer of the kit: the functions that a statement reaches as plain Lean functions, and that the calls of the machine come to them. No condition. -/
import Derived.Test.YthbdbgjggoobnaaDoorPx0
namespace Go.Proofs.YthbdbgjggoobnaaDoor.P
open Go.RowKit Go.Proofs.YthbdbgjggoobnaaDoorX Go.Proofs.YthbdbgjggoobnaaDoorW.PrintWords Go.Proofs.YthbdbgjggoobnaaDoorW.PrintLast Go.Proofs.YthbdbgjggoobnaaDoorW.PrintMore
attribute [local go_sem] max2_int min2_int max_two min_two
set_option linter.unusedVariables false
set_option linter.unusedSimpArgs false

/-! ### lz_Unpack: function 68 -/
mutual
def lz_Unpack.j0 : Nat → ByteArray → Int → Bool → Option (ByteArray × Int)
 | 0, _, _, _ => none
 | k + 1, x0, x1, x15 => if x15 = true then (some ((⟨#[]⟩ : ByteArray), 5)) else (lz_Unpack.l0 k x0 x1 ([] : List Int))
def lz_Unpack.l0 : Nat → ByteArray → Int → List Int → Option (ByteArray × Int)
 | 0, _, _, _ => none
 | k + 1, x0, x1, x6 => if x0.toList = ([] : List UInt8) then (if (x6.length : Int) = x1 then (some (strOfNums x6, 0)) else (some ((⟨#[]⟩ : ByteArray), 5))) else (if 0 < (x0.size : Int) then (if (wrap64 (bt x0 0)) > 127 then (lz_Unpack.j2 k x0 x1 x6 (wrap64 (bt x0 0)) (wrap64 ((wrap64 ((wrap64 (bt x0 0)) - 128)) + 3))) else (lz_Unpack.j2 k x0 x1 x6 (wrap64 (bt x0 0)) (wrap64 ((wrap64 (bt x0 0)) + 1)))) else (none))
def lz_Unpack.j2 : Nat → ByteArray → Int → List Int → Int → Int → Option (ByteArray × Int)
 | 0, _, _, _, _, _ => none
 | k + 1, x0, x1, x6, x7, x8 => if x8 > (wrap64 (x1 - (x6.length : Int))) then (lz_Unpack.j3 k x0 x1 x6 x7 x8 true) else (lz_Unpack.j3 k x0 x1 x6 x7 x8 (decide ((x0.size : Int) < 2)))
def lz_Unpack.j3 : Nat → ByteArray → Int → List Int → Int → Int → Bool → Option (ByteArray × Int)
 | 0, _, _, _, _, _, _ => none
 | k + 1, x0, x1, x6, x7, x8, x38 => if x38 = true then (some ((⟨#[]⟩ : ByteArray), 5)) else (if x7 ≤ 127 then (if (x0.size : Int) ≤ x8 then (some ((⟨#[]⟩ : ByteArray), 5)) else (if 1 ≤ (wrap64 (1 + x8)) then (if (wrap64 (1 + x8)) ≤ (x0.size : Int) then (if x6.length + (x0.extract 1 ((wrap64 (1 + x8)) : Int).toNat).size < 140737488355328 then (if 0 ≤ (wrap64 (1 + x8)) then (lz_Unpack.l0 k (x0.extract ((wrap64 (1 + x8)) : Int).toNat x0.size) x1 (x6 ++ bytesOf (x0.extract 1 ((wrap64 (1 + x8)) : Int).toNat))) else (none)) else (none)) else (none)) else (none))) else (if 1 < (x0.size : Int) then (if (wrap64 (bt x0 1)) = 0 then (lz_Unpack.j4 k x0 x1 x6 x8 (wrap64 (bt x0 1)) true) else (lz_Unpack.j4 k x0 x1 x6 x8 (wrap64 (bt x0 1)) (decide ((wrap64 (bt x0 1)) > (x6.length : Int))))) else (none)))
def lz_Unpack.j4 : Nat → ByteArray → Int → List Int → Int → Int → Bool → Option (ByteArray × Int)
 | 0, _, _, _, _, _, _ => none
 | k + 1, x0, x1, x6, x8, x9, x65 => if x65 = true then (some ((⟨#[]⟩ : ByteArray), 5)) else (lz_Unpack.l1 k x0 x1 x6 x9 x8 0)
def lz_Unpack.l1 : Nat → ByteArray → Int → List Int → Int → Int → Int → Option (ByteArray × Int)
 | 0, _, _, _, _, _, _ => none
 | k + 1, x0, x1, x6, x9, x66, x67 => if x67 < x66 then (if 0 ≤ (wrap64 ((x6.length : Int) - x9)) then (if (wrap64 ((x6.length : Int) - x9)) < (x6.length : Int) then (if x6.length < 140737488355328 then (lz_Unpack.l1 k x0 x1 (x6 ++ [rd x6 (wrap64 ((x6.length : Int) - x9))]) x9 x66 (wrap64 (x67 + 1))) else (none)) else (none)) else (none)) else (if 2 ≤ (x0.size : Int) then (lz_Unpack.l0 k (x0.extract 2 x0.size) x1 x6) else (none))
end
def lz_Unpack.f (k : Nat) (a0 : ByteArray) (a1 : Int) : Option (ByteArray × Int) := if a1 < 0 then (lz_Unpack.j0 k a0 a1 true) else (lz_Unpack.j0 k a0 a1 (decide (a1 > 1000000)))
theorem lz_Unpack.mono_l : ∀ k, (∀ y0 y1 y2, LeO (lz_Unpack.j0 k y0 y1 y2) (lz_Unpack.j0 (k + 1) y0 y1 y2)) ∧ (∀ y0 y1 y2, LeO (lz_Unpack.l0 k y0 y1 y2) (lz_Unpack.l0 (k + 1) y0 y1 y2)) ∧ (∀ y0 y1 y2 y3 y4, LeO (lz_Unpack.j2 k y0 y1 y2 y3 y4) (lz_Unpack.j2 (k + 1) y0 y1 y2 y3 y4)) ∧ (∀ y0 y1 y2 y3 y4 y5, LeO (lz_Unpack.j3 k y0 y1 y2 y3 y4 y5) (lz_Unpack.j3 (k + 1) y0 y1 y2 y3 y4 y5)) ∧ (∀ y0 y1 y2 y3 y4 y5, LeO (lz_Unpack.j4 k y0 y1 y2 y3 y4 y5) (lz_Unpack.j4 (k + 1) y0 y1 y2 y3 y4 y5)) ∧ (∀ y0 y1 y2 y3 y4 y5, LeO (lz_Unpack.l1 k y0 y1 y2 y3 y4 y5) (lz_Unpack.l1 (k + 1) y0 y1 y2 y3 y4 y5))
 | 0 => ⟨fun _ _ _ r h => by simp [lz_Unpack.j0] at h, fun _ _ _ r h => by simp [lz_Unpack.l0] at h, fun _ _ _ _ _ r h => by simp [lz_Unpack.j2] at h, fun _ _ _ _ _ _ r h => by simp [lz_Unpack.j3] at h, fun _ _ _ _ _ _ r h => by simp [lz_Unpack.j4] at h, fun _ _ _ _ _ _ r h => by simp [lz_Unpack.l1] at h⟩
 | k + 1 => by
  obtain ⟨ih0, ih1, ih2, ih3, ih4, ih5⟩ := lz_Unpack.mono_l k; refine ⟨?_, ?_, ?_, ?_, ?_, ?_⟩
  ·intro y0 y1 y2
   unfold lz_Unpack.j0
   repeat' with_reducible first | exact ih0 _ _ _ | exact ih1 _ _ _ | exact ih2 _ _ _ _ _ | exact ih3 _ _ _ _ _ _ | exact ih4 _ _ _ _ _ _ | exact ih5 _ _ _ _ _ _ | exact LeO.refl _ | exact LeO.none _ | refine LeO.ite ?_ ?_ | refine LeO.bind ?_ (fun _ => ?_)
  ·intro y0 y1 y2
   unfold lz_Unpack.l0
   repeat' with_reducible first | exact ih0 _ _ _ | exact ih1 _ _ _ | exact ih2 _ _ _ _ _ | exact ih3 _ _ _ _ _ _ | exact ih4 _ _ _ _ _ _ | exact ih5 _ _ _ _ _ _ | exact LeO.refl _ | exact LeO.none _ | refine LeO.ite ?_ ?_ | refine LeO.bind ?_ (fun _ => ?_)
  ·intro y0 y1 y2 y3 y4
   unfold lz_Unpack.j2
   repeat' with_reducible first | exact ih0 _ _ _ | exact ih1 _ _ _ | exact ih2 _ _ _ _ _ | exact ih3 _ _ _ _ _ _ | exact ih4 _ _ _ _ _ _ | exact ih5 _ _ _ _ _ _ | exact LeO.refl _ | exact LeO.none _ | refine LeO.ite ?_ ?_ | refine LeO.bind ?_ (fun _ => ?_)
  ·intro y0 y1 y2 y3 y4 y5
   unfold lz_Unpack.j3
   repeat' with_reducible first | exact ih0 _ _ _ | exact ih1 _ _ _ | exact ih2 _ _ _ _ _ | exact ih3 _ _ _ _ _ _ | exact ih4 _ _ _ _ _ _ | exact ih5 _ _ _ _ _ _ | exact LeO.refl _ | exact LeO.none _ | refine LeO.ite ?_ ?_ | refine LeO.bind ?_ (fun _ => ?_)
  ·intro y0 y1 y2 y3 y4 y5
   unfold lz_Unpack.j4
   repeat' with_reducible first | exact ih0 _ _ _ | exact ih1 _ _ _ | exact ih2 _ _ _ _ _ | exact ih3 _ _ _ _ _ _ | exact ih4 _ _ _ _ _ _ | exact ih5 _ _ _ _ _ _ | exact LeO.refl _ | exact LeO.none _ | refine LeO.ite ?_ ?_ | refine LeO.bind ?_ (fun _ => ?_)
  ·intro y0 y1 y2 y3 y4 y5
   unfold lz_Unpack.l1
   repeat' with_reducible first | exact ih0 _ _ _ | exact ih1 _ _ _ | exact ih2 _ _ _ _ _ | exact ih3 _ _ _ _ _ _ | exact ih4 _ _ _ _ _ _ | exact ih5 _ _ _ _ _ _ | exact LeO.refl _ | exact LeO.none _ | refine LeO.ite ?_ ?_ | refine LeO.bind ?_ (fun _ => ?_)
theorem lz_Unpack.mono : ∀ a0 a1 k, LeO (lz_Unpack.f k a0 a1) (lz_Unpack.f (k + 1) a0 a1) := by
 intro a0 a1 k; obtain ⟨ih0, ih1, ih2, ih3, ih4, ih5⟩ := lz_Unpack.mono_l k; unfold lz_Unpack.f
 repeat' with_reducible first | exact ih0 _ _ _ | exact ih1 _ _ _ | exact ih2 _ _ _ _ _ | exact ih3 _ _ _ _ _ _ | exact ih4 _ _ _ _ _ _ | exact ih5 _ _ _ _ _ _ | exact LeO.refl _ | exact LeO.none _ | refine LeO.ite ?_ ?_ | refine LeO.bind ?_ (fun _ => ?_)
set_option maxHeartbeats 8000000 in
set_option maxRecDepth 100000 in
theorem lz_Unpack.calls (k : Nat) (a0 : ByteArray) (a1 : Int) (r1 : ByteArray) (r2 : Int) (w : World) (h : lz_Unpack.f k a0 a1 = some (r1, r2)) :
  Calls Tryd.prog 68 #[.string a0, .int .i64 a1] w fun e w' => e = .returned (.tuple #[.string r1, .int .i64 r2]) ∧ Below w.heap.size w w' := by
 have HB := am (Below.refl w.heap.size w); have H : (if a1 < 0 then (lz_Unpack.j0 k a0 a1 true) else (lz_Unpack.j0 k a0 a1 (decide (a1 > 1000000)))) = some (r1, r2) := h; clear h; have HC3 := am H; clear H; go_enter Tryd.func68, Tryd.ntmps68; go_upto_region 1 with (fail)
 go_cut [15] (fun v15 wc => ∃ (kq : Nat) (x15_2 : Bool), v15 = .bool x15_2 ∧ Aside0 (lz_Unpack.j0 kq a0 a1 x15_2 = some (r1, r2)) ∧ Aside0 (kq ≤ k) ∧ Aside0 (Below w.heap.size w wc))
 case first =>
  have H := HC3.out; clear HC3; by_cases c4 : a1 < 0
  ·rw [if_pos c4] at H
   have c4b0 : decide (a1 < 0) = true := decide_eq_true c4; clear c4; (first | rw [c4b0] | (simp only [i64_w, i32_w]; rw [c4b0]) | skip)
   have H' := am H; clear H; go_wp2
   go_meet; case rel => exact ⟨_, (true), (by first | rfl | (simp; done) | (simp [*]; done)), H', ⟨by first | omega | exact Nat.le_refl _⟩, ⟨bz⟩⟩
  ·rw [if_neg c4] at H
   have c4b0 : decide (a1 < 0) = false := decide_eq_false c4; clear c4; (first | rw [c4b0] | (simp only [i64_w, i32_w]; rw [c4b0]) | skip)
   have H' := am H; clear H; go_wp2
   go_meet; case rel => exact ⟨_, (decide (a1 > 1000000)), (by first | rfl | (simp; done) | (simp [*]; done)), H', ⟨by first | omega | exact Nat.le_refl _⟩, ⟨bz⟩⟩
 case rest =>
  clear HC3; (try clear p2); (try clear c4); (try clear c4b0); obtain ⟨kq, x15_2, rfl, HA, HJ2, HB⟩ := hcut; cases kq with
  | zero => exact absurd HA.out (by simp [lz_Unpack.j0])
  | succ kj2 =>
   have H := HA.out; clear HA; simp only [lz_Unpack.j0] at H
   by_cases c5 : x15_2 = true
   ·subst c5
    have H1 : (some ((⟨#[]⟩ : ByteArray), 5)) = some (r1, r2) := by rw [if_pos rfl] at H; exact H
    clear H; have H := H1; clear H1; simp only [Option.some.injEq, Prod.mk.injEq] at H
    obtain ⟨rfl, rfl⟩ := H; go_wp2
    go_ret2; exact ⟨ez, bz⟩
   ·replace c5 := Bool.eq_false_iff.mpr c5
    subst c5; have H1 : (lz_Unpack.l0 kj2 a0 a1 ([] : List Int)) = some (r1, r2) := by rw [if_neg (show ¬ (false = true) by decide)] at H; exact H
    clear H; have H := H1; clear H1; have H' := am H; clear H; go_wp2
    go_loopg [0, 6] kj2 (fun kq v0 v6 w' => ∃ (x0_2 : ByteArray) (x6_2 : List Int), v0 = .string x0_2 ∧ Aside0 (lz_Unpack.l0 kq x0_2 a1 x6_2 = some (r1, r2)) ∧ Aside0 (kq ≤ kj2) ∧ Aside0 (Kd.R (Kd.int .u8) 5 w' w.heap.size (fun _ => True) v6 x6_2) ∧ Aside0 (Below w.heap.size w w'))
    case atStart => exact ⟨(a0), (([] : List Int)), (by first | rfl | (simp; done) | (simp [*]; done)), H', ⟨Nat.le_refl _⟩, ⟨by first | exact Kd.R_nil _ _ _ _ _ | exact Kd.N_nil _ _ _ _ _ | exact Kd.V_nil _ _ _ _ _ | exact Kd.Q_nil _ _ _ _ _ | exact Kd.S_nil _ _ _ _ _⟩, ⟨bz⟩⟩
    case round =>
     clear H'; (try clear p2); (try clear c4); (try clear c4b0); (try clear c5); (try clear p2); obtain ⟨x0_2, x6_2, rfl, HA, HK2, HO_6, HB⟩ := hrel; cases gk with
     | zero => exact absurd HA.out (by simp [lz_Unpack.l0])
     | succ k2 =>
      have H := HA.out; clear HA; simp only [lz_Unpack.l0] at H
      by_cases c6 : x0_2.toList = ([] : List UInt8)
      ·rw [if_pos c6] at H
       have c6b0 : (x0_2.toList == ([] : List UInt8)) = true := beq_iff_eq.mpr c6; have c6b1 : (x0_2.toList != ([] : List UInt8)) = false := bne_eq_false_iff_eq.mpr c6; clear c6; by_cases c7 : (x6_2.length : Int) = a1
       ·rw [if_pos c7] at H
        have c7b0 : ((x6_2.length : Int) == a1) = true := beq_iff_eq.mpr c7; have c7b1 : ((x6_2.length : Int) != a1) = false := bne_eq_false_iff_eq.mpr c7; clear c7; simp only [Option.some.injEq, Prod.mk.injEq] at H
        obtain ⟨rfl, rfl⟩ := H; obtain ⟨Ao8, co8, eo8⟩ := Kd.R_slice HO_6.out; subst eo8; have hcv9 := own_string (P := Tryd.prog) Tryd.underlying27 Tryd.underlying5 Tryd.underlying9 (Kd.own_of_R HO_6.out); go_wp2
        go_ret2; exact ⟨ez, bz⟩
       ·rw [if_neg c7] at H
        have c7b0 : ((x6_2.length : Int) == a1) = false := beq_eq_false_iff_ne.mpr c7; have c7b1 : ((x6_2.length : Int) != a1) = true := bne_iff_ne.mpr c7; simp only [Option.some.injEq, Prod.mk.injEq] at H
        obtain ⟨rfl, rfl⟩ := H; obtain ⟨Ao10, co10, eo10⟩ := Kd.R_slice HO_6.out; subst eo10; go_wp2
        go_ret2; exact ⟨ez, bz⟩
      ·rw [if_neg c6] at H
       have c6b0 : (x0_2.toList == ([] : List UInt8)) = false := beq_eq_false_iff_ne.mpr c6; have c6b1 : (x0_2.toList != ([] : List UInt8)) = true := bne_iff_ne.mpr c6; by_cases c11 : 0 < (x0_2.size : Int)
       ·rw [if_pos c11] at H
        have c11b0 : decide (0 < (x0_2.size : Int)) = true := decide_eq_true c11; have c11b1 : decide (0 < x0_2.size) = true := decide_eq_true (by omega); clear c11; have HC13 := am H; clear H; have p12 : 0 ≤ (0 : Int) := (by omega); have q12 : 0 < x0_2.size := (by have : (0 : Int) < (x0_2.size : Int) := of_decide_eq_true (by assumption); omega); have hx12 : ∀ h : 0 < x0_2.size, ((x0_2[0]'h).toNat : Int) = bt x0_2 0 := bt_at x0_2 0; clear p12; have qi12 : (0 < (x0_2.size : Int)) = True := eq_true (of_decide_eq_true (by assumption)); replace q12 := eq_true q12; go_upto_if 24 with (fail)
        go_cut [8] (fun v8 wc => ∃ (kq : Nat) (x8_12 : Int), v8 = .int .i64 x8_12 ∧ Aside0 (lz_Unpack.j2 kq x0_2 a1 x6_2 (wrap64 (bt x0_2 0)) x8_12 = some (r1, r2)) ∧ Aside0 (kq ≤ k2) ∧ Aside0 (Kd.R (Kd.int .u8) 5 wc w.heap.size (fun _ => True) u6 x6_2) ∧ Aside0 (Below w.heap.size w wc))
        case first =>
         have H := HC13.out; clear HC13; by_cases c14 : (wrap64 (bt x0_2 0)) > 127
         ·rw [if_pos c14] at H
          have c14b0 : decide (127 < (wrap64 (bt x0_2 0))) = true := decide_eq_true c14; clear c14; (first | rw [c14b0] | (simp only [i64_w, i32_w]; rw [c14b0]) | skip)
          have H' := am H; clear H; go_wp2
          go_meet; case rel => exact ⟨_, (wrap64 ((wrap64 ((wrap64 (bt x0_2 0)) - 128)) + 3)), (by first | rfl | (simp; done) | (simp [*]; done)), H', ⟨by have := HJ2.out; have := HK2.out; first | omega | exact Nat.le_refl _⟩, ⟨rz HO_6.out⟩, ⟨bz⟩⟩
         ·rw [if_neg c14] at H
          have c14b0 : decide (127 < (wrap64 (bt x0_2 0))) = false := decide_eq_false c14; clear c14; (first | rw [c14b0] | (simp only [i64_w, i32_w]; rw [c14b0]) | skip)
          have H' := am H; clear H; go_wp2
          go_meet; case rel => exact ⟨_, (wrap64 ((wrap64 (bt x0_2 0)) + 1)), (by first | rfl | (simp; done) | (simp [*]; done)), H', ⟨by have := HJ2.out; have := HK2.out; first | omega | exact Nat.le_refl _⟩, ⟨rz HO_6.out⟩, ⟨bz⟩⟩
        case rest =>
         clear HC13; (try clear c1); (try clear p1); (try clear q1); (try clear hx1); (try clear qi1); (try clear p2); (try clear c4); (try clear c4b0); (try clear c5); (try clear c6); (try clear c6b0); (try clear c6b1); (try clear p6); (try clear c7); (try clear c7b0); (try clear c7b1); (try clear hcv9); (try clear c11); (try clear c11b0); (try clear c11b1); (try clear p12); (try clear q12); (try clear hx12); (try clear qi12); (try clear c14); (try clear c14b0); (try clear p12); (try clear p2); (try clear q12); obtain ⟨kq, x8_12, rfl, HA, HJ12, HO_6, HB⟩ := hcut; cases kq with
         | zero => exact absurd HA.out (by simp [lz_Unpack.j2])
         | succ kj12 =>
          have H := HA.out; clear HA; simp only [lz_Unpack.j2] at H
          have HC15 := am H; clear H; go_upto_region 9 with (fail)
          go_cut [38] (fun v38 wc => ∃ (kq : Nat) (x38_14 : Bool), v38 = .bool x38_14 ∧ Aside0 (lz_Unpack.j3 kq x0_2 a1 x6_2 (wrap64 (bt x0_2 0)) x8_12 x38_14 = some (r1, r2)) ∧ Aside0 (kq ≤ kj12) ∧ Aside0 (Kd.R (Kd.int .u8) 5 wc w.heap.size (fun _ => True) u6 x6_2) ∧ Aside0 (Below w.heap.size w wc))
          case first =>
           have H := HC15.out; clear HC15; by_cases c16 : x8_12 > (wrap64 (a1 - (x6_2.length : Int)))
           ·rw [if_pos c16] at H
            have c16b0 : decide ((wrap64 (a1 - (x6_2.length : Int))) < x8_12) = true := decide_eq_true c16; clear c16; (first | rw [c16b0] | (simp only [i64_w, i32_w]; rw [c16b0]) | skip)
            have H' := am H; clear H; obtain ⟨Ao17, co17, eo17⟩ := Kd.R_slice HO_6.out; subst eo17; go_wp2
            go_meet; case rel => exact ⟨_, (true), (by first | rfl | (simp; done) | (simp [*]; done)), H', ⟨by have := HJ2.out; have := HK2.out; have := HJ12.out; first | omega | exact Nat.le_refl _⟩, ⟨rz HO_6.out⟩, ⟨bz⟩⟩
           ·rw [if_neg c16] at H
            have c16b0 : decide ((wrap64 (a1 - (x6_2.length : Int))) < x8_12) = false := decide_eq_false c16; clear c16; (first | rw [c16b0] | (simp only [i64_w, i32_w]; rw [c16b0]) | skip)
            have H' := am H; clear H; obtain ⟨Ao18, co18, eo18⟩ := Kd.R_slice HO_6.out; subst eo18; go_wp2
            go_meet; case rel => exact ⟨_, (decide ((x0_2.size : Int) < 2)), (by first | rfl | (simp; done) | (simp [*]; done)), H', ⟨by have := HJ2.out; have := HK2.out; have := HJ12.out; first | omega | exact Nat.le_refl _⟩, ⟨rz HO_6.out⟩, ⟨bz⟩⟩
          case rest =>
           clear HC15; (try clear c1); (try clear p1); (try clear q1); (try clear hx1); (try clear qi1); (try clear p2); (try clear c4); (try clear c4b0); (try clear c5); (try clear c6); (try clear c6b0); (try clear c6b1); (try clear p6); (try clear c7); (try clear c7b0); (try clear c7b1); (try clear hcv9); (try clear c11); (try clear c11b0); (try clear c11b1); (try clear p12); (try clear q12); (try clear hx12); (try clear qi12); (try clear c14); (try clear c14b0); (try clear c16); (try clear c16b0); (try clear p1); (try clear p12); (try clear p2); (try clear p6); (try clear q1); (try clear q12); obtain ⟨kq, x38_14, rfl, HA, HJ14, HO_6, HB⟩ := hcut; cases kq with
           | zero => exact absurd HA.out (by simp [lz_Unpack.j3])
           | succ kj14 =>
            have H := HA.out; clear HA; simp only [lz_Unpack.j3] at H
            by_cases c19 : x38_14 = true
            ·subst c19
             have H1 : (some ((⟨#[]⟩ : ByteArray), 5)) = some (r1, r2) := by rw [if_pos rfl] at H; exact H
             clear H; have H := H1; clear H1; simp only [Option.some.injEq, Prod.mk.injEq] at H
             obtain ⟨rfl, rfl⟩ := H; go_wp2
             go_ret2; exact ⟨ez, bz⟩
            ·replace c19 := Bool.eq_false_iff.mpr c19
             subst c19; have H1 : (if (wrap64 (bt x0_2 0)) ≤ 127 then (if (x0_2.size : Int) ≤ x8_12 then (some ((⟨#[]⟩ : ByteArray), 5)) else (if 1 ≤ (wrap64 (1 + x8_12)) then (if (wrap64 (1 + x8_12)) ≤ (x0_2.size : Int) then (if x6_2.length + (x0_2.extract 1 ((wrap64 (1 + x8_12)) : Int).toNat).size < 140737488355328 then (if 0 ≤ (wrap64 (1 + x8_12)) then (lz_Unpack.l0 kj14 (x0_2.extract ((wrap64 (1 + x8_12)) : Int).toNat x0_2.size) a1 (x6_2 ++ bytesOf (x0_2.extract 1 ((wrap64 (1 + x8_12)) : Int).toNat))) else (none)) else (none)) else (none)) else (none))) else (if 1 < (x0_2.size : Int) then (if (wrap64 (bt x0_2 1)) = 0 then (lz_Unpack.j4 kj14 x0_2 a1 x6_2 x8_12 (wrap64 (bt x0_2 1)) true) else (lz_Unpack.j4 kj14 x0_2 a1 x6_2 x8_12 (wrap64 (bt x0_2 1)) (decide ((wrap64 (bt x0_2 1)) > (x6_2.length : Int))))) else (none))) = some (r1, r2) := by rw [if_neg (show ¬ (false = true) by decide)] at H; exact H
             clear H; have H := H1; clear H1; by_cases c20 : (wrap64 (bt x0_2 0)) ≤ 127
             ·rw [if_pos c20] at H
              have c20b0 : decide ((wrap64 (bt x0_2 0)) ≤ 127) = true := decide_eq_true c20; clear c20; by_cases c21 : (x0_2.size : Int) ≤ x8_12
              ·rw [if_pos c21] at H
               have c21b0 : decide ((x0_2.size : Int) ≤ x8_12) = true := decide_eq_true c21; clear c21; simp only [Option.some.injEq, Prod.mk.injEq] at H
               obtain ⟨rfl, rfl⟩ := H; go_wp2
               go_ret2; exact ⟨ez, bz⟩
              ·rw [if_neg c21] at H
               have c21b0 : decide ((x0_2.size : Int) ≤ x8_12) = false := decide_eq_false c21; clear c21; by_cases c22 : 1 ≤ (wrap64 (1 + x8_12))
               ·rw [if_pos c22] at H
                have c22b0 := eq_true c22; have c22b1 : decide (1 ≤ (wrap64 (1 + x8_12))) = true := decide_eq_true c22; by_cases c23 : (wrap64 (1 + x8_12)) ≤ (x0_2.size : Int)
                ·rw [if_pos c23] at H
                 have c23b0 := eq_true c23; have c23b1 : decide ((wrap64 (1 + x8_12)) ≤ (x0_2.size : Int)) = true := decide_eq_true c23; by_cases c24 : x6_2.length + (x0_2.extract 1 ((wrap64 (1 + x8_12)) : Int).toNat).size < 140737488355328
                 ·rw [if_pos c24] at H
                  have LMc24 := am c24; clear c24; obtain ⟨y253, hy253⟩ : ∃ y_ : List Int, y_ = (x6_2 ++ bytesOf (x0_2.extract 1 ((wrap64 (1 + x8_12)) : Int).toNat)) := ⟨_, rfl⟩; try rw [← hy253] at H
                  have Ny253 := am hy253; clear hy253; obtain ⟨ji25, hji25⟩ : ∃ j_ : Int, (wrap64 (1 + x8_12)) = j_ := ⟨_, rfl⟩; replace H : (if 0 ≤ (ji25) then (lz_Unpack.l0 kj14 (x0_2.extract ((ji25) : Int).toNat x0_2.size) a1 y253) else (none)) = some (r1, r2) := by first | (rw [hji25] at H; exact H) | (simp only [hji25] at H ⊢; exact H)
                  (try rw [hji25] at c22b0)
                  (try rw [hji25] at c22b1)
                  (try rw [hji25] at c22)
                  (try rw [hji25] at c23b0)
                  (try rw [hji25] at c23b1)
                  (try rw [hji25] at c23)
                  (try rw [hji25] at Ny253)
                  (try rw [hji25] at LMc24)
                  have hji25w : (IntKind.i64.wrap (1 + x8_12)) = ji25 := (i64_w _).trans hji25; by_cases c26 : 0 ≤ (ji25)
                  ·rw [if_pos c26] at H
                   have c26b0 := eq_true c26; have c26b1 : decide (0 ≤ (ji25)) = true := decide_eq_true c26; clear c26; have c27b0 := eq_true (of_decide_eq_true (by assumption) : (ji25) ≤ (x0_2.size : Int)); have H' := am H; clear H; go_wp2_with (first | (at_builtin; refine Kd.R_append_str (w0 := w) w.heap.size rfl (.tmp 45) _ 27 9 5 rfl Tryd.underlying27 Tryd.underlying9 info5 u6 x6_2 (x0_2.extract 1 ((ji25) : Int).toNat) (fun _ => True) rfl rfl ?aF ?aO ?aB ?aS ?aL ?_; (case aB => exact bz); (case aF => exact (fun _ _ => trivial)); (case aO => exact (rz HO_6.out)); (case aS => exact siz); (case aL => have := LMc24.out; omega); intro v254 w28 ho hb hg hat; rw [← Ny253.out] at ho; have n0_ := am (hb); have n1_ := am (ho); clear HB; clear HO_6; have HB := n0_; have HO255 := n1_; clear n0_ n1_; clear ho hb hg hat))
                   go_roundg kj14
                   case measure => have := HJ2.out; have := HK2.out; have := HJ12.out; have := HJ14.out; omega
                   case rel => exact ⟨(x0_2.extract ((ji25) : Int).toNat x0_2.size), (y253), (by first | rfl | (simp; done) | (simp only [← hji25] <;> (first | rfl | simp)) | (simp [*]; done)), H', ⟨by have := HJ2.out; have := HK2.out; have := HJ12.out; have := HJ14.out; omega⟩, ⟨rz HO255.out⟩, ⟨bz⟩⟩
                  ·rw [if_neg c26] at H
                   exact absurd H (by simp)
                 ·rw [if_neg c24] at H
                  exact absurd H (by simp)
                ·rw [if_neg c23] at H
                 exact absurd H (by simp)
               ·rw [if_neg c22] at H
                exact absurd H (by simp)
             ·rw [if_neg c20] at H
              have c20b0 : decide ((wrap64 (bt x0_2 0)) ≤ 127) = false := decide_eq_false c20; clear c20; by_cases c29 : 1 < (x0_2.size : Int)
              ·rw [if_pos c29] at H
               have c29b0 : decide (1 < (x0_2.size : Int)) = true := decide_eq_true c29; have c29b1 : decide (1 < x0_2.size) = true := decide_eq_true (by omega); clear c29; have HC31 := am H; clear H; have p30 : 0 ≤ (1 : Int) := (by omega); have q30 : 1 < x0_2.size := (by have : (1 : Int) < (x0_2.size : Int) := of_decide_eq_true (by assumption); omega); have hx30 : ∀ h : 1 < x0_2.size, ((x0_2[1]'h).toNat : Int) = bt x0_2 1 := bt_at x0_2 1; clear p30; have qi30 : (1 < (x0_2.size : Int)) = True := eq_true (of_decide_eq_true (by assumption)); replace q30 := eq_true q30; go_upto_region 17 with (fail)
               go_cut [65] (fun v65 wc => ∃ (kq : Nat) (x65_30 : Bool), v65 = .bool x65_30 ∧ Aside0 (lz_Unpack.j4 kq x0_2 a1 x6_2 x8_12 (wrap64 (bt x0_2 1)) x65_30 = some (r1, r2)) ∧ Aside0 (kq ≤ kj14) ∧ Aside0 (Kd.R (Kd.int .u8) 5 wc w.heap.size (fun _ => True) u6 x6_2) ∧ Aside0 (Below w.heap.size w wc))
               case first =>
                have H := HC31.out; clear HC31; by_cases c32 : (wrap64 (bt x0_2 1)) = 0
                ·rw [if_pos c32] at H
                 have c32b0 : ((wrap64 (bt x0_2 1)) == 0) = true := beq_iff_eq.mpr c32; have c32b1 : ((wrap64 (bt x0_2 1)) != 0) = false := bne_eq_false_iff_eq.mpr c32; clear c32; (first | rw [c32b0] | (simp only [i64_w, i32_w]; rw [c32b0]) | skip)
                 have H' := am H; clear H; go_wp2
                 go_meet; case rel => exact ⟨_, (true), (by first | rfl | (simp; done) | (simp [*]; done)), H', ⟨by have := HJ2.out; have := HK2.out; have := HJ12.out; have := HJ14.out; first | omega | exact Nat.le_refl _⟩, ⟨rz HO_6.out⟩, ⟨bz⟩⟩
                ·rw [if_neg c32] at H
                 have c32b0 : ((wrap64 (bt x0_2 1)) == 0) = false := beq_eq_false_iff_ne.mpr c32; have c32b1 : ((wrap64 (bt x0_2 1)) != 0) = true := bne_iff_ne.mpr c32; (first | rw [c32b0] | (simp only [i64_w, i32_w]; rw [c32b0]) | skip)
                 have H' := am H; clear H; obtain ⟨Ao33, co33, eo33⟩ := Kd.R_slice HO_6.out; subst eo33; go_wp2
                 go_meet; case rel => exact ⟨_, (decide ((wrap64 (bt x0_2 1)) > (x6_2.length : Int))), (by first | rfl | (simp; done) | (simp [*]; done)), H', ⟨by have := HJ2.out; have := HK2.out; have := HJ12.out; have := HJ14.out; first | omega | exact Nat.le_refl _⟩, ⟨rz HO_6.out⟩, ⟨bz⟩⟩
               case rest =>
                clear HC31; (try clear c1); (try clear p1); (try clear q1); (try clear hx1); (try clear qi1); (try clear c2); (try clear p2); (try clear c3); (try clear p3); (try clear q3); (try clear hx3); (try clear qi3); (try clear c4); (try clear c4b0); (try clear c5); (try clear c6); (try clear c6b0); (try clear c6b1); (try clear p6); (try clear c7); (try clear c7b0); (try clear c7b1); (try clear hcv9); (try clear c11); (try clear c11b0); (try clear c11b1); (try clear p12); (try clear q12); (try clear hx12); (try clear qi12); (try clear c14); (try clear c14b0); (try clear c16); (try clear c16b0); (try clear c19); (try clear c20); (try clear c20b0); (try clear c21); (try clear c21b0); (try clear c22); (try clear c22b0); (try clear c22b1); (try clear c23); (try clear c23b0); (try clear c23b1); (try clear c24); (try clear c26); (try clear c26b0); (try clear c26b1); (try clear c27); (try clear c27b0); (try clear c29); (try clear c29b0); (try clear c29b1); (try clear p30); (try clear q30); (try clear hx30); (try clear qi30); (try clear c32); (try clear c32b0); (try clear c32b1); (try clear p1); (try clear p12); (try clear p2); (try clear p30); (try clear p6); (try clear q1); (try clear q12); (try clear q30); obtain ⟨kq, x65_30, rfl, HA, HJ30, HO_6, HB⟩ := hcut; cases kq with
                | zero => exact absurd HA.out (by simp [lz_Unpack.j4])
                | succ kj30 =>
                 have H := HA.out; clear HA; simp only [lz_Unpack.j4] at H
                 by_cases c34 : x65_30 = true
                 ·subst c34
                  have H1 : (some ((⟨#[]⟩ : ByteArray), 5)) = some (r1, r2) := by rw [if_pos rfl] at H; exact H
                  clear H; have H := H1; clear H1; simp only [Option.some.injEq, Prod.mk.injEq] at H
                  obtain ⟨rfl, rfl⟩ := H; go_wp2
                  go_ret2; exact ⟨ez, bz⟩
                 ·replace c34 := Bool.eq_false_iff.mpr c34
                  subst c34; have H1 : (lz_Unpack.l1 kj30 x0_2 a1 x6_2 (wrap64 (bt x0_2 1)) x8_12 0) = some (r1, r2) := by rw [if_neg (show ¬ (false = true) by decide)] at H; exact H
                  clear H; have H := H1; clear H1; have H' := am H; clear H; go_wp2
                  go_loopg [6, 67] kj30 (fun kq v6 v67 w' => ∃ (x6_6 : List Int) (x67_6 : Int), v67 = .int .i64 x67_6 ∧ Aside0 (lz_Unpack.l1 kq x0_2 a1 x6_6 (wrap64 (bt x0_2 1)) x8_12 x67_6 = some (r1, r2)) ∧ Aside0 (kq ≤ kj30) ∧ Aside0 (Kd.R (Kd.int .u8) 5 w' w.heap.size (fun _ => True) v6 x6_6) ∧ Aside0 (Below w.heap.size w w'))
                  case atStart => exact ⟨(x6_2), (0), (by first | rfl | (simp; done) | (simp [*]; done)), H', ⟨Nat.le_refl _⟩, ⟨rz HO_6.out⟩, ⟨bz⟩⟩
                  case round =>
                   clear H'; (try clear c1); (try clear p1); (try clear q1); (try clear hx1); (try clear qi1); (try clear c2); (try clear p2); (try clear c3); (try clear p3); (try clear q3); (try clear hx3); (try clear qi3); (try clear c4); (try clear c4b0); (try clear c5); (try clear c6); (try clear c6b0); (try clear c6b1); (try clear p6); (try clear c7); (try clear c7b0); (try clear c7b1); (try clear hcv9); (try clear c11); (try clear c11b0); (try clear c11b1); (try clear p12); (try clear q12); (try clear hx12); (try clear qi12); (try clear c14); (try clear c14b0); (try clear c16); (try clear c16b0); (try clear c19); (try clear c20); (try clear c20b0); (try clear c21); (try clear c21b0); (try clear c22); (try clear c22b0); (try clear c22b1); (try clear c23); (try clear c23b0); (try clear c23b1); (try clear c24); (try clear c26); (try clear c26b0); (try clear c26b1); (try clear c27); (try clear c27b0); (try clear c29); (try clear c29b0); (try clear c29b1); (try clear p30); (try clear q30); (try clear hx30); (try clear qi30); (try clear c32); (try clear c32b0); (try clear c32b1); (try clear c34); (try clear p1); (try clear p12); (try clear p2); (try clear p3); (try clear p30); (try clear p6); (try clear q1); (try clear q12); (try clear q3); (try clear q30); obtain ⟨x6_6, x67_6, rfl, HA, HK6, HO_6, HB⟩ := hrel; cases gk with
                   | zero => exact absurd HA.out (by simp [lz_Unpack.l1])
                   | succ k6 =>
                    have H := HA.out; clear HA; simp only [lz_Unpack.l1] at H
                    by_cases c35 : x67_6 < x8_12
                    ·rw [if_pos c35] at H
                     have c35b0 : decide (x67_6 < x8_12) = true := decide_eq_true c35; clear c35; obtain ⟨ji36, hji36⟩ : ∃ j_ : Int, (wrap64 ((x6_6.length : Int) - (wrap64 (bt x0_2 1)))) = j_ := ⟨_, rfl⟩; replace H : (if 0 ≤ (ji36) then (if (ji36) < (x6_6.length : Int) then (if x6_6.length < 140737488355328 then (lz_Unpack.l1 k6 x0_2 a1 (x6_6 ++ [rd x6_6 (ji36)]) (wrap64 (bt x0_2 1)) x8_12 (wrap64 (x67_6 + 1))) else (none)) else (none)) else (none)) = some (r1, r2) := by first | (rw [hji36] at H; exact H) | (simp only [hji36] at H ⊢; exact H)
                     have hji36w : (IntKind.i64.wrap ((x6_6.length : Int) - (wrap64 (bt x0_2 1)))) = ji36 := (i64_w _).trans hji36; by_cases c37 : 0 ≤ (ji36)
                     ·rw [if_pos c37] at H
                      have c37b0 : decide (0 ≤ (ji36)) = true := decide_eq_true c37; clear c37; by_cases c38 : (ji36) < (x6_6.length : Int)
                      ·rw [if_pos c38] at H
                       have c38b0 : decide ((ji36) < (x6_6.length : Int)) = true := decide_eq_true c38; clear c38; by_cases c39 : x6_6.length < 140737488355328
                       ·rw [if_pos c39] at H
                        have LMc39 := am c39; clear c39; obtain ⟨y257, hy257⟩ : ∃ y_ : List Int, y_ = (x6_6 ++ [rd x6_6 (ji36)]) := ⟨_, rfl⟩; try rw [← hy257] at H
                        have Ny257 := am hy257; clear hy257; have H' := am H; clear H; obtain ⟨Ao40, co40, eo40⟩ := Kd.R_slice HO_6.out; subst eo40; have p256 : 0 ≤ ((ji36) : Int) := of_decide_eq_true (by assumption); have q256 : (ji36) < (x6_6.length : Int) := of_decide_eq_true (by assumption); obtain ⟨ad256, e256, hx256_0⟩ := Kd.at_int (Kd.R_reads' HO_6.out).2.2 (ji36) p256 q256; cases e256; replace p256 := eq_true p256; replace q256 := eq_true q256; go_wp2_with (first | ((with_reducible refine gate_builtin (b := .append) (xs := #[.tmp 69, .tmp 77]) rfl ?_); (try (refine gate_guard (by rfl) ?_; dsimp only)); at_builtin; refine Kd.R_append (Kd.int .u8) (w0 := w) w.heap.size rfl (.tmp 69) (.tmp 77) 27 5 (.int .u8 0) 1 rfl Tryd.underlying27 info5 rfl (by decide) (by omega) (.slice (some ad256) x6_6.length co40) x6_6 (rd x6_6 (ji36)) [.int .u8 (rd x6_6 (ji36))] (fun _ => True) (fun _ => False) rfl rfl ?aP (fun _ hk => hk.elim) ?aF ?aO ?aB ?aS ?aL ?_; (case aP => exact rfl); (case aB => exact bz); (case aF => exact (fun _ _ => trivial)); (case aO => exact (rz HO_6.out)); (case aS => exact siz); (case aL => have := LMc39.out; omega); intro v258 w41 ho hb hg hat; rw [← Ny257.out] at ho; have n0_ := am (hb); have n1_ := am (ho); clear HB; clear HO_6; have HB := n0_; have HO259 := n1_; clear n0_ n1_; clear ho hb hg hat))
                        go_roundg k6
                        case measure => have := HJ2.out; have := HK2.out; have := HJ12.out; have := HJ14.out; have := HJ30.out; have := HK6.out; omega
                        case rel => exact ⟨(y257), (wrap64 (x67_6 + 1)), (by first | rfl | (simp; done) | (simp [*]; done)), H', ⟨by have := HJ2.out; have := HK2.out; have := HJ12.out; have := HJ14.out; have := HJ30.out; have := HK6.out; omega⟩, ⟨rz HO259.out⟩, ⟨bz⟩⟩
                       ·rw [if_neg c39] at H
                        exact absurd H (by simp)
                      ·rw [if_neg c38] at H
                       exact absurd H (by simp)
                     ·rw [if_neg c37] at H
                      exact absurd H (by simp)
                    ·rw [if_neg c35] at H
                     have c35b0 : decide (x67_6 < x8_12) = false := decide_eq_false c35; clear c35; by_cases c42 : 2 ≤ (x0_2.size : Int)
                     ·rw [if_pos c42] at H
                      have c42b0 := eq_true c42; have c42b1 : decide (2 ≤ (x0_2.size : Int)) = true := decide_eq_true c42; clear c42; have H' := am H; clear H; go_wp2
                      go_roundg k6
                      case measure => have := HJ2.out; have := HK2.out; have := HJ12.out; have := HJ14.out; have := HJ30.out; have := HK6.out; omega
                      case rel => exact ⟨(x0_2.extract 2 x0_2.size), (x6_6), (by first | rfl | (simp; done) | (simp [*]; done)), H', ⟨by have := HJ2.out; have := HK2.out; have := HJ12.out; have := HJ14.out; have := HJ30.out; have := HK6.out; omega⟩, ⟨rz HO_6.out⟩, ⟨bz⟩⟩
                     ·rw [if_neg c42] at H
                      exact absurd H (by simp)
              ·rw [if_neg c29] at H
               exact absurd H (by simp)
       ·rw [if_neg c11] at H
        exact absurd H (by simp)

end Go.Proofs.YthbdbgjggoobnaaDoor.P
