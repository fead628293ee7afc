/- Laid by a program of this session (wip/pr), after the printer of the kit: the functions that a statement reaches as plain Lean functions, and that the calls of the machine come to them. No condition. -/
import Derived.Test.YthbdbgjggoobnaaDoorPx0
import Derived.Test.YthbdbgjggoobnaaDoorPx8
namespace Go.Proofs.YthbdbgjggoobnaaDoor.P
open Go.RowKit Go.Proofs.YthbdbgjggoobnaaDoorX Go.Proofs.YthbdbgjggoobnaaDoorW.PrintWords Go.Proofs.YthbdbgjggoobnaaDoorW.PrintLast Go.Proofs.YthbdbgjggoobnaaDoorW.PrintMore
attribute [local go_sem] max2_int min2_int max_two min_two
set_option linter.unusedVariables false
set_option linter.unusedSimpArgs false

/-! ### lz_Match: function 51 -/
mutual
def lz_Match.j0 : Nat → ByteArray → Int → Bool → Option (Int × Int)
 | 0, _, _, _ => none
 | k + 1, x0, x1, x17 => if x17 = true then (some (0, 0)) else (lz_Match.l0 k x0 x1 0 0 1)
def lz_Match.l0 : Nat → ByteArray → Int → Int → Int → Int → Option (Int × Int)
 | 0, _, _, _, _, _ => none
 | k + 1, x0, x1, x6, x7, x8 => if x8 ≤ (mn x1 255) then ((lz_alike.f k x0 x1 x8).bind fun t157 => (if t157 > x6 then (lz_Match.l0 k x0 x1 t157 x8 (wrap64 (x8 + 1))) else (lz_Match.l0 k x0 x1 x6 x7 (wrap64 (x8 + 1))))) else (if x6 < 3 then (some (0, 0)) else (some (x6, x7)))
end
def lz_Match.f (k : Nat) (a0 : ByteArray) (a1 : Int) : Option (Int × Int) := if a1 < 0 then (lz_Match.j0 k a0 a1 true) else (lz_Match.j0 k a0 a1 (decide (a1 ≥ (a0.size : Int))))
theorem lz_Match.mono_l : ∀ k, (∀ y0 y1 y2, LeO (lz_Match.j0 k y0 y1 y2) (lz_Match.j0 (k + 1) y0 y1 y2)) ∧ (∀ y0 y1 y2 y3 y4, LeO (lz_Match.l0 k y0 y1 y2 y3 y4) (lz_Match.l0 (k + 1) y0 y1 y2 y3 y4))
 | 0 => ⟨fun _ _ _ r h => by simp [lz_Match.j0] at h, fun _ _ _ _ _ r h => by simp [lz_Match.l0] at h⟩
 | k + 1 => by
  obtain ⟨ih0, ih1⟩ := lz_Match.mono_l k; refine ⟨?_, ?_⟩
  ·intro y0 y1 y2
   unfold lz_Match.j0
   repeat' with_reducible first | exact ih0 _ _ _ | exact ih1 _ _ _ _ _ | exact lz_alike.mono _ _ _ _ | exact LeO.refl _ | exact LeO.none _ | refine LeO.ite ?_ ?_ | refine LeO.bind ?_ (fun _ => ?_)
  ·intro y0 y1 y2 y3 y4
   unfold lz_Match.l0
   repeat' with_reducible first | exact ih0 _ _ _ | exact ih1 _ _ _ _ _ | exact lz_alike.mono _ _ _ _ | exact LeO.refl _ | exact LeO.none _ | refine LeO.ite ?_ ?_ | refine LeO.bind ?_ (fun _ => ?_)
theorem lz_Match.mono : ∀ a0 a1 k, LeO (lz_Match.f k a0 a1) (lz_Match.f (k + 1) a0 a1) := by
 intro a0 a1 k; obtain ⟨ih0, ih1⟩ := lz_Match.mono_l k; unfold lz_Match.f
 repeat' with_reducible first | exact ih0 _ _ _ | exact ih1 _ _ _ _ _ | exact lz_alike.mono _ _ _ _ | exact LeO.refl _ | exact LeO.none _ | refine LeO.ite ?_ ?_ | refine LeO.bind ?_ (fun _ => ?_)
set_option maxHeartbeats 8000000 in
set_option maxRecDepth 100000 in
theorem lz_Match.calls (k : Nat) (a0 : ByteArray) (a1 : Int) (r1 : Int) (r2 : Int) (w : World) (h : lz_Match.f k a0 a1 = some (r1, r2)) :
  Calls Tryd.prog 51 #[.string a0, .int .i64 a1] w fun e w' => e = .returned (.tuple #[.int .i64 r1, .int .i64 r2]) ∧ Below w.heap.size w w' := by
 have HB := am (Below.refl w.heap.size w); have H : (if a1 < 0 then (lz_Match.j0 k a0 a1 true) else (lz_Match.j0 k a0 a1 (decide (a1 ≥ (a0.size : Int))))) = some (r1, r2) := h; clear h; have HC3 := am H; clear H; go_enter Tryd.func51, Tryd.ntmps51; go_upto_region 1 with (fail)
 go_cut [17] (fun v17 wc => ∃ (kq : Nat) (x17_2 : Bool), v17 = .bool x17_2 ∧ Aside0 (lz_Match.j0 kq a0 a1 x17_2 = some (r1, r2)) ∧ Aside0 (kq ≤ k) ∧ Aside0 (Below w.heap.size w wc))
 case first =>
  have H := HC3.out; clear HC3; by_cases c4 : a1 < 0
  ·rw [if_pos c4] at H
   have c4b0 : decide (a1 < 0) = true := decide_eq_true c4; clear c4; (first | rw [c4b0] | (simp only [i64_w, i32_w]; rw [c4b0]) | skip)
   have H' := am H; clear H; go_wp2
   go_meet; case rel => exact ⟨_, (true), (by first | rfl | (simp; done) | (simp [*]; done)), H', ⟨by first | omega | exact Nat.le_refl _⟩, ⟨bz⟩⟩
  ·rw [if_neg c4] at H
   have c4b0 : decide (a1 < 0) = false := decide_eq_false c4; clear c4; (first | rw [c4b0] | (simp only [i64_w, i32_w]; rw [c4b0]) | skip)
   have H' := am H; clear H; go_wp2
   go_meet; case rel => exact ⟨_, (decide (a1 ≥ (a0.size : Int))), (by first | rfl | (simp; done) | (simp [*]; done)), H', ⟨by first | omega | exact Nat.le_refl _⟩, ⟨bz⟩⟩
 case rest =>
  clear HC3; (try clear p2); (try clear c4); (try clear c4b0); obtain ⟨kq, x17_2, rfl, HA, HJ2, HB⟩ := hcut; cases kq with
  | zero => exact absurd HA.out (by simp [lz_Match.j0])
  | succ kj2 =>
   have H := HA.out; clear HA; simp only [lz_Match.j0] at H
   by_cases c5 : x17_2 = true
   ·subst c5
    have H1 : (some (0, 0)) = some (r1, r2) := by rw [if_pos rfl] at H; exact H
    clear H; have H := H1; clear H1; simp only [Option.some.injEq, Prod.mk.injEq] at H
    obtain ⟨rfl, rfl⟩ := H; go_wp2
    go_ret2; exact ⟨ez, bz⟩
   ·replace c5 := Bool.eq_false_iff.mpr c5
    subst c5; have H1 : (lz_Match.l0 kj2 a0 a1 0 0 1) = some (r1, r2) := by rw [if_neg (show ¬ (false = true) by decide)] at H; exact H
    clear H; have H := H1; clear H1; have H' := am H; clear H; go_wp2
    go_loopg [6, 7, 8] kj2 (fun kq v6 v7 v8 w' => ∃ (x6_2 : Int) (x7_2 : Int) (x8_2 : Int), v6 = .int .i64 x6_2 ∧ v7 = .int .i64 x7_2 ∧ v8 = .int .i64 x8_2 ∧ Aside0 (lz_Match.l0 kq a0 a1 x6_2 x7_2 x8_2 = some (r1, r2)) ∧ Aside0 (kq ≤ kj2) ∧ Aside0 (Below w.heap.size w w'))
    case atStart => exact ⟨(0), (0), (1), (by first | rfl | (simp; done) | (simp [*]; done)), (by first | rfl | (simp; done) | (simp [*]; done)), (by first | rfl | (simp; done) | (simp [*]; done)), H', ⟨Nat.le_refl _⟩, ⟨bz⟩⟩
    case round =>
     clear H'; (try clear p2); (try clear c4); (try clear c4b0); (try clear c5); (try clear p2); obtain ⟨x6_2, x7_2, x8_2, rfl, rfl, rfl, HA, HK2, HB⟩ := hrel; cases gk with
     | zero => exact absurd HA.out (by simp [lz_Match.l0])
     | succ k2 =>
      have H := HA.out; clear HA; simp only [lz_Match.l0] at H
      obtain ⟨ji6, hji6⟩ : ∃ j_ : Int, (mn a1 255) = j_ := ⟨_, rfl⟩; replace H : (if x8_2 ≤ (ji6) then ((lz_alike.f k2 a0 a1 x8_2).bind fun t157 => (if t157 > x6_2 then (lz_Match.l0 k2 a0 a1 t157 x8_2 (wrap64 (x8_2 + 1))) else (lz_Match.l0 k2 a0 a1 x6_2 x7_2 (wrap64 (x8_2 + 1))))) else (if x6_2 < 3 then (some (0, 0)) else (some (x6_2, x7_2)))) = some (r1, r2) := by first | (rw [hji6] at H; exact H) | (simp only [hji6] at H ⊢; exact H)
      have hji6_ : (if 255 < a1 then 255 else a1) = ji6 := hji6; by_cases c7 : x8_2 ≤ (ji6)
      ·rw [if_pos c7] at H
       have c7b0 : decide (x8_2 ≤ (ji6)) = true := decide_eq_true c7; clear c7; refine oR H ?_; clear H; intro t157 A8 H; by_cases c9 : t157 > x6_2
       ·rw [if_pos c9] at H
        have c9b0 : decide (x6_2 < t157) = true := decide_eq_true c9; clear c9; have H' := am H; clear H; go_wp2_with (first | ((with_reducible refine gate_callee (f := 67) rfl ?_); refine gL (some 27) Tryd.func67 #[.string a0, .int .i64 a1, .int .i64 x8_2] ?_; (with_reducible refine (lz_alike.calls k2 a0 a1 x8_2 t157 _ A8.out).mono ?_); rintro e w' ⟨rfl, ⟨nd, rfl⟩⟩; refine ⟨_, rfl, ?_⟩))
        go_roundg k2
        case measure => have := HJ2.out; have := HK2.out; omega
        case rel => exact ⟨(t157), (x8_2), (wrap64 (x8_2 + 1)), (by first | rfl | (simp; done) | (simp [*]; done)), (by first | rfl | (simp; done) | (simp [*]; done)), (by first | rfl | (simp; done) | (simp [*]; done)), H', ⟨by have := HJ2.out; have := HK2.out; omega⟩, ⟨bz⟩⟩
       ·rw [if_neg c9] at H
        have c9b0 : decide (x6_2 < t157) = false := decide_eq_false c9; clear c9; have H' := am H; clear H; go_wp2_with (first | ((with_reducible refine gate_callee (f := 67) rfl ?_); refine gL (some 27) Tryd.func67 #[.string a0, .int .i64 a1, .int .i64 x8_2] ?_; (with_reducible refine (lz_alike.calls k2 a0 a1 x8_2 t157 _ A8.out).mono ?_); rintro e w' ⟨rfl, ⟨nd, rfl⟩⟩; refine ⟨_, rfl, ?_⟩))
        go_roundg k2
        case measure => have := HJ2.out; have := HK2.out; omega
        case rel => exact ⟨(x6_2), (x7_2), (wrap64 (x8_2 + 1)), (by first | rfl | (simp; done) | (simp [*]; done)), (by first | rfl | (simp; done) | (simp [*]; done)), (by first | rfl | (simp; done) | (simp [*]; done)), H', ⟨by have := HJ2.out; have := HK2.out; omega⟩, ⟨bz⟩⟩
      ·rw [if_neg c7] at H
       have c7b0 : decide (x8_2 ≤ (ji6)) = false := decide_eq_false c7; clear c7; by_cases c10 : x6_2 < 3
       ·rw [if_pos c10] at H
        have c10b0 : decide (x6_2 < 3) = true := decide_eq_true c10; clear c10; simp only [Option.some.injEq, Prod.mk.injEq] at H
        obtain ⟨rfl, rfl⟩ := H; go_wp2
        go_ret2; exact ⟨by first | rfl | (simp [eN, eS] <;> rfl) | (simp only [← hji6]; first | rfl | (simp [eN, eS] <;> rfl)) | (simp [*, eN, eS] <;> rfl), bz⟩
       ·rw [if_neg c10] at H
        have c10b0 : decide (x6_2 < 3) = false := decide_eq_false c10; clear c10; simp only [Option.some.injEq, Prod.mk.injEq] at H
        obtain ⟨rfl, rfl⟩ := H; go_wp2
        go_ret2; exact ⟨by first | rfl | (simp [eN, eS] <;> rfl) | (simp only [← hji6]; first | rfl | (simp [eN, eS] <;> rfl)) | (simp [*, eN, eS] <;> rfl), bz⟩

/-! ### lz_as: function 52 -/
def lz_as.l0 : Nat → List Int → ByteArray → Option (List Int)
 | 0, _, _ => none
 | k + 1, x0, x1 => if (x1.size : Int) > 0 then (if x0.length < 140737488355328 then ((some (x0 ++ [(wrap64 ((mn (x1.size : Int) 128) - 1)) % 256] : List Int)).bind fun y158 => (if 0 ≤ (mn (x1.size : Int) 128) then (if (mn (x1.size : Int) 128) ≤ (x1.size : Int) then (if y158.length + (x1.extract 0 ((mn (x1.size : Int) 128) : Int).toNat).size < 140737488355328 then (lz_as.l0 k (y158 ++ bytesOf (x1.extract 0 ((mn (x1.size : Int) 128) : Int).toNat)) (x1.extract ((mn (x1.size : Int) 128) : Int).toNat x1.size)) else (none)) else (none)) else (none))) else (none)) else (some x0)
def lz_as.f (k : Nat) (l0 : List Int) (a1 : ByteArray) : Option (List Int) := lz_as.l0 k l0 a1
theorem lz_as.mono_l : ∀ k, (∀ y0 y1, LeO (lz_as.l0 k y0 y1) (lz_as.l0 (k + 1) y0 y1))
 | 0 => fun _ _ r h => by simp [lz_as.l0] at h
 | k + 1 => by
  have ih0 := lz_as.mono_l k
  ·intro y0 y1
   unfold lz_as.l0
   repeat' with_reducible first | exact ih0 _ _ | exact LeO.refl _ | exact LeO.none _ | refine LeO.ite ?_ ?_ | refine LeO.bind ?_ (fun _ => ?_)
theorem lz_as.mono : ∀ a0 a1 k, LeO (lz_as.f k a0 a1) (lz_as.f (k + 1) a0 a1) := by
 intro a0 a1 k; have ih0 := lz_as.mono_l k; unfold lz_as.f
 repeat' with_reducible first | exact ih0 _ _ | exact LeO.refl _ | exact LeO.none _ | refine LeO.ite ?_ ?_ | refine LeO.bind ?_ (fun _ => ?_)
def lz_as.T3 : Bool × List (List Nat × List Nat) := (true, [([], []), ([], []), ([1], [1]), ([2], [2]), ([3], [3]), ([0, 4], [0, 4]), ([], []), ([], []), ([6, 7], [6, 7]), ([5, 8, 5], [5, 8]), ([9, 9, 0, 1, 2, 3, 4, 5, 6, 7, 8, 9], [0, 9])])
def lz_as.B3 : List Nat := [0, 0, 2, 6, 14, 31, 0, 0, 192, 511, 1023]
theorem lz_as.tab3 : rtab .any (opsOf Tryd.f52 3) = lz_as.T3 := by kernel_rfl
theorem lz_as.bits3 : waitsOk lz_as.T3.2 lz_as.B3 = true := by kernel_rfl
set_option maxHeartbeats 8000000 in
set_option maxRecDepth 100000 in
theorem lz_as.calls (k : Nat) (P0_ : Nat → Prop) (u9000_ : Value) (l0 : List Int) (a1 : ByteArray) (r : List Int) (w0 w : World) (hB : Below w0.heap.size w0 w) (ho0 : Kd.R (Kd.int .u8) 5 w w0.heap.size P0_ u9000_ l0) (h : lz_as.f k l0 a1 = some r) :
  Calls Tryd.prog 52 #[u9000_, .string a1] w fun e w' => ∃ v0_ : Value, e = .returned (v0_) ∧ Kd.R (Kd.int .u8) 5 w' w0.heap.size (fun k_ => (P0_ k_ ∨ w.heap.size ≤ k_)) v0_ r ∧ Below w0.heap.size w0 w' ∧ Kept w w' (fun k_ => P0_ k_) := by
 have HO0 := am (show Kd.R (Kd.int .u8) 5 w w0.heap.size (fun k_ => (P0_ k_ ∨ w.heap.size ≤ k_)) u9000_ l0 from Kd.R_mono ho0 (fun k_ hk => (.inl hk))); have HK := am (Kept.refl w (fun k_ => P0_ k_)); have HW0 := am hB.size; have HB := am hB; clear hB; have H : (lz_as.l0 k l0 a1) = some r := h; clear h; have H' := am H; clear H; go_enter Tryd.func52, Tryd.ntmps52; go_wp2
 go_loopg [0, 1] k (fun kq v0 v1 w' => ∃ (x0_1 : List Int) (x1_1 : ByteArray), v1 = .string x1_1 ∧ Aside0 (lz_as.l0 kq x0_1 x1_1 = some r) ∧ Aside0 (kq ≤ k) ∧ Aside0 (Kd.R (Kd.int .u8) 5 w' w0.heap.size (fun k_ => (P0_ k_ ∨ w.heap.size ≤ k_)) v0 x0_1) ∧ Aside0 (Kept w w' (fun k_ => P0_ k_)) ∧ Aside0 (Below w0.heap.size w0 w'))
 case atStart => exact ⟨(l0), (a1), (by first | rfl | (simp; done) | (simp [*]; done)), H', ⟨Nat.le_refl _⟩, ⟨rz HO0.out⟩, ⟨kz⟩, ⟨bz⟩⟩
 case round =>
  clear H'; (try clear p2); obtain ⟨x0_1, x1_1, rfl, HA, HK1, HO_0, HK, HB⟩ := hrel; cases gk with
  | zero => exact absurd HA.out (by simp [lz_as.l0])
  | succ k1 =>
   have H := HA.out; clear HA; simp only [lz_as.l0] at H
   by_cases c3 : (x1_1.size : Int) > 0
   ·rw [if_pos c3] at H
    have c3b0 : decide (0 < (x1_1.size : Int)) = true := decide_eq_true c3; have c3b1 : decide (0 < x1_1.size) = true := decide_eq_true (by omega); clear c3; obtain ⟨ji4, hji4⟩ : ∃ j_ : Int, (mn (x1_1.size : Int) 128) = j_ := ⟨_, rfl⟩; replace H : (if x0_1.length < 140737488355328 then ((some (x0_1 ++ [(wrap64 ((ji4) - 1)) % 256] : List Int)).bind fun y158 => (if 0 ≤ (ji4) then (if (ji4) ≤ (x1_1.size : Int) then (if y158.length + (x1_1.extract 0 ((ji4) : Int).toNat).size < 140737488355328 then (lz_as.l0 k1 (y158 ++ bytesOf (x1_1.extract 0 ((ji4) : Int).toNat)) (x1_1.extract ((ji4) : Int).toNat x1_1.size)) else (none)) else (none)) else (none))) else (none)) = some r := by first | (rw [hji4] at H; exact H) | (simp only [hji4] at H ⊢; exact H)
    (try (have hji4h : ji4 ≤ 128 := by (rw [← hji4]; unfold mn; (repeat' split) <;> omega)))
    (try (have hji4g : ji4 ≤ 64 := by omega))
    (try (have hji4l : 0 ≤ ji4 := by (rw [← hji4]; unfold mn; (repeat' split) <;> omega)))
    (try (have hji4m : 0 ≤ ji4 := by omega))
    have hji4_ : (if 128 < (x1_1.size : Int) then 128 else (x1_1.size : Int)) = ji4 := hji4; by_cases c5 : x0_1.length < 140737488355328
    ·rw [if_pos c5] at H
     have LMc5 := am c5; clear c5; refine bL H ?_; clear H; intro y158 hy158 H
     have Ny158 := am hy158; clear hy158; by_cases c6 : 0 ≤ (ji4)
     ·rw [if_pos c6] at H
      have c6b0 := eq_true c6; have c6b1 : decide (0 ≤ (ji4)) = true := decide_eq_true c6; clear c6; by_cases c7 : (ji4) ≤ (x1_1.size : Int)
      ·rw [if_pos c7] at H
       have c7b0 := eq_true c7; have c7b1 : decide ((ji4) ≤ (x1_1.size : Int)) = true := decide_eq_true c7; clear c7; by_cases c8 : y158.length + (x1_1.extract 0 ((ji4) : Int).toNat).size < 140737488355328
       ·rw [if_pos c8] at H
        have LMc8 := am c8; clear c8; obtain ⟨y161, hy161⟩ : ∃ y_ : List Int, y_ = (y158 ++ bytesOf (x1_1.extract 0 ((ji4) : Int).toNat)) := ⟨_, rfl⟩; try rw [← hy161] at H
        have Ny161 := am hy161; clear hy161; have c9b0 := eq_true (of_decide_eq_true (by assumption) : 0 ≤ (ji4)); have c10b0 := eq_true (of_decide_eq_true (by assumption) : (ji4) ≤ (x1_1.size : Int)); have H' := am H; clear H; try go_wp2
        replace HO_0 := am (rD HO_0.out); replace HK := am (Kept.drew HK.out); replace HB := am (bO HB.out); refine start_ (n := 11) (S := fun w' => True) (ds := []) #[fF,fF,fF,fF,fF,fF,fF,fF,fF,fF,fF] (by kernel_rfl) rfl rfl trivial (fun hHeld => ?_); refine with_tabW lz_as.tab3 lz_as.bits3 (fun HT_ HW_ => ?_)
        generalize wr.drew = w11 at HO_0 HK HB hHeld ⊢
        refine pu 0 (some 12) ?_
        refine pu 1 (some 13) ?_
        refine pu 2 (some 14) ?_
        refine pu 3 (some 15) ?_
        refine pu 6 (some 18) ?_
        refine pu 7 (some 19) ?_
        refine pu 8 (some 20) ?_
        refine one_ (i := 4) (N := some 16) #[tT,tT,tT,tT,tT,fF,tT,tT,tT,fF,fF] rfl rfl (one_of HT_.out (by kernel_rfl)) (by decide) (fun K hK => ?_)
        refine value_ (w1 := ?_) (v := ?_) (by rfl) rfl ?_ ?_
        rotate_left 2
        ·go_simp
         constructor
         ·rfl
         ·rfl
        refine hK.out _ _ trivial (fun hHeld => ?_)
        clear hK K; refine norm_ (a' := ?_) ?_ ?_
        rotate_left
        ·show Act.put _ (some 16) _ = _
         simp only [Act.put, sA, sB, sC, i64_w, i32_w]
         rfl
        refine one_ (i := 5) (N := some 17) #[tT,tT,tT,tT,tT,tT,tT,tT,tT,fF,fF] rfl rfl (one_of HT_.out (by kernel_rfl)) (by decide) (fun K hK => ?_)
        refine Kd.R_append_step (Kd.int .u8) (w0 := w0) w0.heap.size (by rfl) (.tmp 12) (.tmp 16) 27 5 (.int .u8 0) 1 rfl Tryd.underlying27 info5 rfl (by decide) (by omega) u0 x0_1 ((wrap64 ((ji4) - 1)) % 256) [.int .u8 ((wrap64 ((ji4) - 1)) % 256)] (fun k_ => (P0_ k_ ∨ w.heap.size ≤ k_)) (fun _ => False) rfl rfl ?aP (fun _ hk => hk.elim) ?aF ?aO ?aB ?aS ?aL ?_
        (case aP => exact rfl)
        (case aB => exact bz)
        (case aF => exact (fun k_ hk => (.inr (Nat.le_trans (by first | exact HK.out.1 | exact (show Kept w _ (fun k_ => P0_ k_) from by repeat (first | (with_reducible first | exact HK.out | apply Kept.alloc | apply Kept.drewN | apply Kept.drew) | exact HK.out)).1) hk))))
        (case aO => exact (rz HO_0.out))
        (case aS => exact siz)
        (case aL => have := LMc5.out; omega)
        intro v159 w12 ho hb hg hat; rw [← Ny158.out] at ho; have n0_ := am (hb); have n1_ := am (Kept.of_grown (S := (fun k_ => P0_ k_)) hg kz (fun k_ e_ => (HO_0.out.1 k_ e_))); have n2_ := am (ho); clear HB; clear HK; clear HO_0; have HB := n0_; have HK := n1_; have HO160 := n2_; clear n0_ n1_ n2_; clear ho hb hg hat; refine hK.out _ _ trivial (fun hHeld => ?_)
        clear hK K; refine norm_ (a' := ?_) ?_ ?_
        rotate_left
        ·show Act.put _ (some 17) _ = _
         simp only [Act.put, sA, sB, sC, i64_w, i32_w]
         rfl
        refine one_ (i := 9) (N := some 21) #[tT,tT,tT,tT,tT,tT,tT,tT,tT,tT,fF] rfl rfl (one_of HT_.out (by kernel_rfl)) (by decide) (fun K hK => ?_)
        refine Kd.R_append_str_step (w0 := w0) w0.heap.size (by rfl) (.tmp 17) _ 27 9 5 rfl Tryd.underlying27 Tryd.underlying9 info5 v159 y158 (x1_1.extract 0 ((ji4) : Int).toNat) (fun k_ => (P0_ k_ ∨ w.heap.size ≤ k_)) rfl rfl ?aF ?aO ?aB ?aS ?aL ?_
        (case aB => exact bz)
        (case aF => exact (fun k_ hk => (.inr (Nat.le_trans (by first | exact HK.out.1 | exact (show Kept w _ (fun k_ => P0_ k_) from by repeat (first | (with_reducible first | exact HK.out | apply Kept.alloc | apply Kept.drewN | apply Kept.drew) | exact HK.out)).1) hk))))
        (case aO => exact (rz HO160.out))
        (case aS => exact siz)
        (case aL => have := LMc8.out; omega)
        intro v162 w13 ho hb hg hat; rw [← Ny161.out] at ho; have n0_ := am (hb); have n1_ := am (Kept.of_grown (S := (fun k_ => P0_ k_)) hg kz (fun k_ e_ => (HO160.out.1 k_ e_))); have n2_ := am (ho); clear HB; clear HK; clear HO160; have HB := n0_; have HK := n1_; have HO163 := n2_; clear n0_ n1_ n2_; clear ho hb hg hat; refine hK.out _ _ trivial (fun hHeld => ?_)
        clear hK K; refine norm_ (a' := ?_) ?_ ?_
        rotate_left
        ·show Act.put _ (some 21) _ = _
         simp only [Act.put, sA, sB, sC, i64_w, i32_w]
         rfl
        refine pu 10 (some 0) ?_
        refine done_ (done_of HT_.out (by kernel_rfl)) ?_
        try go_wp2
        go_roundg k1
        case measure => have := HK1.out; omega
        case rel => exact ⟨(y161), (x1_1.extract ((ji4) : Int).toNat x1_1.size), (by first | rfl | (simp; done) | (simp only [← hji4] <;> (first | rfl | simp)) | (simp [*]; done)), H', ⟨by have := HK1.out; omega⟩, ⟨rz HO163.out⟩, ⟨kz⟩, ⟨bz⟩⟩
       ·rw [if_neg c8] at H
        exact absurd H (by simp)
      ·rw [if_neg c7] at H
       exact absurd H (by simp)
     ·rw [if_neg c6] at H
      exact absurd H (by simp)
    ·rw [if_neg c5] at H
     exact absurd H (by simp)
   ·rw [if_neg c3] at H
    have c3b0 : decide (0 < (x1_1.size : Int)) = false := decide_eq_false c3; have c3b1 : decide (0 < x1_1.size) = false := decide_eq_false (by omega); clear c3; obtain rfl := Option.some.inj H; go_wp2
    go_ret; exact ⟨_, by first | rfl | (simp [eN, eS] <;> rfl) | (simp [*, eN, eS] <;> rfl), by (with_reducible repeat (first | apply rA | apply rN | apply rD)); exact HO_0.out, by repeat (first | (with_reducible first | exact HB.out | apply bA | apply bN | apply bO) | exact HB.out), kz⟩

end Go.Proofs.YthbdbgjggoobnaaDoor.P
