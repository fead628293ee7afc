/- Laid by a program of this session (wip/pr), after the printer of the kit: the functions that a statement reaches as plain Lean functions, and that the calls of the machine come to them. No condition. -/
import Derived.Test.YtkloomnkpfaijaaDoorPx0
import Derived.Test.YtkloomnkpfaijaaDoorPx17
import Derived.Test.YtkloomnkpfaijaaDoorPx19
import Derived.Test.YtkloomnkpfaijaaDoorPx22
namespace Go.Proofs.YtkloomnkpfaijaaDoor.P
open Go.RowKit Go.Proofs.YtkloomnkpfaijaaDoorX Go.Proofs.YtkloomnkpfaijaaDoorW.PrintWords Go.Proofs.YtkloomnkpfaijaaDoorW.PrintLast Go.Proofs.YtkloomnkpfaijaaDoorW.PrintMore
attribute [local go_sem] max2_int min2_int max_two min_two
set_option linter.unusedVariables false
set_option linter.unusedSimpArgs false

/-! ### api_Node_79: function 79 -/
mutual
def api_Node_79.l0 : Nat → List (S31) → Int → Bool → Int → Int → Int → Option ((List (S31)))
 | 0, _, _, _, _, _, _ => none
 | k + 1, x0, x1, x2, x6, x7, x8 => if x8 ≤ x1 then ((api_Node_87.f k x0 x7 x8 x2).bind fun t370 => (api_Node_79.l0 k t370 x1 x2 x6 x8 (wrap64 (x8 + x6)))) else ((api_Node_87.f k x0 x7 x1 x2).bind fun t371 => (api_Node_79.l1 k t371 x1 x2 x6))
def api_Node_79.l1 : Nat → List (S31) → Int → Bool → Int → Option ((List (S31)))
 | 0, _, _, _, _ => none
 | k + 1, x0, x1, x2, x6 => if x6 < x1 then (api_Node_79.l2 k x0 x1 x2 x6 0 (wrap64 (2 * x6))) else (some x0)
def api_Node_79.l2 : Nat → List (S31) → Int → Bool → Int → Int → Int → Option ((List (S31)))
 | 0, _, _, _, _, _, _ => none
 | k + 1, x0, x1, x2, x6, x7, x8 => if x8 ≤ x1 then ((api_Node_88.f k x0 x7 (wrap64 (x7 + x6)) x8 x2).bind fun t372 => (api_Node_79.l2 k t372 x1 x2 x6 x8 (wrap64 (x8 + (wrap64 (2 * x6)))))) else (if (wrap64 (x7 + x6)) < x1 then ((api_Node_88.f k x0 x7 (wrap64 (x7 + x6)) x1 x2).bind fun t373 => (api_Node_79.l1 k t373 x1 x2 (wrap64 (x6 * 2)))) else (api_Node_79.l1 k x0 x1 x2 (wrap64 (x6 * 2))))
end
def api_Node_79.f (k : Nat) (l0 : List (S31)) (a1 : Int) (a2 : Bool) : Option ((List (S31))) := api_Node_79.l0 k l0 a1 a2 20 0 20
theorem api_Node_79.mono_l : ∀ k, (∀ y0 y1 y2 y3 y4 y5, LeO (api_Node_79.l0 k y0 y1 y2 y3 y4 y5) (api_Node_79.l0 (k + 1) y0 y1 y2 y3 y4 y5)) ∧ (∀ y0 y1 y2 y3, LeO (api_Node_79.l1 k y0 y1 y2 y3) (api_Node_79.l1 (k + 1) y0 y1 y2 y3)) ∧ (∀ y0 y1 y2 y3 y4 y5, LeO (api_Node_79.l2 k y0 y1 y2 y3 y4 y5) (api_Node_79.l2 (k + 1) y0 y1 y2 y3 y4 y5))
 | 0 => ⟨fun _ _ _ _ _ _ r h => by simp [api_Node_79.l0] at h, fun _ _ _ _ r h => by simp [api_Node_79.l1] at h, fun _ _ _ _ _ _ r h => by simp [api_Node_79.l2] at h⟩
 | k + 1 => by
  obtain ⟨ih0, ih1, ih2⟩ := api_Node_79.mono_l k; refine ⟨?_, ?_, ?_⟩
  ·intro y0 y1 y2 y3 y4 y5
   unfold api_Node_79.l0
   repeat' with_reducible first | exact ih0 _ _ _ _ _ _ | exact ih1 _ _ _ _ | exact ih2 _ _ _ _ _ _ | exact api_Node_87.mono _ _ _ _ _ | exact api_Node_88.mono _ _ _ _ _ _ | exact LeO.refl _ | exact LeO.none _ | refine LeO.ite ?_ ?_ | refine LeO.bind ?_ (fun _ => ?_)
  ·intro y0 y1 y2 y3
   unfold api_Node_79.l1
   repeat' with_reducible first | exact ih0 _ _ _ _ _ _ | exact ih1 _ _ _ _ | exact ih2 _ _ _ _ _ _ | exact api_Node_87.mono _ _ _ _ _ | exact api_Node_88.mono _ _ _ _ _ _ | exact LeO.refl _ | exact LeO.none _ | refine LeO.ite ?_ ?_ | refine LeO.bind ?_ (fun _ => ?_)
  ·intro y0 y1 y2 y3 y4 y5
   unfold api_Node_79.l2
   repeat' with_reducible first | exact ih0 _ _ _ _ _ _ | exact ih1 _ _ _ _ | exact ih2 _ _ _ _ _ _ | exact api_Node_87.mono _ _ _ _ _ | exact api_Node_88.mono _ _ _ _ _ _ | exact LeO.refl _ | exact LeO.none _ | refine LeO.ite ?_ ?_ | refine LeO.bind ?_ (fun _ => ?_)
theorem api_Node_79.mono : ∀ a0 a1 a2 k, LeO (api_Node_79.f k a0 a1 a2) (api_Node_79.f (k + 1) a0 a1 a2) := by
 intro a0 a1 a2 k; obtain ⟨ih0, ih1, ih2⟩ := api_Node_79.mono_l k; unfold api_Node_79.f
 repeat' with_reducible first | exact ih0 _ _ _ _ _ _ | exact ih1 _ _ _ _ | exact ih2 _ _ _ _ _ _ | exact api_Node_87.mono _ _ _ _ _ | exact api_Node_88.mono _ _ _ _ _ _ | exact LeO.refl _ | exact LeO.none _ | refine LeO.ite ?_ ?_ | refine LeO.bind ?_ (fun _ => ?_)
set_option maxHeartbeats 8000000 in
set_option maxRecDepth 100000 in
theorem api_Node_79.calls (k : Nat) (P0_ : Nat → Prop) (u9000_ : Value) (l0 : List (S31)) (a1 : Int) (a2 : Bool) (r : List (S31)) (w0 w : World) (hB : Below w0.heap.size w0 w) (ho0 : Kd.R k31 31 w w0.heap.size P0_ u9000_ l0) (h : api_Node_79.f k l0 a1 a2 = some r) :
  Calls Tryd.prog 79 #[u9000_, .int .i64 a1, .func (.func 68) #[] #[]] w fun e w' => e = .returned (.tuple #[]) ∧ Kd.R k31 31 w' w0.heap.size (fun k_ => (P0_ k_ ∨ w.heap.size ≤ k_)) u9000_ r ∧ Below w0.heap.size w0 w' ∧ Kept w w' (fun k_ => P0_ k_) := by
 have HO0 := am (show Kd.R k31 31 w w0.heap.size (fun k_ => (P0_ k_ ∨ w.heap.size ≤ k_)) u9000_ l0 from Kd.R_mono ho0 (fun k_ hk => (.inl hk))); have HK := am (Kept.refl w (fun k_ => P0_ k_)); have HW0 := am hB.size; have HB := am hB; clear hB; have H : (api_Node_79.l0 k l0 a1 a2 20 0 20) = some r := h; clear h; have H' := am H; clear H; go_enter Tryd.func79, Tryd.ntmps79; go_wp2
 go_loopg [7, 8] k (fun kq v7 v8 w' => ∃ (x0_1 : List (S31)) (x7_1 : Int) (x8_1 : Int), v7 = .int .i64 x7_1 ∧ v8 = .int .i64 x8_1 ∧ Aside0 (api_Node_79.l0 kq x0_1 a1 a2 20 x7_1 x8_1 = some r) ∧ Aside0 (kq ≤ k) ∧ Aside0 (Kd.R k31 31 w' w0.heap.size (fun k_ => (P0_ k_ ∨ w.heap.size ≤ k_)) u9000_ x0_1) ∧ Aside0 (Kept w w' (fun k_ => P0_ k_)) ∧ Aside0 (Below w0.heap.size w0 w'))
 case atStart => exact ⟨(l0), (0), (20), (by first | rfl | (simp; done) | (simp [*]; done)), (by first | rfl | (simp; done) | (simp [*]; done)), H', ⟨Nat.le_refl _⟩, ⟨rz HO0.out⟩, ⟨kz⟩, ⟨bz⟩⟩
 case round =>
  clear H'; (try clear p2); obtain ⟨x0_1, x7_1, x8_1, rfl, rfl, HA, HK1, HO_0, HK, HB⟩ := hrel; cases gk with
  | zero => exact absurd HA.out (by simp [api_Node_79.l0])
  | succ k1 =>
   have H := HA.out; clear HA; simp only [api_Node_79.l0] at H
   by_cases c4 : x8_1 ≤ a1
   ·rw [if_pos c4] at H
    have c4b0 : decide (x8_1 ≤ a1) = true := decide_eq_true c4; clear c4; refine oR H ?_; clear H; intro t370 A5 H; have H' := am H; clear H; obtain ⟨Ao6, co6, eo6⟩ := Kd.R_slice HO_0.out; subst eo6; go_wp2_with (first | ((with_reducible refine gate_callee (f := 87) rfl ?_); refine gL (some 18) Tryd.func87 #[.slice Ao6 x0_1.length co6, .int .i64 x7_1, .int .i64 x8_1, .func (.func 68) #[] #[]] ?_; (with_reducible refine (api_Node_87.calls k1 (fun k_ => some k_ = (.slice Ao6 x0_1.length co6 : Value).ownBlock) (.slice Ao6 x0_1.length co6) x0_1 x7_1 x8_1 a2 t370 w0 _ ?side1 ?side2 A5.out).mono ?_); (case side1 => repeat (first | (with_reducible first | exact HB.out | apply bA | apply bN | apply bO) | exact HB.out)); (case side2 => exact Kd.R_tight rfl HO_0.out); rintro e w7 ⟨rfl, hy0, hb, hkp⟩; refine ⟨_, rfl, ?_⟩; replace HK := am (Kept.then_ (S := (fun k_ => P0_ k_)) kz hkp (fun k_ hs_ => (fun e_ => (HO_0.out.1 k_ e_.symm)) hs_)); replace HO_0 := am (Kd.R_reok rfl hy0 (fun k_ e_ => HO_0.out.1 k_ e_)); replace HB := am (hb); (try clear hb); (try clear hkp); (try clear hy0)))
    go_roundg k1
    case measure => have := HK1.out; omega
    case rel => exact ⟨(t370), (x8_1), (wrap64 (x8_1 + 20)), (by first | rfl | (simp; done) | (simp [*]; done)), (by first | rfl | (simp; done) | (simp [*]; done)), H', ⟨by have := HK1.out; omega⟩, ⟨rz HO_0.out⟩, ⟨kz⟩, ⟨bz⟩⟩
   ·rw [if_neg c4] at H
    have c4b0 : decide (x8_1 ≤ a1) = false := decide_eq_false c4; clear c4; refine oR H ?_; clear H; intro t371 A8 H; have H' := am H; clear H; obtain ⟨Ao9, co9, eo9⟩ := Kd.R_slice HO_0.out; subst eo9; go_wp2_with (first | ((with_reducible refine gate_callee (f := 87) rfl ?_); refine gL (some 27) Tryd.func87 #[.slice Ao9 x0_1.length co9, .int .i64 x7_1, .int .i64 a1, .func (.func 68) #[] #[]] ?_; (with_reducible refine (api_Node_87.calls k1 (fun k_ => some k_ = (.slice Ao9 x0_1.length co9 : Value).ownBlock) (.slice Ao9 x0_1.length co9) x0_1 x7_1 a1 a2 t371 w0 _ ?side1 ?side2 A8.out).mono ?_); (case side1 => repeat (first | (with_reducible first | exact HB.out | apply bA | apply bN | apply bO) | exact HB.out)); (case side2 => exact Kd.R_tight rfl HO_0.out); rintro e w10 ⟨rfl, hy0, hb, hkp⟩; refine ⟨_, rfl, ?_⟩; replace HK := am (Kept.then_ (S := (fun k_ => P0_ k_)) kz hkp (fun k_ hs_ => (fun e_ => (HO_0.out.1 k_ e_.symm)) hs_)); replace HO_0 := am (Kd.R_reok rfl hy0 (fun k_ e_ => HO_0.out.1 k_ e_)); replace HB := am (hb); (try clear hb); (try clear hkp); (try clear hy0)))
    (try simp only [Act.put, sA, sB, sC, i64_w, i32_w])
    go_loopg [6] k1 (fun kq v6 w' => ∃ (x0_2 : List (S31)) (x6_2 : Int), v6 = .int .i64 x6_2 ∧ Aside0 (api_Node_79.l1 kq x0_2 a1 a2 x6_2 = some r) ∧ Aside0 (kq ≤ k1) ∧ Aside0 (Kd.R k31 31 w' w0.heap.size (fun k_ => (P0_ k_ ∨ w.heap.size ≤ k_)) (.slice Ao9 x0_1.length co9) x0_2) ∧ Aside0 (Kept w w' (fun k_ => P0_ k_)) ∧ Aside0 (Below w0.heap.size w0 w'))
    case atStart => exact ⟨(t371), (20), (by first | rfl | (simp; done) | (simp [*]; done)), H', ⟨Nat.le_refl _⟩, ⟨rz HO_0.out⟩, ⟨kz⟩, ⟨bz⟩⟩
    case round =>
     clear H'; (try clear p2); (try clear c4); (try clear c4b0); (try clear p6); (try clear c7); (try clear c8); (try clear p2); obtain ⟨x0_2, x6_2, rfl, HA, HK2, HO_0, HK, HB⟩ := hrel; have hl0_2 := (Kd.R_reads' HO_0.out).1; rw [hl0_2] at HO_0; (try simp only [hl0_2])
     cases gk with
     | zero => exact absurd HA.out (by simp [api_Node_79.l1])
     | succ k2 =>
      have H := HA.out; clear HA; simp only [api_Node_79.l1] at H
      by_cases c11 : x6_2 < a1
      ·rw [if_pos c11] at H
       have c11b0 : decide (x6_2 < a1) = true := decide_eq_true c11; clear c11; have H' := am H; clear H; go_wp2
       go_loopg [7, 8] k2 (fun kq v7 v8 w' => ∃ (x0_3 : List (S31)) (x7_3 : Int) (x8_3 : Int), v7 = .int .i64 x7_3 ∧ v8 = .int .i64 x8_3 ∧ Aside0 (api_Node_79.l2 kq x0_3 a1 a2 x6_2 x7_3 x8_3 = some r) ∧ Aside0 (kq ≤ k2) ∧ Aside0 (Kd.R k31 31 w' w0.heap.size (fun k_ => (P0_ k_ ∨ w.heap.size ≤ k_)) (.slice Ao9 x0_2.length co9) x0_3) ∧ Aside0 (Kept w w' (fun k_ => P0_ k_)) ∧ Aside0 (Below w0.heap.size w0 w'))
       case atStart => exact ⟨(x0_2), (0), (wrap64 (2 * x6_2)), (by first | rfl | (simp; done) | (simp [*]; done)), (by first | rfl | (simp; done) | (simp [*]; done)), H', ⟨Nat.le_refl _⟩, ⟨by (try simp only [hl0_2]); (with_reducible repeat (first | apply rA | apply rN | apply rD)); exact HO_0.out⟩, ⟨kz⟩, ⟨bz⟩⟩
       case round =>
        clear H'; (try clear c1); (try clear p2); (try clear c4); (try clear c4b0); (try clear p6); (try clear c7); (try clear c8); (try clear c11); (try clear c11b0); (try clear p2); (try clear p6); obtain ⟨x0_3, x7_3, x8_3, rfl, rfl, HA, HK3, HO_0, HK, HB⟩ := hrel; have hl0_3 := (Kd.R_reads' HO_0.out).1; rw [hl0_3] at HO_0; (try simp only [hl0_3])
        cases gk with
        | zero => exact absurd HA.out (by simp [api_Node_79.l2])
        | succ k3 =>
         have H := HA.out; clear HA; simp only [api_Node_79.l2] at H
         by_cases c12 : x8_3 ≤ a1
         ·rw [if_pos c12] at H
          have c12b0 : decide (x8_3 ≤ a1) = true := decide_eq_true c12; clear c12; refine oR H ?_; clear H; intro t372 A13 H; have H' := am H; clear H; go_wp2_with (first | ((with_reducible refine gate_callee (f := 88) rfl ?_); refine gL (some 43) Tryd.func88 #[.slice Ao9 x0_3.length co9, .int .i64 x7_3, .int .i64 (wrap64 (x7_3 + x6_2)), .int .i64 x8_3, .func (.func 68) #[] #[]] ?_; (with_reducible refine (api_Node_88.calls k3 (fun k_ => some k_ = (.slice Ao9 x0_3.length co9 : Value).ownBlock) (.slice Ao9 x0_3.length co9) x0_3 x7_3 (wrap64 (x7_3 + x6_2)) x8_3 a2 t372 w0 _ ?side1 ?side2 A13.out).mono ?_); (case side1 => repeat (first | (with_reducible first | exact HB.out | apply bA | apply bN | apply bO) | exact HB.out)); (case side2 => exact Kd.R_tight rfl HO_0.out); rintro e w14 ⟨rfl, hy0, hb, hkp⟩; refine ⟨_, rfl, ?_⟩; replace HK := am (Kept.then_ (S := (fun k_ => P0_ k_)) kz hkp (fun k_ hs_ => (fun e_ => (HO_0.out.1 k_ e_.symm)) hs_)); replace HO_0 := am (Kd.R_reok rfl hy0 (fun k_ e_ => HO_0.out.1 k_ e_)); replace HB := am (hb); (try clear hb); (try clear hkp); (try clear hy0)))
          (try simp only [← hl0_3])
          go_roundg k3
          case measure => have := HK1.out; have := HK2.out; have := HK3.out; omega
          case rel => exact ⟨(t372), (x8_3), (wrap64 (x8_3 + (wrap64 (2 * x6_2)))), (by first | rfl | (simp; done) | (simp [*]; done)), (by first | rfl | (simp; done) | (simp [*]; done)), H', ⟨by have := HK1.out; have := HK2.out; have := HK3.out; omega⟩, ⟨by (try simp only [hl0_2]); (try simp only [hl0_3]); (with_reducible repeat (first | apply rA | apply rN | apply rD)); exact HO_0.out⟩, ⟨kz⟩, ⟨bz⟩⟩
         ·rw [if_neg c12] at H
          have c12b0 : decide (x8_3 ≤ a1) = false := decide_eq_false c12; clear c12; by_cases c15 : (wrap64 (x7_3 + x6_2)) < a1
          ·rw [if_pos c15] at H
           have c15b0 : decide ((wrap64 (x7_3 + x6_2)) < a1) = true := decide_eq_true c15; clear c15; refine oR H ?_; clear H; intro t373 A16 H; have H' := am H; clear H; go_wp2_with (first | ((with_reducible refine gate_callee (f := 88) rfl ?_); refine gL (some 60) Tryd.func88 #[.slice Ao9 x0_3.length co9, .int .i64 x7_3, .int .i64 (wrap64 (x7_3 + x6_2)), .int .i64 a1, .func (.func 68) #[] #[]] ?_; (with_reducible refine (api_Node_88.calls k3 (fun k_ => some k_ = (.slice Ao9 x0_3.length co9 : Value).ownBlock) (.slice Ao9 x0_3.length co9) x0_3 x7_3 (wrap64 (x7_3 + x6_2)) a1 a2 t373 w0 _ ?side1 ?side2 A16.out).mono ?_); (case side1 => repeat (first | (with_reducible first | exact HB.out | apply bA | apply bN | apply bO) | exact HB.out)); (case side2 => exact Kd.R_tight rfl HO_0.out); rintro e w17 ⟨rfl, hy0, hb, hkp⟩; refine ⟨_, rfl, ?_⟩; replace HK := am (Kept.then_ (S := (fun k_ => P0_ k_)) kz hkp (fun k_ hs_ => (fun e_ => (HO_0.out.1 k_ e_.symm)) hs_)); replace HO_0 := am (Kd.R_reok rfl hy0 (fun k_ e_ => HO_0.out.1 k_ e_)); replace HB := am (hb); (try clear hb); (try clear hkp); (try clear hy0)))
           (try simp only [← hl0_2, ← hl0_3])
           go_roundg k3
           case measure => have := HK1.out; have := HK2.out; have := HK3.out; omega
           case rel => exact ⟨(t373), (wrap64 (x6_2 * 2)), (by first | rfl | (simp; done) | (simp [*]; done)), H', ⟨by have := HK1.out; have := HK2.out; have := HK3.out; omega⟩, ⟨by (try simp only [hl0_2]); (try simp only [hl0_3]); (with_reducible repeat (first | apply rA | apply rN | apply rD)); exact HO_0.out⟩, ⟨kz⟩, ⟨bz⟩⟩
          ·rw [if_neg c15] at H
           have c15b0 : decide ((wrap64 (x7_3 + x6_2)) < a1) = false := decide_eq_false c15; clear c15; have H' := am H; clear H; go_wp2
           (try simp only [← hl0_2, ← hl0_3])
           go_roundg k3
           case measure => have := HK1.out; have := HK2.out; have := HK3.out; omega
           case rel => exact ⟨(x0_3), (wrap64 (x6_2 * 2)), (by first | rfl | (simp; done) | (simp [*]; done)), H', ⟨by have := HK1.out; have := HK2.out; have := HK3.out; omega⟩, ⟨by (try simp only [hl0_2]); (try simp only [hl0_3]); (with_reducible repeat (first | apply rA | apply rN | apply rD)); exact HO_0.out⟩, ⟨kz⟩, ⟨bz⟩⟩
      ·rw [if_neg c11] at H
       have c11b0 : decide (x6_2 < a1) = false := decide_eq_false c11; clear c11; obtain rfl := Option.some.inj H; go_wp2
       first | go_end0 | ((try simp only [Exit.inBlock, Exit.then]); refine bodyPost_ret (results_none rfl _ _ _) rfl ?_)
       exact ⟨ez, (by first | exact (rz HO_0.out) | (simp only [hl0_2]; exact (rz HO_0.out))), by repeat (first | (with_reducible first | exact HB.out | apply bA | apply bN | apply bO) | exact HB.out), kz⟩

/-! ### api_Node_67: function 67 -/
def api_Node_67.f (k : Nat) (l0 : List (S31)) (a1 : Bool) : Option ((List (S31))) := (api_Node_79.f k l0 (l0.length : Int) a1).bind fun t374 => (some t374)
theorem api_Node_67.mono : ∀ a0 a1 k, LeO (api_Node_67.f k a0 a1) (api_Node_67.f (k + 1) a0 a1) := by
 intro a0 a1 k; unfold api_Node_67.f
 repeat' with_reducible first | exact api_Node_79.mono _ _ _ _ | exact LeO.refl _ | exact LeO.none _ | refine LeO.ite ?_ ?_ | refine LeO.bind ?_ (fun _ => ?_)
set_option maxHeartbeats 8000000 in
set_option maxRecDepth 100000 in
theorem api_Node_67.calls (k : Nat) (P0_ : Nat → Prop) (u9000_ : Value) (l0 : List (S31)) (a1 : Bool) (r : List (S31)) (w0 w : World) (hB : Below w0.heap.size w0 w) (ho0 : Kd.R k31 31 w w0.heap.size P0_ u9000_ l0) (h : api_Node_67.f k l0 a1 = some r) :
  Calls Tryd.prog 67 #[u9000_, .func (.func 68) #[] #[]] w fun e w' => e = .returned (.tuple #[]) ∧ Kd.R k31 31 w' w0.heap.size (fun k_ => (P0_ k_ ∨ w.heap.size ≤ k_)) u9000_ r ∧ Below w0.heap.size w0 w' ∧ Kept w w' (fun k_ => P0_ k_) := by
 have HO0 := am (show Kd.R k31 31 w w0.heap.size (fun k_ => (P0_ k_ ∨ w.heap.size ≤ k_)) u9000_ l0 from Kd.R_mono ho0 (fun k_ hk => (.inl hk))); have HK := am (Kept.refl w (fun k_ => P0_ k_)); have HW0 := am hB.size; have HB := am hB; clear hB; have H : ((api_Node_79.f k l0 (l0.length : Int) a1).bind fun t374 => (some t374)) = some r := h; clear h; refine oR H ?_; clear H; intro t374 A3 H; obtain rfl := Option.some.inj H; obtain ⟨Ao4, co4, eo4⟩ := Kd.R_slice HO0.out; subst eo4; go_enter Tryd.func67, Tryd.ntmps67; go_wp2_with (first | ((with_reducible refine gate_callee (f := 79) rfl ?_); refine gL (some 8) Tryd.func79 #[.slice Ao4 l0.length co4, .int .i64 (l0.length : Int), .func (.func 68) #[] #[]] ?_; (with_reducible refine (api_Node_79.calls k (fun k_ => some k_ = (.slice Ao4 l0.length co4 : Value).ownBlock) (.slice Ao4 l0.length co4) l0 (l0.length : Int) a1 t374 w0 _ ?side1 ?side2 A3.out).mono ?_); (case side1 => repeat (first | (with_reducible first | exact HB.out | apply bA | apply bN | apply bO) | exact HB.out)); (case side2 => exact Kd.R_tight rfl HO0.out); rintro e w5 ⟨rfl, hy0, hb, hkp⟩; refine ⟨_, rfl, ?_⟩; replace HK := am (Kept.then_ (S := (fun k_ => P0_ k_)) kz hkp (fun k_ hs_ => (fun e_ => (HO0.out.1 k_ e_.symm)) hs_)); replace HO0 := am (Kd.R_reok rfl hy0 (fun k_ e_ => HO0.out.1 k_ e_)); replace HB := am (hb); (try clear hb); (try clear hkp); (try clear hy0)))
 first | go_end0 | ((try simp only [Exit.inBlock, Exit.then]); refine bodyPost_ret (results_none rfl _ _ _) rfl ?_)
 exact ⟨ez, by (with_reducible repeat (first | apply rA | apply rN | apply rD)); exact HO0.out, by repeat (first | (with_reducible first | exact HB.out | apply bA | apply bN | apply bO) | exact HB.out), kz⟩

/-! ### tree_Sort: function 46 -/
def tree_Sort.f (k : Nat) (l0 : List (S31)) : Option ((List (S31))) := (api_Node_47.f l0).bind fun t375 => ((api_Node_67.f k t375 true).bind fun t378 => (some t378))
theorem tree_Sort.mono : ∀ a0 k, LeO (tree_Sort.f k a0) (tree_Sort.f (k + 1) a0) := by
 intro a0 k; unfold tree_Sort.f
 repeat' with_reducible first | exact api_Node_67.mono _ _ _ | exact LeO.refl _ | exact LeO.none _ | refine LeO.ite ?_ ?_ | refine LeO.bind ?_ (fun _ => ?_)
set_option maxHeartbeats 8000000 in
set_option maxRecDepth 100000 in
theorem tree_Sort.calls (k : Nat) (A0 : Option Addr) (c0 : Nat) (l0 : List (S31)) (r : List (S31)) (w : World) (hr0 : Kd.C k31 w A0 l0.length l0) (hc0 : l0.length ≤ c0) (h : tree_Sort.f k l0 = some r) :
  Calls Tryd.prog 46 #[.slice A0 l0.length c0] w fun e w' => ∃ v0_ : Value, e = .returned (v0_) ∧ Kd.R k31 31 w' w.heap.size (fun _ => True) v0_ r ∧ Below w.heap.size w w' := by
 have HR0 := am hr0; have HC0 := am hc0; clear hr0 hc0; have HB := am (Below.refl w.heap.size w); have H : ((api_Node_47.f l0).bind fun t375 => ((api_Node_67.f k t375 true).bind fun t378 => (some t378))) = some r := h; clear h; refine oR H ?_; clear H; intro t375 A2 H; refine oR H ?_; clear H; intro t378 A3 H; obtain rfl := Option.some.inj H; go_enter Tryd.func46, Tryd.ntmps46; go_wp2_with (first | ((with_reducible refine gate_callee (f := 47) rfl ?_); refine gL (some 5) Tryd.func47 #[.slice A0 l0.length c0] ?_; (with_reducible refine (api_Node_47.calls _ _ l0 t375 _ ?side1 ?side2 A2.out).mono ?_); (case side1 => exact cz HR0.out); (case side2 => exact HC0.out); rintro e w4 ⟨v376, rfl, ho0, hb⟩; refine ⟨_, rfl, ?_⟩; have HO377 := am (Kd.R_lower ho0 siz); replace HB := bs hb; (try clear ho0); obtain ⟨Ao5, co5, eo5⟩ := Kd.R_slice HO377.out; subst eo5) | ((with_reducible refine gate_callee (f := 67) rfl ?_); refine gL (some 7) Tryd.func67 #[.slice Ao5 t375.length co5, .func (.func 68) #[] #[]] ?_; (with_reducible refine (api_Node_67.calls k (fun k_ => some k_ = (.slice Ao5 t375.length co5 : Value).ownBlock) (.slice Ao5 t375.length co5) t375 true t378 w _ ?side1 ?side2 A3.out).mono ?_); (case side1 => repeat (first | (with_reducible first | exact HB.out | apply bA | apply bN | apply bO) | exact HB.out)); (case side2 => exact Kd.R_tight rfl HO377.out); rintro e w6 ⟨rfl, hy0, hb, hkp⟩; refine ⟨_, rfl, ?_⟩; replace HO377 := am (Kd.R_reok rfl hy0 (fun k_ e_ => HO377.out.1 k_ e_)); replace HB := am (hb); (try clear hb); (try clear hkp); (try clear hy0)))
 go_ret; exact ⟨_, by first | rfl | (simp [eN, eS] <;> rfl) | (simp [*, eN, eS] <;> rfl), by (with_reducible repeat (first | apply rA | apply rN | apply rD)); exact HO377.out, bz⟩

/-! ### find_place_outer: function 48 -/
def find_place_outer.f (a0 : ByteArray) (a1_0 : ByteArray) (a1_1 : Int) (a1_2 : ByteArray) : Option (ByteArray × Int × ByteArray) := if a1_0.toList = ([] : List UInt8) then (some (a0, a1_1, a1_2)) else (if a0.toList = ([] : List UInt8) then (some (a1_0, a1_1, a1_2)) else (if a0.size + 1 ≤ 9223372036854775807 then (if (a0 ++ (⟨#[47]⟩ : ByteArray)).size + a1_0.size ≤ 9223372036854775807 then (some ((a0 ++ (⟨#[47]⟩ : ByteArray)) ++ a1_0, a1_1, a1_2)) else (none)) else (none)))
set_option maxHeartbeats 8000000 in
set_option maxRecDepth 100000 in
theorem find_place_outer.calls (a0 : ByteArray) (a1_0 : ByteArray) (a1_1 : Int) (a1_2 : ByteArray) (r1 : ByteArray) (r2 : Int) (r3 : ByteArray) (w : World) (h : find_place_outer.f a0 a1_0 a1_1 a1_2 = some (r1, r2, r3)) :
  Calls Tryd.prog 48 #[.string a0, .agg #[.string a1_0, .int .i64 a1_1, .string a1_2]] w fun e w' => e = .returned (.agg #[.string r1, .int .i64 r2, .string r3]) ∧ Below w.heap.size w w' := by
 have hu31 := Tryd.underlying31; have HB := am (Below.refl w.heap.size w); have H : (if a1_0.toList = ([] : List UInt8) then (some (a0, a1_1, a1_2)) else (if a0.toList = ([] : List UInt8) then (some (a1_0, a1_1, a1_2)) else (if a0.size + 1 ≤ 9223372036854775807 then (if (a0 ++ (⟨#[47]⟩ : ByteArray)).size + a1_0.size ≤ 9223372036854775807 then (some ((a0 ++ (⟨#[47]⟩ : ByteArray)) ++ a1_0, a1_1, a1_2)) else (none)) else (none)))) = some (r1, r2, r3) := h; clear h; by_cases c3 : a1_0.toList = ([] : List UInt8)
 ·rw [if_pos c3] at H
  have c3b0 : (a1_0.toList == ([] : List UInt8)) = true := beq_iff_eq.mpr c3; have c3b1 : (a1_0.toList != ([] : List UInt8)) = false := bne_eq_false_iff_eq.mpr c3; clear c3; simp only [Option.some.injEq, Prod.mk.injEq] at H
  obtain ⟨rfl, rfl, rfl⟩ := H; go_enter Tryd.func48, Tryd.ntmps48; go_wp2_with (first | ((with_reducible refine gate_dst (N := 3) rfl ?_); refine bx 3 #[.string a1_0, .int .i64 a1_1, .string a1_2] 31 ?_; intro gb379 hg w4 hbox hb; have BK379 := am (hbox); have GW379 := gz hg; have GE379 := gz hg; replace HB := bs hb; clear hb hbox hg) | ((with_reducible refine gate_dst (N := 4) rfl ?_); refine bx 4 #[.string (⟨#[]⟩ : ByteArray), .int .i64 0, .string (⟨#[]⟩ : ByteArray)] 31 ?_; intro gb380 hg w5 hbox hb; have BK380 := am (hbox); have GW380 := gq hg; have GE380 := gq hg; replace HB := bw hb; have NB379_380 := am ((by rw [hg]; exact Nat.ne_of_lt (blk_lt (g := gb379) (o := .cells #[.string a1_0, .int .i64 a1_1, .string a1_2] 31 (0, 0)) (bk BK379.out)) : gb379 ≠ gb380)); have NB380_379 := am ((by rw [hg]; exact Nat.ne_of_gt (blk_lt (g := gb379) (o := .cells #[.string a1_0, .int .i64 a1_1, .string a1_2] 31 (0, 0)) (bk BK379.out)) : gb380 ≠ gb379)); replace BK379 := am (blk_below (g := gb379) (o := .cells #[.string a1_0, .int .i64 a1_1, .string a1_2] 31 (0, 0)) (bk BK379.out) hb); clear hb hbox hg; have hnb6 := NB379_380.out; have hnc6 := NB380_379.out; obtain ⟨hcz7_0, hcz7_1, hcz7_2⟩ := cq3 BK379.out; obtain ⟨hfz7_0, hfz7_1, hfz7_2⟩ := fq3 BK379.out; obtain ⟨hcz8_0, hcz8_1, hcz8_2⟩ := cq3 BK380.out; obtain ⟨hfz8_0, hfz8_1, hfz8_2⟩ := fq3 BK380.out))
  refine bodyPost_ret (results_cell_row rfl _ _ gb380 31 #[.string a0, .int .i64 a1_1, .string a1_2] (0, 0) _ rfl (by (with_reducible repeat (first | refine kN ?_ _ | refine kD ?_ | refine kA ?_ _)); refine blk_put (cs := #[.string a0, .int .i64 a1_1, .string (⟨#[]⟩ : ByteArray)]) ?_ 2 _ rfl; (with_reducible repeat (first | refine kN ?_ _ | refine kD ?_ | refine kA ?_ _)); refine blk_put (cs := #[.string a0, .int .i64 0, .string (⟨#[]⟩ : ByteArray)]) ?_ 1 _ rfl; (with_reducible repeat (first | refine kN ?_ _ | refine kD ?_ | refine kA ?_ _)); refine blk_put (cs := #[.string (⟨#[]⟩ : ByteArray), .int .i64 0, .string (⟨#[]⟩ : ByteArray)]) ?_ 0 _ rfl; (with_reducible repeat (first | refine kN ?_ _ | refine kD ?_ | refine kA ?_ _)); refine blk_far ?_ NB380_379.out _; (with_reducible repeat (first | refine kN ?_ _ | refine kD ?_ | refine kA ?_ _)); exact BK380.out) Tryd.underlying31 rfl (by kernel_rfl)) rfl ?_
  exact ⟨ez, bq⟩
 ·rw [if_neg c3] at H
  have c3b0 : (a1_0.toList == ([] : List UInt8)) = false := beq_eq_false_iff_ne.mpr c3; have c3b1 : (a1_0.toList != ([] : List UInt8)) = true := bne_iff_ne.mpr c3; by_cases c9 : a0.toList = ([] : List UInt8)
  ·rw [if_pos c9] at H
   have c9b0 : (a0.toList == ([] : List UInt8)) = true := beq_iff_eq.mpr c9; have c9b1 : (a0.toList != ([] : List UInt8)) = false := bne_eq_false_iff_eq.mpr c9; clear c9; simp only [Option.some.injEq, Prod.mk.injEq] at H
   obtain ⟨rfl, rfl, rfl⟩ := H; go_enter Tryd.func48, Tryd.ntmps48; go_wp2_with (first | ((with_reducible refine gate_dst (N := 3) rfl ?_); refine bx 3 #[.string a1_0, .int .i64 a1_1, .string a1_2] 31 ?_; intro gb379 hg w10 hbox hb; have BK379 := am (hbox); have GW379 := gz hg; have GE379 := gz hg; replace HB := bs hb; clear hb hbox hg) | ((with_reducible refine gate_dst (N := 4) rfl ?_); refine bx 4 #[.string (⟨#[]⟩ : ByteArray), .int .i64 0, .string (⟨#[]⟩ : ByteArray)] 31 ?_; intro gb380 hg w11 hbox hb; have BK380 := am (hbox); have GW380 := gq hg; have GE380 := gq hg; replace HB := bw hb; have NB379_380 := am ((by rw [hg]; exact Nat.ne_of_lt (blk_lt (g := gb379) (o := .cells #[.string a1_0, .int .i64 a1_1, .string a1_2] 31 (0, 0)) (bk BK379.out)) : gb379 ≠ gb380)); have NB380_379 := am ((by rw [hg]; exact Nat.ne_of_gt (blk_lt (g := gb379) (o := .cells #[.string a1_0, .int .i64 a1_1, .string a1_2] 31 (0, 0)) (bk BK379.out)) : gb380 ≠ gb379)); replace BK379 := am (blk_below (g := gb379) (o := .cells #[.string a1_0, .int .i64 a1_1, .string a1_2] 31 (0, 0)) (bk BK379.out) hb); clear hb hbox hg; have hnb12 := NB379_380.out; have hnc12 := NB380_379.out; obtain ⟨hcz13_0, hcz13_1, hcz13_2⟩ := cq3 BK379.out; obtain ⟨hfz13_0, hfz13_1, hfz13_2⟩ := fq3 BK379.out; obtain ⟨hcz14_0, hcz14_1, hcz14_2⟩ := cq3 BK380.out; obtain ⟨hfz14_0, hfz14_1, hfz14_2⟩ := fq3 BK380.out))
   refine bodyPost_ret (results_cell_row rfl _ _ gb380 31 #[.string a1_0, .int .i64 a1_1, .string a1_2] (0, 0) _ rfl (by (with_reducible repeat (first | refine kN ?_ _ | refine kD ?_ | refine kA ?_ _)); refine blk_put (cs := #[.string a1_0, .int .i64 a1_1, .string (⟨#[]⟩ : ByteArray)]) ?_ 2 _ rfl; (with_reducible repeat (first | refine kN ?_ _ | refine kD ?_ | refine kA ?_ _)); refine blk_put (cs := #[.string a1_0, .int .i64 0, .string (⟨#[]⟩ : ByteArray)]) ?_ 1 _ rfl; (with_reducible repeat (first | refine kN ?_ _ | refine kD ?_ | refine kA ?_ _)); refine blk_put (cs := #[.string (⟨#[]⟩ : ByteArray), .int .i64 0, .string (⟨#[]⟩ : ByteArray)]) ?_ 0 _ rfl; (with_reducible repeat (first | refine kN ?_ _ | refine kD ?_ | refine kA ?_ _)); exact BK380.out) Tryd.underlying31 rfl (by kernel_rfl)) rfl ?_
   exact ⟨ez, bq⟩
  ·rw [if_neg c9] at H
   have c9b0 : (a0.toList == ([] : List UInt8)) = false := beq_eq_false_iff_ne.mpr c9; have c9b1 : (a0.toList != ([] : List UInt8)) = true := bne_iff_ne.mpr c9; by_cases c15 : a0.size + 1 ≤ 9223372036854775807
   ·rw [if_pos c15] at H
    have c15b0 := eq_true c15; have c15b1 : decide (a0.size + 1 ≤ 9223372036854775807) = true := decide_eq_true c15; try have c15b2 : (9223372036854775807 < a0.size + 1) = False := eq_false (Nat.not_lt.2 c15)
    by_cases c16 : (a0 ++ (⟨#[47]⟩ : ByteArray)).size + a1_0.size ≤ 9223372036854775807
    ·rw [if_pos c16] at H
     have c16b0 := eq_true c16; have c16b1 : decide ((a0 ++ (⟨#[47]⟩ : ByteArray)).size + a1_0.size ≤ 9223372036854775807) = true := decide_eq_true c16; try have c16b2 : (9223372036854775807 < (a0 ++ (⟨#[47]⟩ : ByteArray)).size + a1_0.size) = False := eq_false (Nat.not_lt.2 c16)
     simp only [Option.some.injEq, Prod.mk.injEq] at H
     obtain ⟨rfl, rfl, rfl⟩ := H; go_enter Tryd.func48, Tryd.ntmps48; go_wp2_with (first | ((with_reducible refine gate_dst (N := 3) rfl ?_); refine bx 3 #[.string a1_0, .int .i64 a1_1, .string a1_2] 31 ?_; intro gb379 hg w17 hbox hb; have BK379 := am (hbox); have GW379 := gz hg; have GE379 := gz hg; replace HB := bs hb; clear hb hbox hg) | ((with_reducible refine gate_dst (N := 4) rfl ?_); refine bx 4 #[.string (⟨#[]⟩ : ByteArray), .int .i64 0, .string (⟨#[]⟩ : ByteArray)] 31 ?_; intro gb380 hg w18 hbox hb; have BK380 := am (hbox); have GW380 := gq hg; have GE380 := gq hg; replace HB := bw hb; have NB379_380 := am ((by rw [hg]; exact Nat.ne_of_lt (blk_lt (g := gb379) (o := .cells #[.string a1_0, .int .i64 a1_1, .string a1_2] 31 (0, 0)) (bk BK379.out)) : gb379 ≠ gb380)); have NB380_379 := am ((by rw [hg]; exact Nat.ne_of_gt (blk_lt (g := gb379) (o := .cells #[.string a1_0, .int .i64 a1_1, .string a1_2] 31 (0, 0)) (bk BK379.out)) : gb380 ≠ gb379)); replace BK379 := am (blk_below (g := gb379) (o := .cells #[.string a1_0, .int .i64 a1_1, .string a1_2] 31 (0, 0)) (bk BK379.out) hb); clear hb hbox hg; have hnb19 := NB379_380.out; have hnc19 := NB380_379.out; obtain ⟨hcz20_0, hcz20_1, hcz20_2⟩ := cq3 BK379.out; obtain ⟨hfz20_0, hfz20_1, hfz20_2⟩ := fq3 BK379.out; obtain ⟨hcz21_0, hcz21_1, hcz21_2⟩ := cq3 BK380.out; obtain ⟨hfz21_0, hfz21_1, hfz21_2⟩ := fq3 BK380.out))
     refine bodyPost_ret (results_cell_row rfl _ _ gb380 31 #[.string ((a0 ++ (⟨#[47]⟩ : ByteArray)) ++ a1_0), .int .i64 a1_1, .string a1_2] (0, 0) _ rfl (by (with_reducible repeat (first | refine kN ?_ _ | refine kD ?_ | refine kA ?_ _)); refine blk_put (cs := #[.string ((a0 ++ (⟨#[47]⟩ : ByteArray)) ++ a1_0), .int .i64 a1_1, .string (⟨#[]⟩ : ByteArray)]) ?_ 2 _ rfl; (with_reducible repeat (first | refine kN ?_ _ | refine kD ?_ | refine kA ?_ _)); refine blk_put (cs := #[.string ((a0 ++ (⟨#[47]⟩ : ByteArray)) ++ a1_0), .int .i64 0, .string (⟨#[]⟩ : ByteArray)]) ?_ 1 _ rfl; (with_reducible repeat (first | refine kN ?_ _ | refine kD ?_ | refine kA ?_ _)); refine blk_put (cs := #[.string (⟨#[]⟩ : ByteArray), .int .i64 0, .string (⟨#[]⟩ : ByteArray)]) ?_ 0 _ rfl; (with_reducible repeat (first | refine kN ?_ _ | refine kD ?_ | refine kA ?_ _)); refine blk_far ?_ NB380_379.out _; (with_reducible repeat (first | refine kN ?_ _ | refine kD ?_ | refine kA ?_ _)); exact BK380.out) Tryd.underlying31 rfl (by kernel_rfl)) rfl ?_
     exact ⟨ez, bq⟩
    ·rw [if_neg c16] at H
     exact absurd H (by simp)
   ·rw [if_neg c15] at H
    exact absurd H (by simp)

end Go.Proofs.YtkloomnkpfaijaaDoor.P
