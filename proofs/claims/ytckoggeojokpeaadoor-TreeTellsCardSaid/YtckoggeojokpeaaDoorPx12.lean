/- Laid by a program of this session (wip/pr), after the printer of the kit: the functions that a statement reaches as plain Lean functions, and that the calls of the machine come to them. No condition. -/
import Derived.Test.YtckoggeojokpeaaDoorPx0
import Derived.Test.YtckoggeojokpeaaDoorPx7
import Derived.Test.YtckoggeojokpeaaDoorPx8
import Derived.Test.YtckoggeojokpeaaDoorPx11
namespace Go.Proofs.YtckoggeojokpeaaDoor.P
open Go.RowKit Go.Proofs.YtckoggeojokpeaaDoorX Go.Proofs.YtckoggeojokpeaaDoorW.PrintWords Go.Proofs.YtckoggeojokpeaaDoorW.PrintLast Go.Proofs.YtckoggeojokpeaaDoorW.PrintMore
attribute [local go_sem] max2_int min2_int max_two min_two
set_option linter.unusedVariables false
set_option linter.unusedSimpArgs false

/-! ### api_Node_38: function 38 -/
mutual
def api_Node_38.l0 : Nat → List (S32) → Int → Bool → Int → Int → Int → Option ((List (S32)))
 | 0, _, _, _, _, _, _ => none
 | k + 1, x0, x1, x2, x6, x7, x8 => if x8 ≤ x1 then ((api_Node_47.f k x0 x7 x8 x2).bind fun t196 => (api_Node_38.l0 k t196 x1 x2 x6 x8 (wrap64 (x8 + x6)))) else ((api_Node_47.f k x0 x7 x1 x2).bind fun t197 => (api_Node_38.l1 k t197 x1 x2 x6))
def api_Node_38.l1 : Nat → List (S32) → Int → Bool → Int → Option ((List (S32)))
 | 0, _, _, _, _ => none
 | k + 1, x0, x1, x2, x6 => if x6 < x1 then (api_Node_38.l2 k x0 x1 x2 x6 0 (wrap64 (2 * x6))) else (some x0)
def api_Node_38.l2 : Nat → List (S32) → Int → Bool → Int → Int → Int → Option ((List (S32)))
 | 0, _, _, _, _, _, _ => none
 | k + 1, x0, x1, x2, x6, x7, x8 => if x8 ≤ x1 then ((api_Node_48.f k x0 x7 (wrap64 (x7 + x6)) x8 x2).bind fun t198 => (api_Node_38.l2 k t198 x1 x2 x6 x8 (wrap64 (x8 + (wrap64 (2 * x6)))))) else (if (wrap64 (x7 + x6)) < x1 then ((api_Node_48.f k x0 x7 (wrap64 (x7 + x6)) x1 x2).bind fun t199 => (api_Node_38.l1 k t199 x1 x2 (wrap64 (x6 * 2)))) else (api_Node_38.l1 k x0 x1 x2 (wrap64 (x6 * 2))))
end
def api_Node_38.f (k : Nat) (l0 : List (S32)) (a1 : Int) (a2 : Bool) : Option ((List (S32))) := api_Node_38.l0 k l0 a1 a2 20 0 20
theorem api_Node_38.mono_l : ∀ k, (∀ y0 y1 y2 y3 y4 y5, LeO (api_Node_38.l0 k y0 y1 y2 y3 y4 y5) (api_Node_38.l0 (k + 1) y0 y1 y2 y3 y4 y5)) ∧ (∀ y0 y1 y2 y3, LeO (api_Node_38.l1 k y0 y1 y2 y3) (api_Node_38.l1 (k + 1) y0 y1 y2 y3)) ∧ (∀ y0 y1 y2 y3 y4 y5, LeO (api_Node_38.l2 k y0 y1 y2 y3 y4 y5) (api_Node_38.l2 (k + 1) y0 y1 y2 y3 y4 y5))
 | 0 => ⟨fun _ _ _ _ _ _ r h => by simp [api_Node_38.l0] at h, fun _ _ _ _ r h => by simp [api_Node_38.l1] at h, fun _ _ _ _ _ _ r h => by simp [api_Node_38.l2] at h⟩
 | k + 1 => by
  obtain ⟨ih0, ih1, ih2⟩ := api_Node_38.mono_l k; refine ⟨?_, ?_, ?_⟩
  ·intro y0 y1 y2 y3 y4 y5
   unfold api_Node_38.l0
   repeat' first
   | (with_reducible exact ih0 _ _ _ _ _ _)
   | (with_reducible exact ih1 _ _ _ _)
   | (with_reducible exact ih2 _ _ _ _ _ _)
   | (with_reducible exact api_Node_47.mono _ _ _ _ _)
   | (with_reducible exact api_Node_48.mono _ _ _ _ _ _)
   | (with_reducible exact LeO.refl _)
   | (with_reducible exact LeO.none _)
   | (with_reducible refine LeO.ite ?_ ?_)
   | (with_reducible refine LeO.bind ?_ (fun _ => ?_))
  ·intro y0 y1 y2 y3
   unfold api_Node_38.l1
   repeat' first
   | (with_reducible exact ih0 _ _ _ _ _ _)
   | (with_reducible exact ih1 _ _ _ _)
   | (with_reducible exact ih2 _ _ _ _ _ _)
   | (with_reducible exact api_Node_47.mono _ _ _ _ _)
   | (with_reducible exact api_Node_48.mono _ _ _ _ _ _)
   | (with_reducible exact LeO.refl _)
   | (with_reducible exact LeO.none _)
   | (with_reducible refine LeO.ite ?_ ?_)
   | (with_reducible refine LeO.bind ?_ (fun _ => ?_))
  ·intro y0 y1 y2 y3 y4 y5
   unfold api_Node_38.l2
   repeat' first
   | (with_reducible exact ih0 _ _ _ _ _ _)
   | (with_reducible exact ih1 _ _ _ _)
   | (with_reducible exact ih2 _ _ _ _ _ _)
   | (with_reducible exact api_Node_47.mono _ _ _ _ _)
   | (with_reducible exact api_Node_48.mono _ _ _ _ _ _)
   | (with_reducible exact LeO.refl _)
   | (with_reducible exact LeO.none _)
   | (with_reducible refine LeO.ite ?_ ?_)
   | (with_reducible refine LeO.bind ?_ (fun _ => ?_))
theorem api_Node_38.mono : ∀ a0 a1 a2 k, LeO (api_Node_38.f k a0 a1 a2) (api_Node_38.f (k + 1) a0 a1 a2) := by
 intro a0 a1 a2 k; obtain ⟨ih0, ih1, ih2⟩ := api_Node_38.mono_l k; unfold api_Node_38.f
 repeat' first
   | (with_reducible exact ih0 _ _ _ _ _ _)
   | (with_reducible exact ih1 _ _ _ _)
   | (with_reducible exact ih2 _ _ _ _ _ _)
   | (with_reducible exact api_Node_47.mono _ _ _ _ _)
   | (with_reducible exact api_Node_48.mono _ _ _ _ _ _)
   | (with_reducible exact LeO.refl _)
   | (with_reducible exact LeO.none _)
   | (with_reducible refine LeO.ite ?_ ?_)
   | (with_reducible refine LeO.bind ?_ (fun _ => ?_))
set_option maxHeartbeats 8000000 in
set_option maxRecDepth 100000 in
theorem api_Node_38.calls (k : Nat) (P0_ : Nat → Prop) (u9000_ : Value) (l0 : List (S32)) (a1 : Int) (a2 : Bool) (r : List (S32)) (w0 w : World) (hB : Below w0.heap.size w0 w) (ho0 : Kd.R k32 32 w w0.heap.size P0_ u9000_ l0) (h : api_Node_38.f k l0 a1 a2 = some r) :
  Calls Tryd.prog 38 #[u9000_, .int .i64 a1, .func (.func 30) #[] #[]] w fun e w' => e = .returned (.tuple #[]) ∧ Kd.R k32 32 w' w0.heap.size (fun k_ => (P0_ k_ ∨ w.heap.size ≤ k_)) u9000_ r ∧ Below w0.heap.size w0 w' ∧ Kept w w' (fun k_ => P0_ k_) := by
 have HO0 := am (show Kd.R k32 32 w w0.heap.size (fun k_ => (P0_ k_ ∨ w.heap.size ≤ k_)) u9000_ l0 from Kd.R_mono ho0 (fun k_ hk => (.inl hk))); have HK := am (Kept.refl w (fun k_ => P0_ k_)); have HW0 := am hB.size; have HB := am hB; clear hB; have H : (api_Node_38.l0 k l0 a1 a2 20 0 20) = some r := h; clear h; have H' := am H; clear H; go_enter Tryd.func38, Tryd.ntmps38; go_wp2
 go_loopg [7, 8] k (fun kq v7 v8 w' => ∃ (x0_1 : List (S32)) (x7_1 : Int) (x8_1 : Int), v7 = .int .i64 x7_1 ∧ v8 = .int .i64 x8_1 ∧ Aside0 (api_Node_38.l0 kq x0_1 a1 a2 20 x7_1 x8_1 = some r) ∧ Aside0 (kq ≤ k) ∧ Aside0 (Kd.R k32 32 w' w0.heap.size (fun k_ => (P0_ k_ ∨ w.heap.size ≤ k_)) u9000_ x0_1) ∧ Aside0 (Kept w w' (fun k_ => P0_ k_)) ∧ Aside0 (Below w0.heap.size w0 w'))
 case atStart => exact ⟨(l0), (0), (20), (by first | rfl | (simp; done) | (simp [*]; done)), (by first | rfl | (simp; done) | (simp [*]; done)), H', ⟨Nat.le_refl _⟩, ⟨by (with_reducible repeat (first | apply rA | apply rN | apply rD)); exact HO0.out⟩, ⟨by repeat (first | (with_reducible first | exact HK.out | apply Kept.alloc | apply Kept.drewN | apply Kept.drew) | exact HK.out)⟩, ⟨by repeat (first | (with_reducible first | exact HB.out | apply bA | apply bN | apply bO) | exact HB.out)⟩⟩
 case round =>
  clear H'; (try clear p2); (try clear c3); obtain ⟨x0_1, x7_1, x8_1, rfl, rfl, HA, HK1, HO_0, HK, HB⟩ := hrel; cases gk with
  | zero => exact absurd HA.out (by simp [api_Node_38.l0])
  | succ k1 =>
   have H := HA.out; clear HA; simp only [api_Node_38.l0] at H
   by_cases c4 : x8_1 ≤ a1
   ·rw [if_pos c4] at H
    have c4b0 : decide (x8_1 ≤ a1) = true := decide_eq_true c4; clear c4; replace H := oB H; obtain ⟨t196, A50, H⟩ := H; replace H : (api_Node_38.l0 k1 t196 a1 a2 20 x8_1 (wrap64 (x8_1 + 20))) = some r := H; have A5 := am A50; clear A50; have H' := am H; clear H; obtain ⟨Ao6, co6, eo6⟩ := Kd.R_slice HO_0.out; subst eo6; go_wp2_with (first | ((with_reducible refine gate_callee (f := 47) rfl ?_); refine goesL_ (some 18) rfl rfl Tryd.func47 (by kernel_rfl) rfl #[.slice Ao6 x0_1.length co6, .int .i64 x7_1, .int .i64 x8_1, .func (.func 30) #[] #[]] rfl (by (try simp only [mT, mC, mN]); first | done | rfl | (simp only [lD, lT]; rfl)) ?_; (with_reducible refine (api_Node_47.calls k1 (fun k_ => some k_ = (.slice Ao6 x0_1.length co6 : Value).ownBlock) (.slice Ao6 x0_1.length co6) x0_1 x7_1 x8_1 a2 t196 w0 _ ?side1 ?side2 A5.out).mono ?_); (case side1 => repeat (first | (with_reducible first | exact HB.out | apply bA | apply bN | apply bO) | exact HB.out)); (case side2 => exact Kd.R_tight rfl HO_0.out); rintro e w7 ⟨rfl, hy0, hb, hkp⟩; refine ⟨_, rfl, ?_⟩; have n0_ := am (Kd.R_reok rfl hy0 (fun k_ e_ => HO_0.out.1 k_ e_)); have n1_ := am (Kept.then_ (S := (fun k_ => P0_ k_)) (by repeat (first | (with_reducible first | exact HK.out | apply Kept.alloc | apply Kept.drewN | apply Kept.drew) | exact HK.out)) hkp (fun k_ hs_ => (fun e_ => (HO_0.out.1 k_ e_.symm)) hs_)); have n2_ := am (hb); clear HO_0; clear HK; clear HB; have HO_0 := n0_; have HK := n1_; have HB := n2_; clear n0_ n1_ n2_; (try clear hb); (try clear hkp); (try clear hy0)))
    go_roundg k1
    case measure => have := HK1.out; omega
    case rel => exact ⟨(t196), (x8_1), (wrap64 (x8_1 + 20)), (by first | rfl | (simp; done) | (simp [*]; done)), (by first | rfl | (simp; done) | (simp [*]; done)), H', ⟨by have := HK1.out; omega⟩, ⟨by (with_reducible repeat (first | apply rA | apply rN | apply rD)); exact HO_0.out⟩, ⟨by repeat (first | (with_reducible first | exact HK.out | apply Kept.alloc | apply Kept.drewN | apply Kept.drew) | exact HK.out)⟩, ⟨by repeat (first | (with_reducible first | exact HB.out | apply bA | apply bN | apply bO) | exact HB.out)⟩⟩
   ·rw [if_neg c4] at H
    have c4b0 : decide (x8_1 ≤ a1) = false := decide_eq_false c4; clear c4; replace H := oB H; obtain ⟨t197, A80, H⟩ := H; replace H : (api_Node_38.l1 k1 t197 a1 a2 20) = some r := H; have A8 := am A80; clear A80; have H' := am H; clear H; obtain ⟨Ao9, co9, eo9⟩ := Kd.R_slice HO_0.out; subst eo9; go_wp2_with (first | ((with_reducible refine gate_callee (f := 47) rfl ?_); refine goesL_ (some 27) rfl rfl Tryd.func47 (by kernel_rfl) rfl #[.slice Ao9 x0_1.length co9, .int .i64 x7_1, .int .i64 a1, .func (.func 30) #[] #[]] rfl (by (try simp only [mT, mC, mN]); first | done | rfl | (simp only [lD, lT]; rfl)) ?_; (with_reducible refine (api_Node_47.calls k1 (fun k_ => some k_ = (.slice Ao9 x0_1.length co9 : Value).ownBlock) (.slice Ao9 x0_1.length co9) x0_1 x7_1 a1 a2 t197 w0 _ ?side1 ?side2 A8.out).mono ?_); (case side1 => repeat (first | (with_reducible first | exact HB.out | apply bA | apply bN | apply bO) | exact HB.out)); (case side2 => exact Kd.R_tight rfl HO_0.out); rintro e w10 ⟨rfl, hy0, hb, hkp⟩; refine ⟨_, rfl, ?_⟩; have n0_ := am (Kd.R_reok rfl hy0 (fun k_ e_ => HO_0.out.1 k_ e_)); have n1_ := am (Kept.then_ (S := (fun k_ => P0_ k_)) (by repeat (first | (with_reducible first | exact HK.out | apply Kept.alloc | apply Kept.drewN | apply Kept.drew) | exact HK.out)) hkp (fun k_ hs_ => (fun e_ => (HO_0.out.1 k_ e_.symm)) hs_)); have n2_ := am (hb); clear HO_0; clear HK; clear HB; have HO_0 := n0_; have HK := n1_; have HB := n2_; clear n0_ n1_ n2_; (try clear hb); (try clear hkp); (try clear hy0)))
    (try simp only [Act.put, sA, sB, sC, i64_w, i32_w])
    go_loopg [6] k1 (fun kq v6 w' => ∃ (x0_2 : List (S32)) (x6_2 : Int), v6 = .int .i64 x6_2 ∧ Aside0 (api_Node_38.l1 kq x0_2 a1 a2 x6_2 = some r) ∧ Aside0 (kq ≤ k1) ∧ Aside0 (Kd.R k32 32 w' w0.heap.size (fun k_ => (P0_ k_ ∨ w.heap.size ≤ k_)) (.slice Ao9 x0_1.length co9) x0_2) ∧ Aside0 (Kept w w' (fun k_ => P0_ k_)) ∧ Aside0 (Below w0.heap.size w0 w'))
    case atStart => exact ⟨(t197), (20), (by first | rfl | (simp; done) | (simp [*]; done)), H', ⟨Nat.le_refl _⟩, ⟨by (with_reducible repeat (first | apply rA | apply rN | apply rD)); exact HO_0.out⟩, ⟨by repeat (first | (with_reducible first | exact HK.out | apply Kept.alloc | apply Kept.drewN | apply Kept.drew) | exact HK.out)⟩, ⟨by repeat (first | (with_reducible first | exact HB.out | apply bA | apply bN | apply bO) | exact HB.out)⟩⟩
    case round =>
     clear H'; (try clear p2); (try clear c3); (try clear c4); (try clear c4b0); (try clear p6); (try clear p2); obtain ⟨x0_2, x6_2, rfl, HA, HK2, HO_0, HK, HB⟩ := hrel; have hl0_2 := (Kd.R_reads' HO_0.out).1; rw [hl0_2] at HO_0; (try simp only [hl0_2])
     cases gk with
     | zero => exact absurd HA.out (by simp [api_Node_38.l1])
     | succ k2 =>
      have H := HA.out; clear HA; simp only [api_Node_38.l1] at H
      by_cases c11 : x6_2 < a1
      ·rw [if_pos c11] at H
       have c11b0 : decide (x6_2 < a1) = true := decide_eq_true c11; clear c11; have H' := am H; clear H; go_wp2
       go_loopg [7, 8] k2 (fun kq v7 v8 w' => ∃ (x0_3 : List (S32)) (x7_3 : Int) (x8_3 : Int), v7 = .int .i64 x7_3 ∧ v8 = .int .i64 x8_3 ∧ Aside0 (api_Node_38.l2 kq x0_3 a1 a2 x6_2 x7_3 x8_3 = some r) ∧ Aside0 (kq ≤ k2) ∧ Aside0 (Kd.R k32 32 w' w0.heap.size (fun k_ => (P0_ k_ ∨ w.heap.size ≤ k_)) (.slice Ao9 x0_2.length co9) x0_3) ∧ Aside0 (Kept w w' (fun k_ => P0_ k_)) ∧ Aside0 (Below w0.heap.size w0 w'))
       case atStart => exact ⟨(x0_2), (0), (wrap64 (2 * x6_2)), (by first | rfl | (simp; done) | (simp [*]; done)), (by first | rfl | (simp; done) | (simp [*]; done)), H', ⟨Nat.le_refl _⟩, ⟨by (try simp only [hl0_2]); (with_reducible repeat (first | apply rA | apply rN | apply rD)); exact HO_0.out⟩, ⟨by repeat (first | (with_reducible first | exact HK.out | apply Kept.alloc | apply Kept.drewN | apply Kept.drew) | exact HK.out)⟩, ⟨by repeat (first | (with_reducible first | exact HB.out | apply bA | apply bN | apply bO) | exact HB.out)⟩⟩
       case round =>
        clear H'; (try clear c1); (try clear p2); (try clear c3); (try clear c4); (try clear c4b0); (try clear p6); (try clear c11); (try clear c11b0); (try clear p2); (try clear p6); obtain ⟨x0_3, x7_3, x8_3, rfl, rfl, HA, HK3, HO_0, HK, HB⟩ := hrel; have hl0_3 := (Kd.R_reads' HO_0.out).1; rw [hl0_3] at HO_0; (try simp only [hl0_3])
        cases gk with
        | zero => exact absurd HA.out (by simp [api_Node_38.l2])
        | succ k3 =>
         have H := HA.out; clear HA; simp only [api_Node_38.l2] at H
         by_cases c12 : x8_3 ≤ a1
         ·rw [if_pos c12] at H
          have c12b0 : decide (x8_3 ≤ a1) = true := decide_eq_true c12; clear c12; replace H := oB H; obtain ⟨t198, A130, H⟩ := H; replace H : (api_Node_38.l2 k3 t198 a1 a2 x6_2 x8_3 (wrap64 (x8_3 + (wrap64 (2 * x6_2))))) = some r := H; have A13 := am A130; clear A130; have H' := am H; clear H; go_wp2_with (first | ((with_reducible refine gate_callee (f := 48) rfl ?_); refine goesL_ (some 43) rfl rfl Tryd.func48 (by kernel_rfl) rfl #[.slice Ao9 x0_3.length co9, .int .i64 x7_3, .int .i64 (wrap64 (x7_3 + x6_2)), .int .i64 x8_3, .func (.func 30) #[] #[]] rfl (by (try simp only [mT, mC, mN]); first | done | rfl | (simp only [lD, lT]; rfl)) ?_; (with_reducible refine (api_Node_48.calls k3 (fun k_ => some k_ = (.slice Ao9 x0_3.length co9 : Value).ownBlock) (.slice Ao9 x0_3.length co9) x0_3 x7_3 (wrap64 (x7_3 + x6_2)) x8_3 a2 t198 w0 _ ?side1 ?side2 A13.out).mono ?_); (case side1 => repeat (first | (with_reducible first | exact HB.out | apply bA | apply bN | apply bO) | exact HB.out)); (case side2 => exact Kd.R_tight rfl HO_0.out); rintro e w14 ⟨rfl, hy0, hb, hkp⟩; refine ⟨_, rfl, ?_⟩; have n0_ := am (Kd.R_reok rfl hy0 (fun k_ e_ => HO_0.out.1 k_ e_)); have n1_ := am (Kept.then_ (S := (fun k_ => P0_ k_)) (by repeat (first | (with_reducible first | exact HK.out | apply Kept.alloc | apply Kept.drewN | apply Kept.drew) | exact HK.out)) hkp (fun k_ hs_ => (fun e_ => (HO_0.out.1 k_ e_.symm)) hs_)); have n2_ := am (hb); clear HO_0; clear HK; clear HB; have HO_0 := n0_; have HK := n1_; have HB := n2_; clear n0_ n1_ n2_; (try clear hb); (try clear hkp); (try clear hy0)))
          (try simp only [← hl0_3])
          go_roundg k3
          case measure => have := HK1.out; have := HK2.out; have := HK3.out; omega
          case rel => exact ⟨(t198), (x8_3), (wrap64 (x8_3 + (wrap64 (2 * x6_2)))), (by first | rfl | (simp; done) | (simp [*]; done)), (by first | rfl | (simp; done) | (simp [*]; done)), H', ⟨by have := HK1.out; have := HK2.out; have := HK3.out; omega⟩, ⟨by (try simp only [hl0_2]); (try simp only [hl0_3]); (with_reducible repeat (first | apply rA | apply rN | apply rD)); exact HO_0.out⟩, ⟨by repeat (first | (with_reducible first | exact HK.out | apply Kept.alloc | apply Kept.drewN | apply Kept.drew) | exact HK.out)⟩, ⟨by repeat (first | (with_reducible first | exact HB.out | apply bA | apply bN | apply bO) | exact HB.out)⟩⟩
         ·rw [if_neg c12] at H
          have c12b0 : decide (x8_3 ≤ a1) = false := decide_eq_false c12; clear c12; by_cases c15 : (wrap64 (x7_3 + x6_2)) < a1
          ·rw [if_pos c15] at H
           have c15b0 : decide ((wrap64 (x7_3 + x6_2)) < a1) = true := decide_eq_true c15; clear c15; replace H := oB H; obtain ⟨t199, A160, H⟩ := H; replace H : (api_Node_38.l1 k3 t199 a1 a2 (wrap64 (x6_2 * 2))) = some r := H; have A16 := am A160; clear A160; have H' := am H; clear H; go_wp2_with (first | ((with_reducible refine gate_callee (f := 48) rfl ?_); refine goesL_ (some 60) rfl rfl Tryd.func48 (by kernel_rfl) rfl #[.slice Ao9 x0_3.length co9, .int .i64 x7_3, .int .i64 (wrap64 (x7_3 + x6_2)), .int .i64 a1, .func (.func 30) #[] #[]] rfl (by (try simp only [mT, mC, mN]); first | done | rfl | (simp only [lD, lT]; rfl)) ?_; (with_reducible refine (api_Node_48.calls k3 (fun k_ => some k_ = (.slice Ao9 x0_3.length co9 : Value).ownBlock) (.slice Ao9 x0_3.length co9) x0_3 x7_3 (wrap64 (x7_3 + x6_2)) a1 a2 t199 w0 _ ?side1 ?side2 A16.out).mono ?_); (case side1 => repeat (first | (with_reducible first | exact HB.out | apply bA | apply bN | apply bO) | exact HB.out)); (case side2 => exact Kd.R_tight rfl HO_0.out); rintro e w17 ⟨rfl, hy0, hb, hkp⟩; refine ⟨_, rfl, ?_⟩; have n0_ := am (Kd.R_reok rfl hy0 (fun k_ e_ => HO_0.out.1 k_ e_)); have n1_ := am (Kept.then_ (S := (fun k_ => P0_ k_)) (by repeat (first | (with_reducible first | exact HK.out | apply Kept.alloc | apply Kept.drewN | apply Kept.drew) | exact HK.out)) hkp (fun k_ hs_ => (fun e_ => (HO_0.out.1 k_ e_.symm)) hs_)); have n2_ := am (hb); clear HO_0; clear HK; clear HB; have HO_0 := n0_; have HK := n1_; have HB := n2_; clear n0_ n1_ n2_; (try clear hb); (try clear hkp); (try clear hy0)))
           (try simp only [← hl0_2, ← hl0_3])
           go_roundg k3
           case measure => have := HK1.out; have := HK2.out; have := HK3.out; omega
           case rel => exact ⟨(t199), (wrap64 (x6_2 * 2)), (by first | rfl | (simp; done) | (simp [*]; done)), H', ⟨by have := HK1.out; have := HK2.out; have := HK3.out; omega⟩, ⟨by (try simp only [hl0_2]); (try simp only [hl0_3]); (with_reducible repeat (first | apply rA | apply rN | apply rD)); exact HO_0.out⟩, ⟨by repeat (first | (with_reducible first | exact HK.out | apply Kept.alloc | apply Kept.drewN | apply Kept.drew) | exact HK.out)⟩, ⟨by repeat (first | (with_reducible first | exact HB.out | apply bA | apply bN | apply bO) | exact HB.out)⟩⟩
          ·rw [if_neg c15] at H
           have c15b0 : decide ((wrap64 (x7_3 + x6_2)) < a1) = false := decide_eq_false c15; clear c15; have H' := am H; clear H; go_wp2
           (try simp only [← hl0_2, ← hl0_3])
           go_roundg k3
           case measure => have := HK1.out; have := HK2.out; have := HK3.out; omega
           case rel => exact ⟨(x0_3), (wrap64 (x6_2 * 2)), (by first | rfl | (simp; done) | (simp [*]; done)), H', ⟨by have := HK1.out; have := HK2.out; have := HK3.out; omega⟩, ⟨by (try simp only [hl0_2]); (try simp only [hl0_3]); (with_reducible repeat (first | apply rA | apply rN | apply rD)); exact HO_0.out⟩, ⟨by repeat (first | (with_reducible first | exact HK.out | apply Kept.alloc | apply Kept.drewN | apply Kept.drew) | exact HK.out)⟩, ⟨by repeat (first | (with_reducible first | exact HB.out | apply bA | apply bN | apply bO) | exact HB.out)⟩⟩
      ·rw [if_neg c11] at H
       have c11b0 : decide (x6_2 < a1) = false := decide_eq_false c11; clear c11; obtain rfl := Option.some.inj H; go_wp2
       first | go_end0 | ((try simp only [Exit.inBlock, Exit.then]); refine bodyPost_ret (results_none rfl _ _ _) rfl ?_)
       exact ⟨by first | rfl | (simp [eN, eS] <;> rfl) | (simp [*, eN, eS] <;> rfl), (by first | exact (by (with_reducible repeat (first | apply rA | apply rN | apply rD)); exact HO_0.out) | (simp only [hl0_2]; exact (by (with_reducible repeat (first | apply rA | apply rN | apply rD)); exact HO_0.out))), by repeat (first | (with_reducible first | exact HB.out | apply bA | apply bN | apply bO) | exact HB.out), by repeat (first | (with_reducible first | exact HK.out | apply Kept.alloc | apply Kept.drewN | apply Kept.drew) | exact HK.out)⟩

/-! ### api_Node_29: function 29 -/
def api_Node_29.f (k : Nat) (l0 : List (S32)) (a1 : Bool) : Option ((List (S32))) := (api_Node_38.f k l0 (l0.length : Int) a1).bind fun t200 => (some t200)
theorem api_Node_29.mono : ∀ a0 a1 k, LeO (api_Node_29.f k a0 a1) (api_Node_29.f (k + 1) a0 a1) := by
 intro a0 a1 k; unfold api_Node_29.f
 repeat' first
   | (with_reducible exact api_Node_38.mono _ _ _ _)
   | (with_reducible exact LeO.refl _)
   | (with_reducible exact LeO.none _)
   | (with_reducible refine LeO.ite ?_ ?_)
   | (with_reducible refine LeO.bind ?_ (fun _ => ?_))
set_option maxHeartbeats 8000000 in
set_option maxRecDepth 100000 in
theorem api_Node_29.calls (k : Nat) (P0_ : Nat → Prop) (u9000_ : Value) (l0 : List (S32)) (a1 : Bool) (r : List (S32)) (w0 w : World) (hB : Below w0.heap.size w0 w) (ho0 : Kd.R k32 32 w w0.heap.size P0_ u9000_ l0) (h : api_Node_29.f k l0 a1 = some r) :
  Calls Tryd.prog 29 #[u9000_, .func (.func 30) #[] #[]] w fun e w' => e = .returned (.tuple #[]) ∧ Kd.R k32 32 w' w0.heap.size (fun k_ => (P0_ k_ ∨ w.heap.size ≤ k_)) u9000_ r ∧ Below w0.heap.size w0 w' ∧ Kept w w' (fun k_ => P0_ k_) := by
 have HO0 := am (show Kd.R k32 32 w w0.heap.size (fun k_ => (P0_ k_ ∨ w.heap.size ≤ k_)) u9000_ l0 from Kd.R_mono ho0 (fun k_ hk => (.inl hk))); have HK := am (Kept.refl w (fun k_ => P0_ k_)); have HW0 := am hB.size; have HB := am hB; clear hB; have H : ((api_Node_38.f k l0 (l0.length : Int) a1).bind fun t200 => (some t200)) = some r := h; clear h; replace H := oB H; obtain ⟨t200, A30, H⟩ := H; replace H : (some t200) = some r := H; have A3 := am A30; clear A30; obtain rfl := Option.some.inj H; obtain ⟨Ao4, co4, eo4⟩ := Kd.R_slice HO0.out; subst eo4; go_enter Tryd.func29, Tryd.ntmps29; go_wp2_with (first | ((with_reducible refine gate_callee (f := 38) rfl ?_); refine goesL_ (some 8) rfl rfl Tryd.func38 (by kernel_rfl) rfl #[.slice Ao4 l0.length co4, .int .i64 (l0.length : Int), .func (.func 30) #[] #[]] rfl (by (try simp only [mT, mC, mN]); first | done | rfl | (simp only [lD, lT]; rfl)) ?_; (with_reducible refine (api_Node_38.calls k (fun k_ => some k_ = (.slice Ao4 l0.length co4 : Value).ownBlock) (.slice Ao4 l0.length co4) l0 (l0.length : Int) a1 t200 w0 _ ?side1 ?side2 A3.out).mono ?_); (case side1 => repeat (first | (with_reducible first | exact HB.out | apply bA | apply bN | apply bO) | exact HB.out)); (case side2 => exact Kd.R_tight rfl HO0.out); rintro e w5 ⟨rfl, hy0, hb, hkp⟩; refine ⟨_, rfl, ?_⟩; have n0_ := am (Kd.R_reok rfl hy0 (fun k_ e_ => HO0.out.1 k_ e_)); have n1_ := am (Kept.then_ (S := (fun k_ => P0_ k_)) (by repeat (first | (with_reducible first | exact HK.out | apply Kept.alloc | apply Kept.drewN | apply Kept.drew) | exact HK.out)) hkp (fun k_ hs_ => (fun e_ => (HO0.out.1 k_ e_.symm)) hs_)); have n2_ := am (hb); clear HO0; clear HK; clear HB; have HO0 := n0_; have HK := n1_; have HB := n2_; clear n0_ n1_ n2_; (try clear hb); (try clear hkp); (try clear hy0)))
 first | go_end0 | ((try simp only [Exit.inBlock, Exit.then]); refine bodyPost_ret (results_none rfl _ _ _) rfl ?_)
 exact ⟨by first | rfl | (simp [eN, eS] <;> rfl) | (simp [*, eN, eS] <;> rfl), by (with_reducible repeat (first | apply rA | apply rN | apply rD)); exact HO0.out, by repeat (first | (with_reducible first | exact HB.out | apply bA | apply bN | apply bO) | exact HB.out), by repeat (first | (with_reducible first | exact HK.out | apply Kept.alloc | apply Kept.drewN | apply Kept.drew) | exact HK.out)⟩

/-! ### tree_Sort: function 15 -/
def tree_Sort.f (k : Nat) (l0 : List (S32)) : Option ((List (S32))) := (api_Node_28.f l0).bind fun t201 => ((api_Node_29.f k t201 true).bind fun t204 => (some t204))
theorem tree_Sort.mono : ∀ a0 k, LeO (tree_Sort.f k a0) (tree_Sort.f (k + 1) a0) := by
 intro a0 k; unfold tree_Sort.f
 repeat' first
   | (with_reducible exact api_Node_29.mono _ _ _)
   | (with_reducible exact LeO.refl _)
   | (with_reducible exact LeO.none _)
   | (with_reducible refine LeO.ite ?_ ?_)
   | (with_reducible refine LeO.bind ?_ (fun _ => ?_))
set_option maxHeartbeats 8000000 in
set_option maxRecDepth 100000 in
theorem tree_Sort.calls (k : Nat) (A0 : Option Addr) (c0 : Nat) (l0 : List (S32)) (r : List (S32)) (w : World) (hr0 : Kd.C k32 w A0 l0.length l0) (hc0 : l0.length ≤ c0) (h : tree_Sort.f k l0 = some r) :
  Calls Tryd.prog 15 #[.slice A0 l0.length c0] w fun e w' => ∃ v0_ : Value, e = .returned (v0_) ∧ Kd.R k32 32 w' w.heap.size (fun _ => True) v0_ r ∧ Below w.heap.size w w' := by
 have HR0 := am hr0; have HC0 := am hc0; clear hr0 hc0; have HB := am (Below.refl w.heap.size w); have H : ((api_Node_28.f l0).bind fun t201 => ((api_Node_29.f k t201 true).bind fun t204 => (some t204))) = some r := h; clear h; replace H := oB H; obtain ⟨t201, A20, H⟩ := H; replace H : ((api_Node_29.f k t201 true).bind fun t204 => (some t204)) = some r := H; have A2 := am A20; clear A20; replace H := oB H; obtain ⟨t204, A30, H⟩ := H; replace H : (some t204) = some r := H; have A3 := am A30; clear A30; obtain rfl := Option.some.inj H; go_enter Tryd.func15, Tryd.ntmps15; go_wp2_with (first | ((with_reducible refine gate_callee (f := 28) rfl ?_); refine goesL_ (some 5) rfl rfl Tryd.func28 (by kernel_rfl) rfl #[.slice A0 l0.length c0] rfl (by (try simp only [mT, mC, mN]); first | done | rfl | (simp only [lD, lT]; rfl)) ?_; (with_reducible refine (api_Node_28.calls _ _ l0 t201 _ ?side1 ?side2 A2.out).mono ?_); (case side1 => repeat (first | exact HR0.out | (with_reducible refine cA ?_ _) | (with_reducible refine cN ?_ _) | (with_reducible refine cD ?_))); (case side2 => exact HC0.out); rintro e w4 ⟨v202, rfl, ho0, hb⟩; refine ⟨_, rfl, ?_⟩; have n0_ := am (Kd.R_lower ho0 (below_size (by repeat (first | (with_reducible first | exact HB.out | apply bA | apply bN | apply bO) | exact HB.out)))); have n1_ := am (below_step (by repeat (first | (with_reducible first | exact HB.out | apply bA | apply bN | apply bO) | exact HB.out)) hb); clear HB; have HO203 := n0_; have HB := n1_; clear n0_ n1_; (try clear ho0); obtain ⟨Ao5, co5, eo5⟩ := Kd.R_slice HO203.out; subst eo5) | ((with_reducible refine gate_callee (f := 29) rfl ?_); refine goesL_ (some 7) rfl rfl Tryd.func29 (by kernel_rfl) rfl #[.slice Ao5 t201.length co5, .func (.func 30) #[] #[]] rfl (by (try simp only [mT, mC, mN]); first | done | rfl | (simp only [lD, lT]; rfl)) ?_; (with_reducible refine (api_Node_29.calls k (fun k_ => some k_ = (.slice Ao5 t201.length co5 : Value).ownBlock) (.slice Ao5 t201.length co5) t201 true t204 w _ ?side1 ?side2 A3.out).mono ?_); (case side1 => repeat (first | (with_reducible first | exact HB.out | apply bA | apply bN | apply bO) | exact HB.out)); (case side2 => exact Kd.R_tight rfl HO203.out); rintro e w6 ⟨rfl, hy0, hb, hkp⟩; refine ⟨_, rfl, ?_⟩; have n0_ := am (Kd.R_reok rfl hy0 (fun k_ e_ => HO203.out.1 k_ e_)); have n1_ := am (hb); clear HO203; clear HB; have HO203 := n0_; have HB := n1_; clear n0_ n1_; (try clear hb); (try clear hkp); (try clear hy0)))
 go_ret; exact ⟨_, by first | rfl | (simp [eN, eS] <;> rfl) | (simp [*, eN, eS] <;> rfl), by (with_reducible repeat (first | apply rA | apply rN | apply rD)); exact HO203.out, by repeat (first | (with_reducible first | exact HB.out | apply bA | apply bN | apply bO) | exact HB.out)⟩

def hogsheadlaw0_LendNodes.f (l0 : List S32) : Option (List S32) := if l0.length ≤ 1000000 then some l0 else none
/-- Three cells again and again. -/
def mkN (j : Nat) : List Value := (List.replicate j [Value.string ⟨#[108, 101, 110, 116]⟩, Value.int .i64 0, Value.string ⟨#[]⟩]).flatten
theorem mkN_len (j : Nat) : (mkN j).length = 3 * j := by
 unfold mkN
 induction j with
 | zero => rfl
 | succ j ih => rw [List.replicate_succ, List.flatten_cons, List.length_append, ih]; simp; omega
theorem mkN_succ (j : Nat) : mkN (j + 1) = mkN j ++ [Value.string ⟨#[108, 101, 110, 116]⟩, Value.int .i64 0, Value.string ⟨#[]⟩] := by
 unfold mkN
 rw [List.replicate_succ', List.flatten_append]; simp
set_option maxHeartbeats 1000000 in
theorem hogsheadlaw0_LendNodes.calls (A0 : Option Addr) (c0 : Nat) (l0 : List S32) (r : List S32) (w : World) (hr0 : Kd.C k32 w A0 l0.length l0) (hc0 : l0.length ≤ c0) (h : hogsheadlaw0_LendNodes.f l0 = some r) :
  Calls Tryd.prog 17 #[.slice A0 l0.length c0] w fun e w' => ∃ v0_ : Value, e = .returned (v0_) ∧ Kd.R k32 32 w' w.heap.size (fun _ => True) v0_ r ∧ Below w.heap.size w w' ∧ Room 32 3 [.string ⟨#[108, 101, 110, 116]⟩, .int .i64 0, .string ⟨#[]⟩] w' v0_ := by
 unfold hogsheadlaw0_LendNodes.f at h
 by_cases hl : l0.length ≤ 1000000
 case neg => rw [if_neg hl] at h; cases h
 rw [if_pos hl] at h; injection h with h; subst h; have hu := Tryd.underlying32; obtain ⟨i, hi, hi2⟩ := Option.map_eq_some_iff.1 (show (Tryd.prog.info? 32).map (fun i => (i.zero, i.size, i.bytes)) = some (some (.agg #[(.string ⟨#[]⟩), (.int .i64 0), (.string ⟨#[]⟩)]), 3, 40) by kernel_rfl); simp only [Prod.mk.injEq] at hi2
 obtain ⟨hz, hsz, hby⟩ := hi2; obtain ⟨zs, hzs, hmake⟩ : ∃ zs : Array Value, zs.size = (l0.length + 3) * 3 ∧ ∀ W : World, (Instr.makeSlice 22 (.int .i64 0) (.int .i64 ((l0.length : Int) + 3))).run Tryd.prog W = .ok (.slice (some ⟨W.heap.size, 0, none⟩) 0 (l0.length + 3)) (W.alloc (.cells zs 32)) := by
  refine ⟨madeCells (Value.agg #[(.string ⟨#[]⟩), (.int .i64 0), (.string ⟨#[]⟩)]).cells ((l0.length + 3) * 3), size_madeCells _ _, fun W => ?_⟩
  have := run_make W 22 32 i (.agg #[(.string ⟨#[]⟩), (.int .i64 0), (.string ⟨#[]⟩)]) Tryd.underlying22 hi hz .i64 .i64 0 ((l0.length : Int) + 3) (by omega) (by omega) (by rw [hby]; omega) (by omega); rw [this, hsz, show ((l0.length : Int) + 3).toNat = l0.length + 3 by omega]; rfl
 have hwr : IntKind.i64.wrap ((l0.length : Int) + 3) = (l0.length : Int) + 3 := by rw [IntKind.wrap_i64]; omega
 obtain ⟨inner, hrep, hcells⟩ : ∃ inner : List Value, Reps (fun (x : S32) cs => cs = [Value.string x.f0, Value.int .i64 x.f1, Value.string x.f2]) 3 l0 inner ∧ ∀ a, A0 = some a → ∀ j u, inner[j]? = some u → w.cell? (a.add j) = some u := by
  rcases Nat.eq_zero_or_pos l0.length with h0 | h0
  ·obtain rfl := List.eq_nil_of_length_eq_zero h0
   exact ⟨[], Reps.none _ _, fun a _ j u hu => by simp at hu⟩
  ·obtain ⟨ad, rfl, _⟩ := hr0.2.2 h0
   obtain ⟨inner, h1, h2⟩ := ReadsRow.inner_ hr0; exact ⟨inner, h1.imp_ (fun p c hp => k32_open hp), fun a ha => by cases ha; exact h2⟩
 have hil : inner.length = l0.length * 3 := hrep.1; have hA : 0 < l0.length → A0 ≠ none := fun h0 => by
  obtain ⟨ad, rfl, _⟩ := hr0.2.2 h0; simp
 have hone : ∀ u ∈ inner, u.oneCell' = true := by
  intro u hu; obtain ⟨j, hj, rfl⟩ := List.getElem_of_mem hu; have hjl : j / 3 < l0.length := by omega
  have h1 := hrep.2 (j / 3) (l0[j / 3]'hjl) (List.getElem?_eq_getElem hjl); have h2 : ((inner.drop (j / 3 * 3)).take 3)[j % 3]? = some inner[j] := by
   rw [List.getElem?_take_of_lt (by omega), List.getElem?_drop, show j / 3 * 3 + j % 3 = j by omega, List.getElem?_eq_getElem hj]
  rw [h1] at h2; have h3 : j % 3 = 0 ∨ j % 3 = 1 ∨ j % 3 = 2 := by omega
  rcases h3 with h3 | h3 | h3 <;> rw [h3] at h2
  ·rw [← Option.some.inj (show some (Value.string _) = some inner[j] from h2)]; rfl
  ·rw [← Option.some.inj (show some (Value.int _ _) = some inner[j] from h2)]; rfl
  ·rw [← Option.some.inj (show some (Value.string _) = some inner[j] from h2)]; rfl
 obtain ⟨W2, happ, hBW, rest0, hrest0, hblk⟩ : ∃ W2, (Builtin.append_ #[22, 22] 22 #[.slice (some ⟨w.heap.size, 0, none⟩) 0 (l0.length + 3), .slice A0 l0.length c0]).run Tryd.prog (w.alloc (.cells zs 32)) = .ok (.slice (some ⟨w.heap.size, 0, none⟩) l0.length (l0.length + 3)) W2 ∧ Below w.heap.size w W2 ∧
   ∃ rest : List Value, rest.length = 9 ∧ W2.heap[w.heap.size]? = some (.cells (inner ++ rest).toArray 32 (0, 0)) := by
  have hzl : zs.toList.length = (l0.length + 3) * 3 := by rw [Array.length_toList]; exact hzs
  have hb0 : (w.alloc (.cells zs 32)).heap[w.heap.size]? = some (.cells ([] ++ (zs.toList.take (l0.length * 3) ++ zs.toList.drop (l0.length * 3))).toArray 32 (0, 0)) := by
   rw [heap_alloc_new, List.nil_append, List.take_append_drop]
  have hr := run_append_into (P := Tryd.prog) (w.alloc (.cells zs 32)) 22 22 32 i Tryd.underlying22 hi w.heap.size 0 0 (l0.length + 3) A0 l0.length c0 inner (by rw [hil, hsz]) hA
   (fun a ha j u hu => by
    have h1 := hcells a ha j u hu; have h2 := (Below.refl w.heap.size w).alloc (Nat.le_refl _) (.cells zs 32); exact (h2.cell (wB w _ h1)).trans h1) hone (by omega)
   (fun j hj => by
    rw [show 0 + 0 * i.size + j = j by omega, blk_cell hb0 j, List.nil_append, List.take_append_drop, List.getElem?_toArray, List.getElem?_eq_getElem (by rw [hzl]; omega)]; rfl)
   (fun j hj => blk_frozen hb0 _)
  rw [show 0 + l0.length = l0.length by omega, show 0 + 0 * i.size = 0 by omega] at hr; refine ⟨_, hr, below_setCells _ _ _ ((Below.refl w.heap.size w).alloc (Nat.le_refl _) _) (Nat.le_refl _), zs.toList.drop (l0.length * 3), by rw [lD, hzl]; omega, ?_⟩
  exact blk_setCells inner 0 _ [] (zs.toList.take (l0.length * 3)) (zs.toList.drop (l0.length * 3)) hb0 rfl (by rw [lT, hzl, hil]; omega)
 go_enter Tryd.func17, Tryd.ntmps17; go_wp2_with (at_builtin; refine wpList_append_known rfl _ _ _ _ rfl _ _ rfl rfl _ _ happ ?_)
 clear happ hmake; have HW := am hblk; have HBW := am hBW; clear hblk hBW; go_loopw [5] (fun v5 wr => ∃ j : Nat, j ≤ 3 ∧ v5 = .int .i64 j ∧ Aside0 (∃ rest : List Value, rest.length = 3 * (3 - j) ∧ wr.heap[w.heap.size]? = some (.cells (inner ++ (mkN j ++ rest)).toArray 32 (0, 0))) ∧ Aside0 (Below w.heap.size w wr)) (fun v _ => 3 - (intOf v).toNat)
 case atStart => exact ⟨0, by omega, rfl, ⟨rest0, hrest0, HW.out⟩, HBW⟩
 case round =>
  obtain ⟨j, hj, rfl, HK, HB⟩ := hrel; by_cases hjl : j < 3
  ·obtain ⟨rest, hrl, hb⟩ := HK.out
   have HKK := am hb; obtain ⟨r0, r1, r2, rest', rfl⟩ : ∃ r0 r1 r2 rest', rest = r0 :: r1 :: r2 :: rest' := by
    rcases rest with _ | ⟨r0, _ | ⟨r1, _ | ⟨r2, rest'⟩⟩⟩
    ·simp at hrl; omega
    ·simp at hrl; omega
    ·simp at hrl; omega
    ·exact ⟨_, _, _, _, rfl⟩
   have hml := mkN_len j; have hpl : (inner ++ mkN j).length = l0.length * 3 + j * 3 := by rw [List.length_append, hil, hml]; omega
   have hce : ∀ q, q < 3 → ∃ u, wr.cell? ⟨w.heap.size, l0.length * 3 + j * 3 + q, none⟩ = some u := fun q hq => by
    have hlt : l0.length * 3 + j * 3 + q < (inner ++ (mkN j ++ (r0 :: r1 :: r2 :: rest'))).length := by
     rw [← List.append_assoc, List.length_append, hpl]; simp
     omega
    exact ⟨_, by rw [blk_cell hb, List.getElem?_toArray, List.getElem?_eq_getElem hlt]⟩
   obtain ⟨u0, hcell0⟩ := hce 0 (by omega); obtain ⟨u1, hcell1⟩ := hce 1 (by omega); obtain ⟨u2, hcell2⟩ := hce 2 (by omega); rw [Nat.add_zero] at hcell0; have hfz0 : wr.frozen? ⟨w.heap.size, l0.length * 3 + j * 3, none⟩ = false := blk_frozen hb _; have hfz1 : wr.frozen? ⟨w.heap.size, l0.length * 3 + j * 3 + 1, none⟩ = false := blk_frozen hb _; have hfz2 : wr.frozen? ⟨w.heap.size, l0.length * 3 + j * 3 + 2, none⟩ = false := blk_frozen hb _; have c1 : decide ((j : Int) < 3) = true := decide_eq_true (by omega); have p1 : (0 ≤ (j : Int)) = True := eq_true (by omega); have q1 : ((j : Int) < 3) = True := eq_true (by omega); have HRL := am hrl; clear hb hce hrl HK; go_wp2
   refine ⟨⟨j + 1, by omega, by rw [show ((j : Int) + 1) = ((j + 1 : Nat) : Int) by omega], ⟨rest', ?_, ?_⟩, ⟨below_set (below_set (below_set HB.out (Nat.le_refl _)) (Nat.le_refl _)) (Nat.le_refl _)⟩⟩, by simp only [intOf]; omega⟩
   ·have := HRL.out
    simp only [List.length_cons] at this
    omega
   ·have h1 := blk_setCells [Value.string ⟨#[108, 101, 110, 116]⟩, Value.int .i64 0, Value.string ⟨#[]⟩] (l0.length * 3 + j * 3) wr (inner ++ mkN j) [r0, r1, r2] rest' (by rw [List.append_assoc]; exact HKK.out) hpl rfl
    rw [mkN_succ, List.append_assoc (mkN j), ← List.append_assoc inner]; exact h1
  ·have c1 : decide ((j : Int) < 3) = false := decide_eq_false (by omega)
   go_wp2
   go_ret; obtain rfl : j = 3 := by omega
   obtain ⟨rest, hrl, hb⟩ := HK.out; obtain rfl : rest = [] := List.eq_nil_of_length_eq_zero (by omega); refine ⟨_, rfl, ⟨fun _ _ => trivial, inner, ⟨hil, .inr ⟨w.heap.size, l0.length + 3, _, rfl, Nat.le_refl _, hb, by omega, by simp only [maxLen]; omega, ?_, ?_⟩⟩, hrep.imp_ (fun p c hp => by rw [hp]; exact k32_mkM _ _ _ p)⟩, HB.out, ⟨w.heap.size, l0.length, l0.length + 3, _, rfl, Nat.le_refl _, hl, hb, ?_⟩⟩
   ·show (inner ++ (mkN 3 ++ [])).length = (l0.length + 3) * 3
    rw [List.length_append, List.length_append, hil, mkN_len]; simp
    omega
   ·show (inner ++ (mkN 3 ++ [])).take (l0.length * 3) = inner
    rw [← hil]; exact List.take_left
   ·show (inner ++ (mkN 3 ++ [])).drop (l0.length * 3) = _
    rw [← hil, List.drop_left]; rfl

end Go.Proofs.YtckoggeojokpeaaDoor.P
