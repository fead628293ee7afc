/- Laid by a program of this session (wip/pr), after the printer of the kit: the functions that a statement reaches as plain Lean functions, and that the calls of the machine come to them. No condition. -/
import Derived.Test.YtcijimdogddbeaaDoorPx0
import Derived.Test.YtcijimdogddbeaaDoorPx12
namespace Go.Proofs.YtcijimdogddbeaaDoor.P
open Go.RowKit Go.Proofs.YtcijimdogddbeaaDoorX Go.Proofs.YtcijimdogddbeaaDoorW.PrintWords Go.Proofs.YtcijimdogddbeaaDoorW.PrintLast Go.Proofs.YtcijimdogddbeaaDoorW.PrintMore
attribute [local go_sem] max2_int min2_int max_two min_two
set_option linter.unusedVariables false
set_option linter.unusedSimpArgs false

/-! ### api_Node_70: function 70 -/
mutual
def api_Node_70.l0 : Nat → List (S46) → Int → Int → Int → Option ((List (S46)))
 | 0, _, _, _, _ => none
 | k + 1, x0, x1, x2, x8 => if x8 < x2 then (api_Node_70.l1 k x0 x1 x2 x8 x8) else (some x0)
def api_Node_70.l1 : Nat → List (S46) → Int → Int → Int → Int → Option ((List (S46)))
 | 0, _, _, _, _, _ => none
 | k + 1, x0, x1, x2, x8, x9 => if x9 > x1 then (if 0 ≤ x9 then (if x9 < (x0.length : Int) then (if 0 ≤ (wrap64 (x9 - 1)) then (if (wrap64 (x9 - 1)) < (x0.length : Int) then ((tree_order.f ((rd_T46 x0 x9).f0) ((rd_T46 x0 x9).f1) ((rd_T46 x0 x9).f2) ((rd_T46 x0 (wrap64 (x9 - 1))).f0) ((rd_T46 x0 (wrap64 (x9 - 1))).f1) ((rd_T46 x0 (wrap64 (x9 - 1))).f2)).bind fun t294 => (if t294 < 0 then (api_Node_70.l1 k ((x0.set (x9 : Int).toNat (⟨(rd_T46 x0 (wrap64 (x9 - 1))).f0, (rd_T46 x0 (wrap64 (x9 - 1))).f1, (rd_T46 x0 (wrap64 (x9 - 1))).f2⟩ : S46)).set ((wrap64 (x9 - 1)) : Int).toNat (⟨(rd_T46 x0 x9).f0, (rd_T46 x0 x9).f1, (rd_T46 x0 x9).f2⟩ : S46)) x1 x2 x8 (wrap64 (x9 - 1))) else (api_Node_70.l0 k x0 x1 x2 (wrap64 (x8 + 1))))) else (none)) else (none)) else (none)) else (none)) else (api_Node_70.l0 k x0 x1 x2 (wrap64 (x8 + 1)))
end
def api_Node_70.f (k : Nat) (l0 : List (S46)) (a1 : Int) (a2 : Int) (a3 : Bool) : Option ((List (S46))) := api_Node_70.l0 k l0 a1 a2 (wrap64 (a1 + 1))
theorem api_Node_70.mono_l : ∀ k, (∀ y0 y1 y2 y3, LeO (api_Node_70.l0 k y0 y1 y2 y3) (api_Node_70.l0 (k + 1) y0 y1 y2 y3)) ∧ (∀ y0 y1 y2 y3 y4, LeO (api_Node_70.l1 k y0 y1 y2 y3 y4) (api_Node_70.l1 (k + 1) y0 y1 y2 y3 y4))
 | 0 => ⟨fun _ _ _ _ r h => by simp [api_Node_70.l0] at h, fun _ _ _ _ _ r h => by simp [api_Node_70.l1] at h⟩
 | k + 1 => by
  obtain ⟨ih0, ih1⟩ := api_Node_70.mono_l k; refine ⟨?_, ?_⟩
  ·intro y0 y1 y2 y3
   unfold api_Node_70.l0
   repeat' with_reducible first | exact ih0 _ _ _ _ | exact ih1 _ _ _ _ _ | exact LeO.refl _ | exact LeO.none _ | refine LeO.ite ?_ ?_ | refine LeO.bind ?_ (fun _ => ?_)
  ·intro y0 y1 y2 y3 y4
   unfold api_Node_70.l1
   repeat' with_reducible first | exact ih0 _ _ _ _ | exact ih1 _ _ _ _ _ | exact LeO.refl _ | exact LeO.none _ | refine LeO.ite ?_ ?_ | refine LeO.bind ?_ (fun _ => ?_)
theorem api_Node_70.mono : ∀ a0 a1 a2 a3 k, LeO (api_Node_70.f k a0 a1 a2 a3) (api_Node_70.f (k + 1) a0 a1 a2 a3) := by
 intro a0 a1 a2 a3 k; obtain ⟨ih0, ih1⟩ := api_Node_70.mono_l k; unfold api_Node_70.f
 repeat' with_reducible first | exact ih0 _ _ _ _ | exact ih1 _ _ _ _ _ | exact LeO.refl _ | exact LeO.none _ | refine LeO.ite ?_ ?_ | refine LeO.bind ?_ (fun _ => ?_)
def api_Node_70.T4 : Bool × List (List Nat × List Nat) := (true, [([], []), ([], []), ([0, 1], [0, 1]), ([2], [2]), ([3], [3]), ([3], [3]), ([3], [3]), ([5, 6, 3], [3, 5, 6]), ([7, 3], [3, 7]), ([3], [3]), ([3], [3]), ([10, 3], [3, 10]), ([9, 11, 3], [3, 9, 11]), ([12, 3], [3, 12]), ([4, 8, 13, 3, 3], [3, 4, 8, 13]), ([14, 3], [3, 14]), ([3, 15], [3, 15])])
def api_Node_70.B4 : List Nat := [0, 0, 3, 7, 15, 15, 15, 111, 239, 15, 15, 1039, 3599, 7695, 16383, 32767, 65535]
theorem api_Node_70.tab4 : rtab .any (opsOf Tryd.f70 4) = api_Node_70.T4 := by kernel_rfl
theorem api_Node_70.bits4 : waitsOk api_Node_70.T4.2 api_Node_70.B4 = true := by kernel_rfl
def api_Node_70.T6 : Bool × List (List Nat × List Nat) := (true, [([], []), ([], []), ([], []), ([], []), ([3], [3]), ([], []), ([], []), ([6], [6]), ([5, 7], [5, 7]), ([8], [8]), ([], []), ([], []), ([10, 11], [10, 11]), ([12], [12]), ([0, 1, 0, 1, 5, 6, 7, 8, 9, 13], [0, 1]), ([14, 9, 0, 1, 5, 6, 7, 8, 9, 13], [9, 14]), ([2, 4, 0, 1, 2, 3, 4, 5, 6, 7, 8, 9, 10, 11, 12, 13, 14, 15], [2, 4]), ([16, 13, 15, 0, 1, 2, 3, 4, 5, 6, 7, 8, 9, 10, 11, 12, 13, 14, 15], [13, 16])])
def api_Node_70.B6 : List Nat := [0, 0, 0, 0, 8, 0, 0, 64, 224, 480, 0, 0, 3072, 7168, 16355, 32739, 65535, 131071]
theorem api_Node_70.tab6 : rtab .any (opsOf Tryd.f70 6) = api_Node_70.T6 := by kernel_rfl
theorem api_Node_70.bits6 : waitsOk api_Node_70.T6.2 api_Node_70.B6 = true := by kernel_rfl
set_option maxHeartbeats 8000000 in
set_option maxRecDepth 100000 in
theorem api_Node_70.calls (k : Nat) (P0_ : Nat → Prop) (u9000_ : Value) (l0 : List (S46)) (a1 : Int) (a2 : Int) (a3 : Bool) (r : List (S46)) (w0 w : World) (hB : Below w0.heap.size w0 w) (ho0 : Kd.R k46 46 w w0.heap.size P0_ u9000_ l0) (h : api_Node_70.f k l0 a1 a2 a3 = some r) :
  Calls Tryd.prog 70 #[u9000_, .int .i64 a1, .int .i64 a2, .func (.func 41) #[] #[]] w fun e w' => e = .returned (.tuple #[]) ∧ Kd.R k46 46 w' w0.heap.size (fun k_ => (P0_ k_ ∨ w.heap.size ≤ k_)) u9000_ r ∧ Below w0.heap.size w0 w' ∧ Kept w w' (fun k_ => P0_ k_) := by
 have hu46 := Tryd.underlying46; have HO0 := am (show Kd.R k46 46 w w0.heap.size (fun k_ => (P0_ k_ ∨ w.heap.size ≤ k_)) u9000_ l0 from Kd.R_mono ho0 (fun k_ hk => (.inl hk))); have HK := am (Kept.refl w (fun k_ => P0_ k_)); have HW0 := am hB.size; have HB := am hB; clear hB; have H : (api_Node_70.l0 k l0 a1 a2 (wrap64 (a1 + 1))) = some r := h; clear h; have H' := am H; clear H; go_enter Tryd.func70, Tryd.ntmps70; go_wp2
 go_loopg [8] k (fun kq v8 w' => ∃ (x0_1 : List (S46)) (x8_1 : Int), v8 = .int .i64 x8_1 ∧ Aside0 (api_Node_70.l0 kq x0_1 a1 a2 x8_1 = some r) ∧ Aside0 (kq ≤ k) ∧ Aside0 (Kd.R k46 46 w' w0.heap.size (fun k_ => (P0_ k_ ∨ w.heap.size ≤ k_)) u9000_ x0_1) ∧ Aside0 (Kept w w' (fun k_ => P0_ k_)) ∧ Aside0 (Below w0.heap.size w0 w'))
 case atStart => exact ⟨(l0), (wrap64 (a1 + 1)), (by first | rfl | (simp; done) | (simp [*]; done)), H', ⟨Nat.le_refl _⟩, ⟨rz HO0.out⟩, ⟨kz⟩, ⟨bz⟩⟩
 case round =>
  clear H'; (try clear p2); obtain ⟨x0_1, x8_1, rfl, HA, HK1, HO_0, HK, HB⟩ := hrel; cases gk with
  | zero => exact absurd HA.out (by simp [api_Node_70.l0])
  | succ k1 =>
   have H := HA.out; clear HA; simp only [api_Node_70.l0] at H
   by_cases c5 : x8_1 < a2
   ·rw [if_pos c5] at H
    have c5b0 : decide (x8_1 < a2) = true := decide_eq_true c5; clear c5; have H' := am H; clear H; go_wp2
    go_loopg [9] k1 (fun kq v9 w' => ∃ (x0_2 : List (S46)) (x9_2 : Int), v9 = .int .i64 x9_2 ∧ Aside0 (api_Node_70.l1 kq x0_2 a1 a2 x8_1 x9_2 = some r) ∧ Aside0 (kq ≤ k1) ∧ Aside0 (Kd.R k46 46 w' w0.heap.size (fun k_ => (P0_ k_ ∨ w.heap.size ≤ k_)) u9000_ x0_2) ∧ Aside0 (Kept w w' (fun k_ => P0_ k_)) ∧ Aside0 (Below w0.heap.size w0 w'))
    case atStart => exact ⟨(x0_1), (x8_1), (by first | rfl | (simp; done) | (simp [*]; done)), H', ⟨Nat.le_refl _⟩, ⟨rz HO_0.out⟩, ⟨kz⟩, ⟨bz⟩⟩
    case round =>
     clear H'; (try clear p2); (try clear c5); (try clear c5b0); (try clear p2); obtain ⟨x0_2, x9_2, rfl, HA, HK2, HO_0, HK, HB⟩ := hrel; cases gk with
     | zero => exact absurd HA.out (by simp [api_Node_70.l1])
     | succ k2 =>
      have H := HA.out; clear HA; simp only [api_Node_70.l1] at H
      by_cases c6 : x9_2 > a1
      ·rw [if_pos c6] at H
       have c6b0 : decide (a1 < x9_2) = true := decide_eq_true c6; clear c6; by_cases c7 : 0 ≤ x9_2
       ·rw [if_pos c7] at H
        have c7b0 : decide (0 ≤ x9_2) = true := decide_eq_true c7; clear c7; by_cases c8 : x9_2 < (x0_2.length : Int)
        ·rw [if_pos c8] at H
         have c8b0 : decide (x9_2 < (x0_2.length : Int)) = true := decide_eq_true c8; clear c8; obtain ⟨ji9, hji9⟩ : ∃ j_ : Int, (wrap64 (x9_2 - 1)) = j_ := ⟨_, rfl⟩; replace H : (if 0 ≤ (ji9) then (if (ji9) < (x0_2.length : Int) then ((tree_order.f ((rd_T46 x0_2 x9_2).f0) ((rd_T46 x0_2 x9_2).f1) ((rd_T46 x0_2 x9_2).f2) ((rd_T46 x0_2 (ji9)).f0) ((rd_T46 x0_2 (ji9)).f1) ((rd_T46 x0_2 (ji9)).f2)).bind fun t294 => (if t294 < 0 then (api_Node_70.l1 k2 ((x0_2.set (x9_2 : Int).toNat (⟨(rd_T46 x0_2 (ji9)).f0, (rd_T46 x0_2 (ji9)).f1, (rd_T46 x0_2 (ji9)).f2⟩ : S46)).set ((ji9) : Int).toNat (⟨(rd_T46 x0_2 x9_2).f0, (rd_T46 x0_2 x9_2).f1, (rd_T46 x0_2 x9_2).f2⟩ : S46)) a1 a2 x8_1 ji9) else (api_Node_70.l0 k2 x0_2 a1 a2 (wrap64 (x8_1 + 1))))) else (none)) else (none)) = some r := by first | (rw [hji9] at H; exact H) | (simp only [hji9] at H ⊢; exact H)
         have hji9w : (IntKind.i64.wrap (x9_2 - 1)) = ji9 := (i64_w _).trans hji9; by_cases c10 : 0 ≤ (ji9)
         ·rw [if_pos c10] at H
          have c10b0 : decide (0 ≤ (ji9)) = true := decide_eq_true c10; clear c10; by_cases c11 : (ji9) < (x0_2.length : Int)
          ·rw [if_pos c11] at H
           have c11b0 : decide ((ji9) < (x0_2.length : Int)) = true := decide_eq_true c11; clear c11; refine oR H ?_; clear H; intro t294 A12 H; by_cases c13 : t294 < 0
           ·rw [if_pos c13] at H
            have c13b0 : decide (t294 < 0) = true := decide_eq_true c13; clear c13; obtain ⟨y297, hy297⟩ : ∃ y_ : List (S46), y_ = (x0_2.set (x9_2 : Int).toNat (⟨(rd_T46 x0_2 (ji9)).f0, (rd_T46 x0_2 (ji9)).f1, (rd_T46 x0_2 (ji9)).f2⟩ : S46)) := ⟨_, rfl⟩; try rw [← hy297] at H
            have Ny297 := am hy297; clear hy297; obtain ⟨y298, hy298⟩ : ∃ y_ : List (S46), y_ = (y297.set ((ji9) : Int).toNat (⟨(rd_T46 x0_2 x9_2).f0, (rd_T46 x0_2 x9_2).f1, (rd_T46 x0_2 x9_2).f2⟩ : S46)) := ⟨_, rfl⟩; try rw [← hy298] at H
            have Ny298 := am hy298; clear hy298; have H' := am H; clear H; try go_wp2
            replace HO_0 := am (rD HO_0.out); replace HK := am (Kept.drew HK.out); replace HB := am (bO HB.out); obtain ⟨Ao17, co17, eo17⟩ := Kd.R_slice HO_0.out; (first | subst eo17 | (injection eo17 with f1_ f2_ f3_; have f4_ := f1_.symm; have f5_ := f3_.symm; clear f1_ f2_ f3_; subst f4_; subst f5_))
            have p292 : 0 ≤ (x9_2 : Int) := of_decide_eq_true (by assumption); have q292 : x9_2 < (x0_2.length : Int) := of_decide_eq_true (by assumption); obtain ⟨ad292, e292, hx292_0, hx292_1, hx292_2⟩ := at_T46 (Kd.R_reads' HO_0.out).2.2 x9_2 p292 q292; cases e292; replace p292 := eq_true p292; replace q292 := eq_true q292; have p293 : 0 ≤ ((ji9) : Int) := of_decide_eq_true (by assumption); have q293 : (ji9) < (x0_2.length : Int) := of_decide_eq_true (by assumption); obtain ⟨ad293, e293, hx293_0, hx293_1, hx293_2⟩ := at_T46 (Kd.R_reads' HO_0.out).2.2 (ji9) p293 q293; obtain rfl : ad292 = ad293 := (by injection e293); replace p293 := eq_true p293; replace q293 := eq_true q293; refine start_ (n := 17) (S := fun w' => w'.cell? (ad292.add ((x9_2).toNat * 3)) = some (.string ((rd_T46 x0_2 x9_2).f0)) ∧ w'.cell? ⟨(ad292.add ((x9_2).toNat * 3)).block, (ad292.add ((x9_2).toNat * 3)).off + 1, none⟩ = some (.int .i64 ((rd_T46 x0_2 x9_2).f1)) ∧ w'.cell? ⟨(ad292.add ((x9_2).toNat * 3)).block, (ad292.add ((x9_2).toNat * 3)).off + 2, none⟩ = some (.string ((rd_T46 x0_2 x9_2).f2)) ∧ w'.cell? (ad292.add (((ji9)).toNat * 3)) = some (.string ((rd_T46 x0_2 (ji9)).f0)) ∧ w'.cell? ⟨(ad292.add (((ji9)).toNat * 3)).block, (ad292.add (((ji9)).toNat * 3)).off + 1, none⟩ = some (.int .i64 ((rd_T46 x0_2 (ji9)).f1)) ∧ w'.cell? ⟨(ad292.add (((ji9)).toNat * 3)).block, (ad292.add (((ji9)).toNat * 3)).off + 2, none⟩ = some (.string ((rd_T46 x0_2 (ji9)).f2))) (ds := []) #[fF,fF,fF,fF,fF,fF,fF,fF,fF,fF,fF,fF,fF,fF,fF,fF,fF] (by kernel_rfl) rfl rfl ⟨hx292_0, hx292_1, hx292_2, hx293_0, hx293_1, hx293_2⟩ (fun hHeld => ?_); refine with_tabW api_Node_70.tab4 api_Node_70.bits4 (fun HT_ HW_ => ?_)
            generalize wr.drew = w16 at HO_0 HK HB hx292_0 hx292_1 hx292_2 hx293_0 hx293_1 hx293_2 hHeld ⊢
            refine pu 0 (some 18) ?_
            refine pu 1 (some 19) ?_
            refine pu 2 (some 20) ?_
            refine pu 3 (some 21) ?_
            refine pu 4 (some 22) ?_
            refine pu 5 (some 23) ?_
            refine pu 6 (some 24) ?_
            refine pu 7 (some 25) ?_
            refine pu 9 (some 27) ?_
            refine pu 10 (some 28) ?_
            refine pu 11 (some 29) ?_
            refine pu 12 (some 30) ?_
            refine take_ (i := 8) (N := some 26) (v := ?_) (a' := ?_) #[tT,tT,tT,tT,tT,tT,tT,tT,tT,tT,tT,tT,tT,fF,fF,fF,fF] rfl rfl (take_ofW HT_.out HW_.out (by kernel_rfl)) (fun _ _ _ h => h) (Or.inl ⟨by rfl, ?_⟩) hHeld ?_ ?_
            rotate_left
            ·rintro w' ⟨s0, s1, s2, s3, s4, s5⟩
             go_simp
             with_reducible rfl
            rotate_left
            ·simp only [Act.put, sA, sB, sC, i64_w, i32_w]
             rfl
            refine take_ (i := 13) (N := some 31) (v := ?_) (a' := ?_) #[tT,tT,tT,tT,tT,tT,tT,tT,tT,tT,tT,tT,tT,tT,fF,fF,fF] rfl rfl (take_ofW HT_.out HW_.out (by kernel_rfl)) (fun _ _ _ h => h) (Or.inl ⟨by rfl, ?_⟩) hHeld ?_ ?_
            rotate_left
            ·rintro w' ⟨s0, s1, s2, s3, s4, s5⟩
             go_simp
             with_reducible rfl
            rotate_left
            ·simp only [Act.put, sA, sB, sC, i64_w, i32_w]
             rfl
            refine one_ (i := 14) (N := some 32) #[tT,tT,tT,tT,tT,tT,tT,tT,tT,tT,tT,tT,tT,tT,tT,fF,fF] rfl rfl (one_of HT_.out (by kernel_rfl)) (by decide) (fun K hK => ?_)
            refine goesF_ Tryd.func41 (by kernel_rfl) rfl #[.agg #[.string ((rd_T46 x0_2 x9_2).f0), .int .i64 ((rd_T46 x0_2 x9_2).f1), .string ((rd_T46 x0_2 x9_2).f2)], .agg #[.string ((rd_T46 x0_2 (ji9)).f0), .int .i64 ((rd_T46 x0_2 (ji9)).f1), .string ((rd_T46 x0_2 (ji9)).f2)]] (by rfl) rfl rfl (by rfl) (by (try simp only [mT, mC, mN]); first | done | (simp only [hji9]; rfl) | rfl | (simp only [lD, lT]; rfl)) ?_
            with_reducible refine (tree_order.calls ((rd_T46 x0_2 x9_2).f0) ((rd_T46 x0_2 x9_2).f1) ((rd_T46 x0_2 x9_2).f2) ((rd_T46 x0_2 (ji9)).f0) ((rd_T46 x0_2 (ji9)).f1) ((rd_T46 x0_2 (ji9)).f2) t294 _ A12.out).mono ?_
            rintro e w18 ⟨rfl, hb⟩; have HS0_ := (hb.cell (wB _ _ (hHeld.1))).trans (hHeld.1); have HS1_ := (hb.cell (wB _ _ (hHeld.2.1))).trans (hHeld.2.1); have HS2_ := (hb.cell (wB _ _ (hHeld.2.2.1))).trans (hHeld.2.2.1); have HS3_ := (hb.cell (wB _ _ (hHeld.2.2.2.1))).trans (hHeld.2.2.2.1); have HS4_ := (hb.cell (wB _ _ (hHeld.2.2.2.2.1))).trans (hHeld.2.2.2.2.1); have HS5_ := (hb.cell (wB _ _ (hHeld.2.2.2.2.2))).trans (hHeld.2.2.2.2.2); refine ⟨_, rfl, ?_⟩
            replace HO_0 := am (Kd.R_below (rz HO_0.out) hb); replace HK := am (Kept.below (S := (fun k_ => P0_ k_)) kz hb); replace HB := bs hb; refine hK.out _ _ ⟨HS0_, HS1_, HS2_, HS3_, HS4_, HS5_⟩ (fun hHeld => ?_)
            clear hK K; refine norm_ (a' := ?_) ?_ ?_
            rotate_left
            ·show Act.put _ (some 32) _ = _
             simp only [Act.put, sA, sB, sC, i64_w, i32_w]
             rfl
            refine pu 15 (some 33) ?_
            refine pu 16 (some 34) ?_
            refine done_ (done_of HT_.out (by kernel_rfl)) ?_
            try go_wp2
            replace HO_0 := am (rD HO_0.out); replace HK := am (Kept.drew HK.out); replace HB := am (bO HB.out); have p295 : 0 ≤ ((ji9) : Int) := of_decide_eq_true (by assumption); have q295 : (ji9) < (x0_2.length : Int) := of_decide_eq_true (by assumption); obtain ⟨ad295, e295, hx295_0, hx295_1, hx295_2⟩ := at_T46 (Kd.R_reads' HO_0.out).2.2 (ji9) p295 q295; obtain rfl : ad292 = ad295 := (by injection e295); replace p295 := eq_true p295; replace q295 := eq_true q295; have p296 : 0 ≤ (x9_2 : Int) := of_decide_eq_true (by assumption); have q296 : x9_2 < (x0_2.length : Int) := of_decide_eq_true (by assumption); obtain ⟨ad296, e296, hx296_0, hx296_1, hx296_2⟩ := at_T46 (Kd.R_reads' HO_0.out).2.2 x9_2 p296 q296; obtain rfl : ad292 = ad296 := (by injection e296); replace p296 := eq_true p296; replace q296 := eq_true q296; have p14 : 0 ≤ (x9_2 : Int) := of_decide_eq_true (by assumption); have q14 : (x9_2 : Int) < ((x0_2.length : Int) : Int) := of_decide_eq_true (by assumption); obtain ⟨go14, co14, eo14, gb14, gl14, cl14, HG14⟩ := Kd.R_form HO_0.out (by omega); (first | cases eo14 | (injection eo14 with ea_ en_ ec_; (first | subst ea_ | (injection ea_ with ea_; subst ea_)); subst ec_; clear en_))
            have GB14 := am gb14; have GG14 := am HG14; clear gb14 gl14 HG14; have HMgo14 := am (show (P0_ go14 ∨ w.heap.size ≤ go14) from (HO_0.out.1 _ rfl)); (first | simp only [add_plain] at hx292_0 | skip)
            (first | simp only [add_plain] at hx292_1 | skip)
            (first | simp only [add_plain] at hx292_2 | skip)
            (first | simp only [add_plain] at hx293_0 | skip)
            (first | simp only [add_plain] at hx293_1 | skip)
            (first | simp only [add_plain] at hx293_2 | skip)
            (first | simp only [add_plain] at hx295_0 | skip)
            (first | simp only [add_plain] at hx295_1 | skip)
            (first | simp only [add_plain] at hx295_2 | skip)
            (first | simp only [add_plain] at hx296_0 | skip)
            (first | simp only [add_plain] at hx296_1 | skip)
            (first | simp only [add_plain] at hx296_2 | skip)
            obtain ⟨ce14, hcl14, hM14, hcc14, hfr14⟩ := Kd.R_elem HO_0.out z46 (x9_2 : Int) p14 q14; obtain rfl := k46_openM hM14; have hx14_0 : World.cell? _ ⟨go14, (x9_2 : Int).toNat * 3, none⟩ = some (.string ((rd_T46 x0_2 x9_2).f0)) := hcc14 0 _ rfl; have hx14_1 : World.cell? _ ⟨go14, (x9_2 : Int).toNat * 3 + 1, none⟩ = some (.int .i64 ((rd_T46 x0_2 x9_2).f1)) := hcc14 1 _ rfl; have hx14_2 : World.cell? _ ⟨go14, (x9_2 : Int).toNat * 3 + 2, none⟩ = some (.string ((rd_T46 x0_2 x9_2).f2)) := hcc14 2 _ rfl; have hf14_0 : World.frozen? _ ⟨go14, (x9_2 : Int).toNat * 3, none⟩ = false := hfr14 0; have hf14_1 : World.frozen? _ ⟨go14, (x9_2 : Int).toNat * 3 + 1, none⟩ = false := hfr14 1; have hf14_2 : World.frozen? _ ⟨go14, (x9_2 : Int).toNat * 3 + 2, none⟩ = false := hfr14 2; clear hcl14 hcc14 hfr14 hM14; replace p14 := eq_true p14; replace q14 := eq_true q14; obtain ⟨ce20, hcl20, hM20, hcc20, hfr20⟩ := Kd.R_elem HO_0.out z46 (x9_2 : Int) (of_decide_eq_true (by assumption)) (by have h_ : (x9_2 : Int) < ((x0_2.length : Int) : Int) := of_decide_eq_true (by assumption); first | exact h_ | (have e_ := (Kd.R_reads' HO_0.out).1; omega) | simpa using h_); obtain rfl := k46_openM hM20; have HP20 := (Kd.R_seg HO_0.out (x9_2 : Int) (of_decide_eq_true (by assumption)) (by have h_ : (x9_2 : Int) < ((x0_2.length : Int) : Int) := of_decide_eq_true (by assumption); first | exact h_ | (have e_ := (Kd.R_reads' HO_0.out).1; omega) | simpa using h_) (seg := [.string ((rd_T46 x0_2 (ji9)).f0), .int .i64 ((rd_T46 x0_2 (ji9)).f1), .string ((rd_T46 x0_2 (ji9)).f2)]) (j := 0) hcl20 hcc20 (show 3 ≤ 3 from by decide) (x' := (⟨(rd_T46 x0_2 (ji9)).f0, (rd_T46 x0_2 (ji9)).f1, (rd_T46 x0_2 (ji9)).f2⟩ : S46)) (k46_mkM _ _ _ (⟨(rd_T46 x0_2 (ji9)).f0, (rd_T46 x0_2 (ji9)).f1, (rd_T46 x0_2 (ji9)).f2⟩ : S46) ) (fun _ hk => hk)).1
            rw [← Ny297.out] at HP20; have HQ20 := am HP20; clear hcl20 hcc20 hfr20 hM20 HP20; have p15 : 0 ≤ ((ji9) : Int) := of_decide_eq_true (by assumption); have q15 : ((ji9) : Int) < ((x0_2.length : Int) : Int) := of_decide_eq_true (by assumption); obtain ⟨ce15, hcl15, hM15, hcc15, hfr15⟩ := Kd.R_elem HQ20.out z46 ((ji9) : Int) p15 q15; obtain rfl := k46_openM hM15; have hx15_0 : World.cell? _ ⟨go14, ((ji9) : Int).toNat * 3, none⟩ = some (.string ((rd_T46 y297 (ji9)).f0)) := hcc15 0 _ rfl; have hx15_1 : World.cell? _ ⟨go14, ((ji9) : Int).toNat * 3 + 1, none⟩ = some (.int .i64 ((rd_T46 y297 (ji9)).f1)) := hcc15 1 _ rfl; have hx15_2 : World.cell? _ ⟨go14, ((ji9) : Int).toNat * 3 + 2, none⟩ = some (.string ((rd_T46 y297 (ji9)).f2)) := hcc15 2 _ rfl; have hf15_0 : World.frozen? _ ⟨go14, ((ji9) : Int).toNat * 3, none⟩ = false := hfr15 0; have hf15_1 : World.frozen? _ ⟨go14, ((ji9) : Int).toNat * 3 + 1, none⟩ = false := hfr15 1; have hf15_2 : World.frozen? _ ⟨go14, ((ji9) : Int).toNat * 3 + 2, none⟩ = false := hfr15 2; (try have hz15_0 := three0 hx15_0)
            (try have hz15_1 := three1 hx15_1)
            (try have hz15_2 := three2 hx15_2)
            (try have hy15_0 := threeF hf15_0)
            (try have hy15_1 := threeF hf15_1)
            (try have hy15_2 := threeF hf15_2)
            clear hcl15 hcc15 hfr15 hM15; replace p15 := eq_true p15; replace q15 := eq_true q15; obtain ⟨ce21, hcl21, hM21, hcc21, hfr21⟩ := Kd.R_elem HQ20.out z46 ((ji9) : Int) (of_decide_eq_true (by assumption)) (by have h_ : ((ji9) : Int) < ((x0_2.length : Int) : Int) := of_decide_eq_true (by assumption); first | exact h_ | (have e_ := (Kd.R_reads' HO_0.out).1; omega) | simpa using h_); obtain rfl := k46_openM hM21; have HP21 := (Kd.R_seg HQ20.out ((ji9) : Int) (of_decide_eq_true (by assumption)) (by have h_ : ((ji9) : Int) < ((x0_2.length : Int) : Int) := of_decide_eq_true (by assumption); first | exact h_ | (have e_ := (Kd.R_reads' HO_0.out).1; omega) | simpa using h_) (seg := [.string ((rd_T46 x0_2 x9_2).f0), .int .i64 ((rd_T46 x0_2 x9_2).f1), .string ((rd_T46 x0_2 x9_2).f2)]) (j := 0) hcl21 hcc21 (show 3 ≤ 3 from by decide) (x' := (⟨(rd_T46 x0_2 x9_2).f0, (rd_T46 x0_2 x9_2).f1, (rd_T46 x0_2 x9_2).f2⟩ : S46)) (k46_mkM _ _ _ (⟨(rd_T46 x0_2 x9_2).f0, (rd_T46 x0_2 x9_2).f1, (rd_T46 x0_2 x9_2).f2⟩ : S46) ) (fun _ hk => hk)).1; rw [← Ny298.out] at HP21; have HQ21 := am HP21; clear hcl21 hcc21 hfr21 hM21 HP21; refine start_ (n := 18) (S := fun w' => w'.cell? ⟨go14, ((ji9)).toNat * 3, none⟩ = some (.string ((rd_T46 x0_2 (ji9)).f0)) ∧ w'.cell? ⟨go14, ((ji9)).toNat * 3 + 1, none⟩ = some (.int .i64 ((rd_T46 x0_2 (ji9)).f1)) ∧ w'.cell? ⟨go14, ((ji9)).toNat * 3 + 2, none⟩ = some (.string ((rd_T46 x0_2 (ji9)).f2)) ∧ w'.cell? ⟨go14, ((x9_2).toNat * 3), none⟩ = some (.string ((rd_T46 x0_2 x9_2).f0)) ∧ w'.cell? ⟨go14, ((x9_2).toNat * 3) + 1, none⟩ = some (.int .i64 ((rd_T46 x0_2 x9_2).f1)) ∧ w'.cell? ⟨go14, ((x9_2).toNat * 3) + 2, none⟩ = some (.string ((rd_T46 x0_2 x9_2).f2))) (ds := [15, 17]) #[fF,fF,fF,fF,fF,fF,fF,fF,fF,fF,fF,fF,fF,fF,fF,fF,fF,fF] (by kernel_rfl) rfl rfl ⟨hx295_0, hx295_1, hx295_2, hx296_0, hx296_1, hx296_2⟩ (fun hHeld => ?_); refine with_tabW api_Node_70.tab6 api_Node_70.bits6 (fun HT_ HW_ => ?_)
            generalize w18.drew = w19 at HO_0 HK HB GG14 HQ20 HQ21 hf14_0 hf14_1 hf14_2 hf15_0 hf15_1 hf15_2 hx14_0 hx14_1 hx14_2 hx15_0 hx15_1 hx15_2 hx292_0 hx292_1 hx292_2 hx293_0 hx293_1 hx293_2 hx295_0 hx295_1 hx295_2 hx296_0 hx296_1 hx296_2 hz15_0 hy15_0 hz15_1 hy15_1 hz15_2 hy15_2 hHeld ⊢
            refine pu 0 (some 37) ?_
            refine pu 1 (some 38) ?_
            refine pu 2 (some 39) ?_
            refine pu 3 (some 40) ?_
            refine pu 4 (some 41) ?_
            refine pu 5 (some 42) ?_
            refine pu 6 (some 43) ?_
            refine pu 7 (some 44) ?_
            refine pu 8 (some 45) ?_
            refine pu 10 (some 47) ?_
            refine pu 11 (some 48) ?_
            refine pu 12 (some 49) ?_
            refine take_ (i := 9) (N := some 46) (v := ?_) (a' := ?_) #[tT,tT,tT,tT,tT,tT,tT,tT,tT,tT,tT,tT,tT,fF,fF,fF,fF,fF] rfl rfl (take_ofW HT_.out HW_.out (by kernel_rfl)) (fun _ _ _ h => h) (Or.inl ⟨by rfl, ?_⟩) hHeld ?_ ?_
            rotate_left
            ·rintro w' ⟨s0, s1, s2, s3, s4, s5⟩
             go_simp
             with_reducible rfl
            rotate_left
            ·simp only [Act.put, sA, sB, sC, i64_w, i32_w]
             rfl
            refine take_ (i := 13) (N := some 50) (v := ?_) (a' := ?_) #[tT,tT,tT,tT,tT,tT,tT,tT,tT,tT,tT,tT,tT,tT,fF,fF,fF,fF] rfl rfl (take_ofW HT_.out HW_.out (by kernel_rfl)) (fun _ _ _ h => h) (Or.inl ⟨by rfl, ?_⟩) hHeld ?_ ?_
            rotate_left
            ·rintro w' ⟨s0, s1, s2, s3, s4, s5⟩
             go_simp
             with_reducible rfl
            rotate_left
            ·simp only [Act.put, sA, sB, sC, i64_w, i32_w]
             rfl
            refine pu 14 (some 51) ?_
            refine last_ (i := 15) (N := none) #[tT,tT,tT,tT,tT,tT,tT,tT,tT,tT,tT,tT,tT,tT,tT,tT,fF,fF] rfl rfl (one_of HT_.out (by kernel_rfl)) (by decide) (fun K hK => ?_)
            refine skip_ (w1 := ?_) (by rfl) rfl ?_ ?_
            rotate_left
            ·go_simp
             rfl
            refine hK.out _ _ ?_
            clear hK K; refine pure_ (i := 16) (N := some 52) (v := ?_) (a' := ?_) #[tT,tT,tT,tT,tT,tT,tT,tT,tT,tT,tT,tT,tT,tT,tT,tT,tT,fF] rfl rfl (any_of HT_.out (by kernel_rfl)) (fun _ _ _ h => h) (Or.inl ⟨by rfl, ?_⟩) ?_ ?_
            rotate_left
            ·intro w'
             go_simp
             with_reducible rfl
            rotate_left
            ·simp only [Act.put, sA, sB, sC, i64_w, i32_w]
             rfl
            refine last_ (i := 17) (N := none) #[tT,tT,tT,tT,tT,tT,tT,tT,tT,tT,tT,tT,tT,tT,tT,tT,tT,tT] rfl rfl (one_of HT_.out (by kernel_rfl)) (by decide) (fun K hK => ?_)
            refine skip_ (w1 := ?_) (by rfl) rfl ?_ ?_
            rotate_left
            ·go_simp
             rfl
            refine hK.out _ _ ?_
            clear hK K; refine done_ (done_of HT_.out (by kernel_rfl)) ?_
            try go_wp2
            go_roundg k2
            case measure => have := HK1.out; have := HK2.out; omega
            case rel => exact ⟨(y298), (ji9), (by first | rfl | (simp; done) | (simp only [← hji9] <;> (first | rfl | simp)) | (simp [*]; done)), H', ⟨by have := HK1.out; have := HK2.out; omega⟩, ⟨rz HQ21.out⟩, ⟨by repeat (first | (with_reducible first | exact HK.out | apply Kept.alloc | apply Kept.drewN | apply Kept.drew | refine Kept.setCell ?_ HMgo14.out _ | refine Kept.setCell ?_ HMgo14.out _ | refine Kept.setCell ?_ HMgo14.out _ | refine Kept.setCell ?_ HMgo14.out _ | refine Kept.setCell ?_ HMgo14.out _ | refine Kept.setCell ?_ HMgo14.out _) | exact HK.out)⟩, ⟨by repeat (first | (with_reducible first | exact HB.out | apply bA | apply bN | apply bO | refine below_set ?_ GB14.out | refine below_set ?_ GB14.out | refine below_set ?_ GB14.out | refine below_set ?_ GB14.out | refine below_set ?_ GB14.out | refine below_set ?_ GB14.out) | exact HB.out)⟩⟩
           ·rw [if_neg c13] at H
            have c13b0 : decide (t294 < 0) = false := decide_eq_false c13; clear c13; have H' := am H; clear H; try go_wp2
            replace HO_0 := am (rD HO_0.out); replace HK := am (Kept.drew HK.out); replace HB := am (bO HB.out); obtain ⟨Ao23, co23, eo23⟩ := Kd.R_slice HO_0.out; (first | subst eo23 | (injection eo23 with f1_ f2_ f3_; have f4_ := f1_.symm; have f5_ := f3_.symm; clear f1_ f2_ f3_; subst f4_; subst f5_))
            have p292 : 0 ≤ (x9_2 : Int) := of_decide_eq_true (by assumption); have q292 : x9_2 < (x0_2.length : Int) := of_decide_eq_true (by assumption); obtain ⟨ad292, e292, hx292_0, hx292_1, hx292_2⟩ := at_T46 (Kd.R_reads' HO_0.out).2.2 x9_2 p292 q292; cases e292; replace p292 := eq_true p292; replace q292 := eq_true q292; have p293 : 0 ≤ ((ji9) : Int) := of_decide_eq_true (by assumption); have q293 : (ji9) < (x0_2.length : Int) := of_decide_eq_true (by assumption); obtain ⟨ad293, e293, hx293_0, hx293_1, hx293_2⟩ := at_T46 (Kd.R_reads' HO_0.out).2.2 (ji9) p293 q293; obtain rfl : ad292 = ad293 := (by injection e293); replace p293 := eq_true p293; replace q293 := eq_true q293; refine start_ (n := 17) (S := fun w' => w'.cell? (ad292.add ((x9_2).toNat * 3)) = some (.string ((rd_T46 x0_2 x9_2).f0)) ∧ w'.cell? ⟨(ad292.add ((x9_2).toNat * 3)).block, (ad292.add ((x9_2).toNat * 3)).off + 1, none⟩ = some (.int .i64 ((rd_T46 x0_2 x9_2).f1)) ∧ w'.cell? ⟨(ad292.add ((x9_2).toNat * 3)).block, (ad292.add ((x9_2).toNat * 3)).off + 2, none⟩ = some (.string ((rd_T46 x0_2 x9_2).f2)) ∧ w'.cell? (ad292.add (((ji9)).toNat * 3)) = some (.string ((rd_T46 x0_2 (ji9)).f0)) ∧ w'.cell? ⟨(ad292.add (((ji9)).toNat * 3)).block, (ad292.add (((ji9)).toNat * 3)).off + 1, none⟩ = some (.int .i64 ((rd_T46 x0_2 (ji9)).f1)) ∧ w'.cell? ⟨(ad292.add (((ji9)).toNat * 3)).block, (ad292.add (((ji9)).toNat * 3)).off + 2, none⟩ = some (.string ((rd_T46 x0_2 (ji9)).f2))) (ds := []) #[fF,fF,fF,fF,fF,fF,fF,fF,fF,fF,fF,fF,fF,fF,fF,fF,fF] (by kernel_rfl) rfl rfl ⟨hx292_0, hx292_1, hx292_2, hx293_0, hx293_1, hx293_2⟩ (fun hHeld => ?_); refine with_tabW api_Node_70.tab4 api_Node_70.bits4 (fun HT_ HW_ => ?_)
            generalize wr.drew = w22 at HO_0 HK HB hx292_0 hx292_1 hx292_2 hx293_0 hx293_1 hx293_2 hHeld ⊢
            refine pu 0 (some 18) ?_
            refine pu 1 (some 19) ?_
            refine pu 2 (some 20) ?_
            refine pu 3 (some 21) ?_
            refine pu 4 (some 22) ?_
            refine pu 5 (some 23) ?_
            refine pu 6 (some 24) ?_
            refine pu 7 (some 25) ?_
            refine pu 9 (some 27) ?_
            refine pu 10 (some 28) ?_
            refine pu 11 (some 29) ?_
            refine pu 12 (some 30) ?_
            refine take_ (i := 8) (N := some 26) (v := ?_) (a' := ?_) #[tT,tT,tT,tT,tT,tT,tT,tT,tT,tT,tT,tT,tT,fF,fF,fF,fF] rfl rfl (take_ofW HT_.out HW_.out (by kernel_rfl)) (fun _ _ _ h => h) (Or.inl ⟨by rfl, ?_⟩) hHeld ?_ ?_
            rotate_left
            ·rintro w' ⟨s0, s1, s2, s3, s4, s5⟩
             go_simp
             with_reducible rfl
            rotate_left
            ·simp only [Act.put, sA, sB, sC, i64_w, i32_w]
             rfl
            refine take_ (i := 13) (N := some 31) (v := ?_) (a' := ?_) #[tT,tT,tT,tT,tT,tT,tT,tT,tT,tT,tT,tT,tT,tT,fF,fF,fF] rfl rfl (take_ofW HT_.out HW_.out (by kernel_rfl)) (fun _ _ _ h => h) (Or.inl ⟨by rfl, ?_⟩) hHeld ?_ ?_
            rotate_left
            ·rintro w' ⟨s0, s1, s2, s3, s4, s5⟩
             go_simp
             with_reducible rfl
            rotate_left
            ·simp only [Act.put, sA, sB, sC, i64_w, i32_w]
             rfl
            refine one_ (i := 14) (N := some 32) #[tT,tT,tT,tT,tT,tT,tT,tT,tT,tT,tT,tT,tT,tT,tT,fF,fF] rfl rfl (one_of HT_.out (by kernel_rfl)) (by decide) (fun K hK => ?_)
            refine goesF_ Tryd.func41 (by kernel_rfl) rfl #[.agg #[.string ((rd_T46 x0_2 x9_2).f0), .int .i64 ((rd_T46 x0_2 x9_2).f1), .string ((rd_T46 x0_2 x9_2).f2)], .agg #[.string ((rd_T46 x0_2 (ji9)).f0), .int .i64 ((rd_T46 x0_2 (ji9)).f1), .string ((rd_T46 x0_2 (ji9)).f2)]] (by rfl) rfl rfl (by rfl) (by (try simp only [mT, mC, mN]); first | done | (simp only [hji9]; rfl) | rfl | (simp only [lD, lT]; rfl)) ?_
            with_reducible refine (tree_order.calls ((rd_T46 x0_2 x9_2).f0) ((rd_T46 x0_2 x9_2).f1) ((rd_T46 x0_2 x9_2).f2) ((rd_T46 x0_2 (ji9)).f0) ((rd_T46 x0_2 (ji9)).f1) ((rd_T46 x0_2 (ji9)).f2) t294 _ A12.out).mono ?_
            rintro e w24 ⟨rfl, hb⟩; have HS0_ := (hb.cell (wB _ _ (hHeld.1))).trans (hHeld.1); have HS1_ := (hb.cell (wB _ _ (hHeld.2.1))).trans (hHeld.2.1); have HS2_ := (hb.cell (wB _ _ (hHeld.2.2.1))).trans (hHeld.2.2.1); have HS3_ := (hb.cell (wB _ _ (hHeld.2.2.2.1))).trans (hHeld.2.2.2.1); have HS4_ := (hb.cell (wB _ _ (hHeld.2.2.2.2.1))).trans (hHeld.2.2.2.2.1); have HS5_ := (hb.cell (wB _ _ (hHeld.2.2.2.2.2))).trans (hHeld.2.2.2.2.2); refine ⟨_, rfl, ?_⟩
            replace HO_0 := am (Kd.R_below (rz HO_0.out) hb); replace HK := am (Kept.below (S := (fun k_ => P0_ k_)) kz hb); replace HB := bs hb; refine hK.out _ _ ⟨HS0_, HS1_, HS2_, HS3_, HS4_, HS5_⟩ (fun hHeld => ?_)
            clear hK K; refine norm_ (a' := ?_) ?_ ?_
            rotate_left
            ·show Act.put _ (some 32) _ = _
             simp only [Act.put, sA, sB, sC, i64_w, i32_w]
             rfl
            refine pu 15 (some 33) ?_
            refine pu 16 (some 34) ?_
            refine done_ (done_of HT_.out (by kernel_rfl)) ?_
            try go_wp2
            go_roundg k2
            case measure => have := HK1.out; have := HK2.out; omega
            case rel => exact ⟨(x0_2), (wrap64 (x8_1 + 1)), (by first | rfl | (simp; done) | (simp [*]; done)), H', ⟨by have := HK1.out; have := HK2.out; omega⟩, ⟨rz HO_0.out⟩, ⟨kz⟩, ⟨bz⟩⟩
          ·rw [if_neg c11] at H
           exact absurd H (by simp)
         ·rw [if_neg c10] at H
          exact absurd H (by simp)
        ·rw [if_neg c8] at H
         exact absurd H (by simp)
       ·rw [if_neg c7] at H
        exact absurd H (by simp)
      ·rw [if_neg c6] at H
       have c6b0 : decide (a1 < x9_2) = false := decide_eq_false c6; clear c6; have H' := am H; clear H; try go_wp2
       replace HO_0 := am (rD HO_0.out); replace HK := am (Kept.drew HK.out); replace HB := am (bO HB.out); refine start_ (n := 17) (S := fun w' => True) (ds := []) #[fF,fF,fF,fF,fF,fF,fF,fF,fF,fF,fF,fF,fF,fF,fF,fF,fF] (by kernel_rfl) rfl rfl trivial (fun hHeld => ?_); refine with_tabW api_Node_70.tab4 api_Node_70.bits4 (fun HT_ HW_ => ?_)
       generalize wr.drew = w25 at HO_0 HK HB hHeld ⊢
       refine pu 0 (some 18) ?_
       refine pu 1 (some 19) ?_
       refine pu 2 (some 20) ?_
       refine pu 3 (some 21) ?_
       refine pure_ (i := 4) (N := some 22) (v := undef) (a' := ?_) #[tT,tT,tT,tT,tT,fF,fF,fF,fF,fF,fF,fF,fF,fF,fF,fF,fF] rfl rfl (any_of HT_.out (by kernel_rfl)) (fun _ _ _ h => h) (Or.inr ⟨by rfl, rfl⟩) ?_ ?_
       rotate_left
       ·simp only [Act.put, sA, sB, sC, i64_w, i32_w]
        rfl
       refine pure_ (i := 5) (N := some 23) (v := undef) (a' := ?_) #[tT,tT,tT,tT,tT,tT,fF,fF,fF,fF,fF,fF,fF,fF,fF,fF,fF] rfl rfl (any_of HT_.out (by kernel_rfl)) (fun _ _ _ h => h) (Or.inr ⟨by rfl, rfl⟩) ?_ ?_
       rotate_left
       ·simp only [Act.put, sA, sB, sC, i64_w, i32_w]
        rfl
       refine pure_ (i := 6) (N := some 24) (v := undef) (a' := ?_) #[tT,tT,tT,tT,tT,tT,tT,fF,fF,fF,fF,fF,fF,fF,fF,fF,fF] rfl rfl (any_of HT_.out (by kernel_rfl)) (fun _ _ _ h => h) (Or.inr ⟨by rfl, rfl⟩) ?_ ?_
       rotate_left
       ·simp only [Act.put, sA, sB, sC, i64_w, i32_w]
        rfl
       refine pure_ (i := 7) (N := some 25) (v := undef) (a' := ?_) #[tT,tT,tT,tT,tT,tT,tT,tT,fF,fF,fF,fF,fF,fF,fF,fF,fF] rfl rfl (any_of HT_.out (by kernel_rfl)) (fun _ _ _ h => h) (Or.inr ⟨by rfl, rfl⟩) ?_ ?_
       rotate_left
       ·simp only [Act.put, sA, sB, sC, i64_w, i32_w]
        rfl
       refine pure_ (i := 8) (N := some 26) (v := undef) (a' := ?_) #[tT,tT,tT,tT,tT,tT,tT,tT,tT,fF,fF,fF,fF,fF,fF,fF,fF] rfl rfl (any_of HT_.out (by kernel_rfl)) (fun _ _ _ h => h) (Or.inr ⟨by rfl, rfl⟩) ?_ ?_
       rotate_left
       ·simp only [Act.put, sA, sB, sC, i64_w, i32_w]
        rfl
       refine pure_ (i := 9) (N := some 27) (v := undef) (a' := ?_) #[tT,tT,tT,tT,tT,tT,tT,tT,tT,tT,fF,fF,fF,fF,fF,fF,fF] rfl rfl (any_of HT_.out (by kernel_rfl)) (fun _ _ _ h => h) (Or.inr ⟨by rfl, rfl⟩) ?_ ?_
       rotate_left
       ·simp only [Act.put, sA, sB, sC, i64_w, i32_w]
        rfl
       refine pure_ (i := 10) (N := some 28) (v := undef) (a' := ?_) #[tT,tT,tT,tT,tT,tT,tT,tT,tT,tT,tT,fF,fF,fF,fF,fF,fF] rfl rfl (any_of HT_.out (by kernel_rfl)) (fun _ _ _ h => h) (Or.inr ⟨by rfl, rfl⟩) ?_ ?_
       rotate_left
       ·simp only [Act.put, sA, sB, sC, i64_w, i32_w]
        rfl
       refine pure_ (i := 11) (N := some 29) (v := undef) (a' := ?_) #[tT,tT,tT,tT,tT,tT,tT,tT,tT,tT,tT,tT,fF,fF,fF,fF,fF] rfl rfl (any_of HT_.out (by kernel_rfl)) (fun _ _ _ h => h) (Or.inr ⟨by rfl, rfl⟩) ?_ ?_
       rotate_left
       ·simp only [Act.put, sA, sB, sC, i64_w, i32_w]
        rfl
       refine pure_ (i := 12) (N := some 30) (v := undef) (a' := ?_) #[tT,tT,tT,tT,tT,tT,tT,tT,tT,tT,tT,tT,tT,fF,fF,fF,fF] rfl rfl (any_of HT_.out (by kernel_rfl)) (fun _ _ _ h => h) (Or.inr ⟨by rfl, rfl⟩) ?_ ?_
       rotate_left
       ·simp only [Act.put, sA, sB, sC, i64_w, i32_w]
        rfl
       refine pure_ (i := 13) (N := some 31) (v := undef) (a' := ?_) #[tT,tT,tT,tT,tT,tT,tT,tT,tT,tT,tT,tT,tT,tT,fF,fF,fF] rfl rfl (any_of HT_.out (by kernel_rfl)) (fun _ _ _ h => h) (Or.inr ⟨by rfl, rfl⟩) ?_ ?_
       rotate_left
       ·simp only [Act.put, sA, sB, sC, i64_w, i32_w]
        rfl
       refine pure_ (i := 14) (N := some 32) (v := undef) (a' := ?_) #[tT,tT,tT,tT,tT,tT,tT,tT,tT,tT,tT,tT,tT,tT,tT,fF,fF] rfl rfl (any_of HT_.out (by kernel_rfl)) (fun _ _ _ h => h) (Or.inr ⟨by rfl, rfl⟩) ?_ ?_
       rotate_left
       ·simp only [Act.put, sA, sB, sC, i64_w, i32_w]
        rfl
       refine pure_ (i := 15) (N := some 33) (v := undef) (a' := ?_) #[tT,tT,tT,tT,tT,tT,tT,tT,tT,tT,tT,tT,tT,tT,tT,tT,fF] rfl rfl (any_of HT_.out (by kernel_rfl)) (fun _ _ _ h => h) (Or.inr ⟨by rfl, rfl⟩) ?_ ?_
       rotate_left
       ·simp only [Act.put, sA, sB, sC, i64_w, i32_w]
        rfl
       refine pu 16 (some 34) ?_
       refine done_ (done_of HT_.out (by kernel_rfl)) ?_
       try go_wp2
       go_roundg k2
       case measure => have := HK1.out; have := HK2.out; omega
       case rel => exact ⟨(x0_2), (wrap64 (x8_1 + 1)), (by first | rfl | (simp; done) | (simp [*]; done)), H', ⟨by have := HK1.out; have := HK2.out; omega⟩, ⟨rz HO_0.out⟩, ⟨kz⟩, ⟨bz⟩⟩
   ·rw [if_neg c5] at H
    have c5b0 : decide (x8_1 < a2) = false := decide_eq_false c5; clear c5; obtain rfl := Option.some.inj H; go_wp2
    first | go_end0 | ((try simp only [Exit.inBlock, Exit.then]); refine bodyPost_ret (results_none rfl _ _ _) rfl ?_)
    exact ⟨ez, by (with_reducible repeat (first | apply rA | apply rN | apply rD)); exact HO_0.out, by repeat (first | (with_reducible first | exact HB.out | apply bA | apply bN | apply bO) | exact HB.out), kz⟩

end Go.Proofs.YtcijimdogddbeaaDoor.P
