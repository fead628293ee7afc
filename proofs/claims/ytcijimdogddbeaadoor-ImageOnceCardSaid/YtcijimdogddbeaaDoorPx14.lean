/- Laid by a program of this session (wip/pr), after the printer of the kit: the functions that a statement reaches as plain Lean functions, and that the calls of the machine come to them. No condition. -/
import Derived.Test.YtcijimdogddbeaaDoorPx0
namespace Go.Proofs.YtcijimdogddbeaaDoor.P
open Go.RowKit Go.Proofs.YtcijimdogddbeaaDoorX Go.Proofs.YtcijimdogddbeaaDoorW.PrintWords Go.Proofs.YtcijimdogddbeaaDoorW.PrintLast Go.Proofs.YtcijimdogddbeaaDoorW.PrintMore
attribute [local go_sem] max2_int min2_int max_two min_two
set_option linter.unusedVariables false
set_option linter.unusedSimpArgs false

/-! ### api_Node_86: function 86 -/
def api_Node_86.l0 : Nat → List (S46) → Int → Int → Int → Int → Option ((List (S46)))
 | 0, _, _, _, _, _ => none
 | k + 1, x0, x1, x2, x3, x10 => if x10 < x3 then (if 0 ≤ (wrap64 (x2 + x10)) then (if (wrap64 (x2 + x10)) < (x0.length : Int) then (if 0 ≤ (wrap64 (x1 + x10)) then (if (wrap64 (x1 + x10)) < (x0.length : Int) then (api_Node_86.l0 k ((x0.set ((wrap64 (x1 + x10)) : Int).toNat (⟨(rd_T46 x0 (wrap64 (x2 + x10))).f0, (rd_T46 x0 (wrap64 (x2 + x10))).f1, (rd_T46 x0 (wrap64 (x2 + x10))).f2⟩ : S46)).set ((wrap64 (x2 + x10)) : Int).toNat (⟨(rd_T46 x0 (wrap64 (x1 + x10))).f0, (rd_T46 x0 (wrap64 (x1 + x10))).f1, (rd_T46 x0 (wrap64 (x1 + x10))).f2⟩ : S46)) x1 x2 x3 (wrap64 (x10 + 1))) else (none)) else (none)) else (none)) else (none)) else (some x0)
def api_Node_86.f (k : Nat) (l0 : List (S46)) (a1 : Int) (a2 : Int) (a3 : Int) (a4 : Bool) : Option ((List (S46))) := api_Node_86.l0 k l0 a1 a2 a3 0
theorem api_Node_86.mono_l : ∀ k, (∀ y0 y1 y2 y3 y4, LeO (api_Node_86.l0 k y0 y1 y2 y3 y4) (api_Node_86.l0 (k + 1) y0 y1 y2 y3 y4))
 | 0 => fun _ _ _ _ _ r h => by simp [api_Node_86.l0] at h
 | k + 1 => by
  have ih0 := api_Node_86.mono_l k
  ·intro y0 y1 y2 y3 y4
   unfold api_Node_86.l0
   repeat' with_reducible first | exact ih0 _ _ _ _ _ | exact LeO.refl _ | exact LeO.none _ | refine LeO.ite ?_ ?_ | refine LeO.bind ?_ (fun _ => ?_)
theorem api_Node_86.mono : ∀ a0 a1 a2 a3 a4 k, LeO (api_Node_86.f k a0 a1 a2 a3 a4) (api_Node_86.f (k + 1) a0 a1 a2 a3 a4) := by
 intro a0 a1 a2 a3 a4 k; have ih0 := api_Node_86.mono_l k; unfold api_Node_86.f
 repeat' with_reducible first | exact ih0 _ _ _ _ _ | exact LeO.refl _ | exact LeO.none _ | refine LeO.ite ?_ ?_ | refine LeO.bind ?_ (fun _ => ?_)
def api_Node_86.T3 : Bool × List (List Nat × List Nat) := (true, [([], []), ([], []), ([], []), ([1, 2], [1, 2]), ([], []), ([], []), ([], []), ([5, 6], [5, 6]), ([], []), ([], []), ([], []), ([9, 10], [9, 10]), ([8, 11], [8, 11]), ([12], [12]), ([], []), ([], []), ([], []), ([15, 16], [15, 16]), ([14, 17], [14, 17]), ([18], [18]), ([0, 3, 0, 1, 2, 3, 8, 9, 10, 11, 12, 13, 19], [0, 3]), ([20, 13, 0, 1, 2, 3, 8, 9, 10, 11, 12, 13, 19], [13, 20]), ([4, 7, 0, 1, 2, 3, 4, 5, 6, 7, 8, 9, 10, 11, 12, 13, 14, 15, 16, 17, 18, 19, 20, 21], [4, 7]), ([22, 19, 21, 0, 1, 2, 3, 4, 5, 6, 7, 8, 9, 10, 11, 12, 13, 14, 15, 16, 17, 18, 19, 20, 21], [19, 22])])
def api_Node_86.B3 : List Nat := [0, 0, 0, 6, 0, 0, 0, 96, 0, 0, 0, 1536, 3840, 7936, 0, 0, 0, 98304, 245760, 507904, 1048335, 2096911, 4194303, 8388607]
theorem api_Node_86.tab3 : rtab .any (opsOf Tryd.f86 3) = api_Node_86.T3 := by kernel_rfl
theorem api_Node_86.bits3 : waitsOk api_Node_86.T3.2 api_Node_86.B3 = true := by kernel_rfl
set_option maxHeartbeats 8000000 in
set_option maxRecDepth 100000 in
theorem api_Node_86.calls (k : Nat) (P0_ : Nat → Prop) (u9000_ : Value) (l0 : List (S46)) (a1 : Int) (a2 : Int) (a3 : Int) (a4 : Bool) (r : List (S46)) (w0 w : World) (hB : Below w0.heap.size w0 w) (ho0 : Kd.R k46 46 w w0.heap.size P0_ u9000_ l0) (h : api_Node_86.f k l0 a1 a2 a3 a4 = some r) :
  Calls Tryd.prog 86 #[u9000_, .int .i64 a1, .int .i64 a2, .int .i64 a3, .func (.func 41) #[] #[]] w fun e w' => e = .returned (.tuple #[]) ∧ Kd.R k46 46 w' w0.heap.size (fun k_ => (P0_ k_ ∨ w.heap.size ≤ k_)) u9000_ r ∧ Below w0.heap.size w0 w' ∧ Kept w w' (fun k_ => P0_ k_) := by
 have hu46 := Tryd.underlying46; have HO0 := am (show Kd.R k46 46 w w0.heap.size (fun k_ => (P0_ k_ ∨ w.heap.size ≤ k_)) u9000_ l0 from Kd.R_mono ho0 (fun k_ hk => (.inl hk))); have HK := am (Kept.refl w (fun k_ => P0_ k_)); have HW0 := am hB.size; have HB := am hB; clear hB; have H : (api_Node_86.l0 k l0 a1 a2 a3 0) = some r := h; clear h; have H' := am H; clear H; go_enter Tryd.func86, Tryd.ntmps86; go_wp2
 go_loopg [10] k (fun kq v10 w' => ∃ (x0_1 : List (S46)) (x10_1 : Int), v10 = .int .i64 x10_1 ∧ Aside0 (api_Node_86.l0 kq x0_1 a1 a2 a3 x10_1 = some r) ∧ Aside0 (kq ≤ k) ∧ Aside0 (Kd.R k46 46 w' w0.heap.size (fun k_ => (P0_ k_ ∨ w.heap.size ≤ k_)) u9000_ x0_1) ∧ Aside0 (Kept w w' (fun k_ => P0_ k_)) ∧ Aside0 (Below w0.heap.size w0 w'))
 case atStart => exact ⟨(l0), (0), (by first | rfl | (simp; done) | (simp [*]; done)), H', ⟨Nat.le_refl _⟩, ⟨rz HO0.out⟩, ⟨kz⟩, ⟨bz⟩⟩
 case round =>
  clear H'; (try clear p2); obtain ⟨x0_1, x10_1, rfl, HA, HK1, HO_0, HK, HB⟩ := hrel; cases gk with
  | zero => exact absurd HA.out (by simp [api_Node_86.l0])
  | succ k1 =>
   have H := HA.out; clear HA; simp only [api_Node_86.l0] at H
   by_cases c6 : x10_1 < a3
   ·rw [if_pos c6] at H
    have c6b0 : decide (x10_1 < a3) = true := decide_eq_true c6; clear c6; obtain ⟨ji7, hji7⟩ : ∃ j_ : Int, (wrap64 (a2 + x10_1)) = j_ := ⟨_, rfl⟩; replace H : (if 0 ≤ (ji7) then (if (ji7) < (x0_1.length : Int) then (if 0 ≤ (wrap64 (a1 + x10_1)) then (if (wrap64 (a1 + x10_1)) < (x0_1.length : Int) then (api_Node_86.l0 k1 ((x0_1.set ((wrap64 (a1 + x10_1)) : Int).toNat (⟨(rd_T46 x0_1 (ji7)).f0, (rd_T46 x0_1 (ji7)).f1, (rd_T46 x0_1 (ji7)).f2⟩ : S46)).set ((ji7) : Int).toNat (⟨(rd_T46 x0_1 (wrap64 (a1 + x10_1))).f0, (rd_T46 x0_1 (wrap64 (a1 + x10_1))).f1, (rd_T46 x0_1 (wrap64 (a1 + x10_1))).f2⟩ : S46)) a1 a2 a3 (wrap64 (x10_1 + 1))) else (none)) else (none)) else (none)) else (none)) = some r := by first | (rw [hji7] at H; exact H) | (simp only [hji7] at H ⊢; exact H)
    have hji7w : (IntKind.i64.wrap (a2 + x10_1)) = ji7 := (i64_w _).trans hji7; by_cases c8 : 0 ≤ (ji7)
    ·rw [if_pos c8] at H
     have c8b0 : decide (0 ≤ (ji7)) = true := decide_eq_true c8; clear c8; by_cases c9 : (ji7) < (x0_1.length : Int)
     ·rw [if_pos c9] at H
      have c9b0 : decide ((ji7) < (x0_1.length : Int)) = true := decide_eq_true c9; clear c9; obtain ⟨ji10, hji10⟩ : ∃ j_ : Int, (wrap64 (a1 + x10_1)) = j_ := ⟨_, rfl⟩; replace H : (if 0 ≤ (ji10) then (if (ji10) < (x0_1.length : Int) then (api_Node_86.l0 k1 ((x0_1.set ((ji10) : Int).toNat (⟨(rd_T46 x0_1 (ji7)).f0, (rd_T46 x0_1 (ji7)).f1, (rd_T46 x0_1 (ji7)).f2⟩ : S46)).set ((ji7) : Int).toNat (⟨(rd_T46 x0_1 (ji10)).f0, (rd_T46 x0_1 (ji10)).f1, (rd_T46 x0_1 (ji10)).f2⟩ : S46)) a1 a2 a3 (wrap64 (x10_1 + 1))) else (none)) else (none)) = some r := by first | (rw [hji10] at H; exact H) | (simp only [hji10] at H ⊢; exact H)
      have hji10w : (IntKind.i64.wrap (a1 + x10_1)) = ji10 := (i64_w _).trans hji10; by_cases c11 : 0 ≤ (ji10)
      ·rw [if_pos c11] at H
       have c11b0 : decide (0 ≤ (ji10)) = true := decide_eq_true c11; clear c11; by_cases c12 : (ji10) < (x0_1.length : Int)
       ·rw [if_pos c12] at H
        have c12b0 : decide ((ji10) < (x0_1.length : Int)) = true := decide_eq_true c12; clear c12; obtain ⟨y301, hy301⟩ : ∃ y_ : List (S46), y_ = (x0_1.set ((ji10) : Int).toNat (⟨(rd_T46 x0_1 (ji7)).f0, (rd_T46 x0_1 (ji7)).f1, (rd_T46 x0_1 (ji7)).f2⟩ : S46)) := ⟨_, rfl⟩; try rw [← hy301] at H
        have Ny301 := am hy301; clear hy301; obtain ⟨y302, hy302⟩ : ∃ y_ : List (S46), y_ = (y301.set ((ji7) : Int).toNat (⟨(rd_T46 x0_1 (ji10)).f0, (rd_T46 x0_1 (ji10)).f1, (rd_T46 x0_1 (ji10)).f2⟩ : S46)) := ⟨_, rfl⟩; try rw [← hy302] at H
        have Ny302 := am hy302; clear hy302; have H' := am H; clear H; try go_wp2
        replace HO_0 := am (rD HO_0.out); replace HK := am (Kept.drew HK.out); replace HB := am (bO HB.out); obtain ⟨Ao16, co16, eo16⟩ := Kd.R_slice HO_0.out; (first | subst eo16 | (injection eo16 with f1_ f2_ f3_; have f4_ := f1_.symm; have f5_ := f3_.symm; clear f1_ f2_ f3_; subst f4_; subst f5_))
        have p299 : 0 ≤ ((ji7) : Int) := of_decide_eq_true (by assumption); have q299 : (ji7) < (x0_1.length : Int) := of_decide_eq_true (by assumption); obtain ⟨ad299, e299, hx299_0, hx299_1, hx299_2⟩ := at_T46 (Kd.R_reads' HO_0.out).2.2 (ji7) p299 q299; cases e299; replace p299 := eq_true p299; replace q299 := eq_true q299; have p300 : 0 ≤ ((ji10) : Int) := of_decide_eq_true (by assumption); have q300 : (ji10) < (x0_1.length : Int) := of_decide_eq_true (by assumption); obtain ⟨ad300, e300, hx300_0, hx300_1, hx300_2⟩ := at_T46 (Kd.R_reads' HO_0.out).2.2 (ji10) p300 q300; obtain rfl : ad299 = ad300 := (by injection e300); replace p300 := eq_true p300; replace q300 := eq_true q300; have p13 : 0 ≤ ((ji10) : Int) := of_decide_eq_true (by assumption); have q13 : ((ji10) : Int) < ((x0_1.length : Int) : Int) := of_decide_eq_true (by assumption); obtain ⟨go13, co13, eo13, gb13, gl13, cl13, HG13⟩ := Kd.R_form HO_0.out (by omega); (first | cases eo13 | (injection eo13 with ea_ en_ ec_; (first | subst ea_ | (injection ea_ with ea_; subst ea_)); subst ec_; clear en_))
        have GB13 := am gb13; have GG13 := am HG13; clear gb13 gl13 HG13; have HMgo13 := am (show (P0_ go13 ∨ w.heap.size ≤ go13) from (HO_0.out.1 _ rfl)); (first | simp only [add_plain] at hx299_0 | skip)
        (first | simp only [add_plain] at hx299_1 | skip)
        (first | simp only [add_plain] at hx299_2 | skip)
        (first | simp only [add_plain] at hx300_0 | skip)
        (first | simp only [add_plain] at hx300_1 | skip)
        (first | simp only [add_plain] at hx300_2 | skip)
        obtain ⟨ce13, hcl13, hM13, hcc13, hfr13⟩ := Kd.R_elem HO_0.out z46 ((ji10) : Int) p13 q13; obtain rfl := k46_openM hM13; have hx13_0 : World.cell? _ ⟨go13, ((ji10) : Int).toNat * 3, none⟩ = some (.string ((rd_T46 x0_1 (ji10)).f0)) := hcc13 0 _ rfl; have hx13_1 : World.cell? _ ⟨go13, ((ji10) : Int).toNat * 3 + 1, none⟩ = some (.int .i64 ((rd_T46 x0_1 (ji10)).f1)) := hcc13 1 _ rfl; have hx13_2 : World.cell? _ ⟨go13, ((ji10) : Int).toNat * 3 + 2, none⟩ = some (.string ((rd_T46 x0_1 (ji10)).f2)) := hcc13 2 _ rfl; have hf13_0 : World.frozen? _ ⟨go13, ((ji10) : Int).toNat * 3, none⟩ = false := hfr13 0; have hf13_1 : World.frozen? _ ⟨go13, ((ji10) : Int).toNat * 3 + 1, none⟩ = false := hfr13 1; have hf13_2 : World.frozen? _ ⟨go13, ((ji10) : Int).toNat * 3 + 2, none⟩ = false := hfr13 2; clear hcl13 hcc13 hfr13 hM13; replace p13 := eq_true p13; replace q13 := eq_true q13; obtain ⟨ce17, hcl17, hM17, hcc17, hfr17⟩ := Kd.R_elem HO_0.out z46 ((ji10) : Int) (of_decide_eq_true (by assumption)) (by have h_ : ((ji10) : Int) < ((x0_1.length : Int) : Int) := of_decide_eq_true (by assumption); first | exact h_ | (have e_ := (Kd.R_reads' HO_0.out).1; omega) | simpa using h_); obtain rfl := k46_openM hM17; have HP17 := (Kd.R_seg HO_0.out ((ji10) : Int) (of_decide_eq_true (by assumption)) (by have h_ : ((ji10) : Int) < ((x0_1.length : Int) : Int) := of_decide_eq_true (by assumption); first | exact h_ | (have e_ := (Kd.R_reads' HO_0.out).1; omega) | simpa using h_) (seg := [.string ((rd_T46 x0_1 (ji7)).f0), .int .i64 ((rd_T46 x0_1 (ji7)).f1), .string ((rd_T46 x0_1 (ji7)).f2)]) (j := 0) hcl17 hcc17 (show 3 ≤ 3 from by decide) (x' := (⟨(rd_T46 x0_1 (ji7)).f0, (rd_T46 x0_1 (ji7)).f1, (rd_T46 x0_1 (ji7)).f2⟩ : S46)) (k46_mkM _ _ _ (⟨(rd_T46 x0_1 (ji7)).f0, (rd_T46 x0_1 (ji7)).f1, (rd_T46 x0_1 (ji7)).f2⟩ : S46) ) (fun _ hk => hk)).1
        rw [← Ny301.out] at HP17; have HQ17 := am HP17; clear hcl17 hcc17 hfr17 hM17 HP17; have p14 : 0 ≤ ((ji7) : Int) := of_decide_eq_true (by assumption); have q14 : ((ji7) : Int) < ((x0_1.length : Int) : Int) := of_decide_eq_true (by assumption); obtain ⟨ce14, hcl14, hM14, hcc14, hfr14⟩ := Kd.R_elem HQ17.out z46 ((ji7) : Int) p14 q14; obtain rfl := k46_openM hM14; have hx14_0 : World.cell? _ ⟨go13, ((ji7) : Int).toNat * 3, none⟩ = some (.string ((rd_T46 y301 (ji7)).f0)) := hcc14 0 _ rfl; have hx14_1 : World.cell? _ ⟨go13, ((ji7) : Int).toNat * 3 + 1, none⟩ = some (.int .i64 ((rd_T46 y301 (ji7)).f1)) := hcc14 1 _ rfl; have hx14_2 : World.cell? _ ⟨go13, ((ji7) : Int).toNat * 3 + 2, none⟩ = some (.string ((rd_T46 y301 (ji7)).f2)) := hcc14 2 _ rfl; have hf14_0 : World.frozen? _ ⟨go13, ((ji7) : Int).toNat * 3, none⟩ = false := hfr14 0; have hf14_1 : World.frozen? _ ⟨go13, ((ji7) : Int).toNat * 3 + 1, none⟩ = false := hfr14 1; have hf14_2 : World.frozen? _ ⟨go13, ((ji7) : Int).toNat * 3 + 2, none⟩ = false := hfr14 2; (try have hz14_0 := three0 hx14_0)
        (try have hz14_1 := three1 hx14_1)
        (try have hz14_2 := three2 hx14_2)
        (try have hy14_0 := threeF hf14_0)
        (try have hy14_1 := threeF hf14_1)
        (try have hy14_2 := threeF hf14_2)
        clear hcl14 hcc14 hfr14 hM14; replace p14 := eq_true p14; replace q14 := eq_true q14; obtain ⟨ce18, hcl18, hM18, hcc18, hfr18⟩ := Kd.R_elem HQ17.out z46 ((ji7) : Int) (of_decide_eq_true (by assumption)) (by have h_ : ((ji7) : Int) < ((x0_1.length : Int) : Int) := of_decide_eq_true (by assumption); first | exact h_ | (have e_ := (Kd.R_reads' HO_0.out).1; omega) | simpa using h_); obtain rfl := k46_openM hM18; have HP18 := (Kd.R_seg HQ17.out ((ji7) : Int) (of_decide_eq_true (by assumption)) (by have h_ : ((ji7) : Int) < ((x0_1.length : Int) : Int) := of_decide_eq_true (by assumption); first | exact h_ | (have e_ := (Kd.R_reads' HO_0.out).1; omega) | simpa using h_) (seg := [.string ((rd_T46 x0_1 (ji10)).f0), .int .i64 ((rd_T46 x0_1 (ji10)).f1), .string ((rd_T46 x0_1 (ji10)).f2)]) (j := 0) hcl18 hcc18 (show 3 ≤ 3 from by decide) (x' := (⟨(rd_T46 x0_1 (ji10)).f0, (rd_T46 x0_1 (ji10)).f1, (rd_T46 x0_1 (ji10)).f2⟩ : S46)) (k46_mkM _ _ _ (⟨(rd_T46 x0_1 (ji10)).f0, (rd_T46 x0_1 (ji10)).f1, (rd_T46 x0_1 (ji10)).f2⟩ : S46) ) (fun _ hk => hk)).1; rw [← Ny302.out] at HP18; have HQ18 := am HP18; clear hcl18 hcc18 hfr18 hM18 HP18; refine start_ (n := 24) (S := fun w' => w'.cell? ⟨go13, ((ji7)).toNat * 3, none⟩ = some (.string ((rd_T46 x0_1 (ji7)).f0)) ∧ w'.cell? ⟨go13, ((ji7)).toNat * 3 + 1, none⟩ = some (.int .i64 ((rd_T46 x0_1 (ji7)).f1)) ∧ w'.cell? ⟨go13, ((ji7)).toNat * 3 + 2, none⟩ = some (.string ((rd_T46 x0_1 (ji7)).f2)) ∧ w'.cell? ⟨go13, ((ji10)).toNat * 3, none⟩ = some (.string ((rd_T46 x0_1 (ji10)).f0)) ∧ w'.cell? ⟨go13, ((ji10)).toNat * 3 + 1, none⟩ = some (.int .i64 ((rd_T46 x0_1 (ji10)).f1)) ∧ w'.cell? ⟨go13, ((ji10)).toNat * 3 + 2, none⟩ = some (.string ((rd_T46 x0_1 (ji10)).f2))) (ds := [21, 23]) #[fF,fF,fF,fF,fF,fF,fF,fF,fF,fF,fF,fF,fF,fF,fF,fF,fF,fF,fF,fF,fF,fF,fF,fF] (by kernel_rfl) rfl rfl ⟨hx299_0, hx299_1, hx299_2, hx300_0, hx300_1, hx300_2⟩ (fun hHeld => ?_); refine with_tabW api_Node_86.tab3 api_Node_86.bits3 (fun HT_ HW_ => ?_)
        generalize wr.drew = w15 at HO_0 HK HB GG13 HQ17 HQ18 hf13_0 hf13_1 hf13_2 hf14_0 hf14_1 hf14_2 hx13_0 hx13_1 hx13_2 hx14_0 hx14_1 hx14_2 hx299_0 hx299_1 hx299_2 hx300_0 hx300_1 hx300_2 hz14_0 hy14_0 hz14_1 hy14_1 hz14_2 hy14_2 hHeld ⊢
        refine pu 0 (some 16) ?_
        refine pu 1 (some 17) ?_
        refine pu 2 (some 18) ?_
        refine pu 3 (some 19) ?_
        refine pu 4 (some 20) ?_
        refine pu 5 (some 21) ?_
        refine pu 6 (some 22) ?_
        refine pu 7 (some 23) ?_
        refine pu 8 (some 24) ?_
        refine pu 9 (some 25) ?_
        refine pu 10 (some 26) ?_
        refine pu 11 (some 27) ?_
        refine pu 12 (some 28) ?_
        refine pu 14 (some 30) ?_
        refine pu 15 (some 31) ?_
        refine pu 16 (some 32) ?_
        refine pu 17 (some 33) ?_
        refine pu 18 (some 34) ?_
        refine take_ (i := 13) (N := some 29) (v := ?_) (a' := ?_) #[tT,tT,tT,tT,tT,tT,tT,tT,tT,tT,tT,tT,tT,tT,tT,tT,tT,tT,tT,fF,fF,fF,fF,fF] rfl rfl (take_ofW HT_.out HW_.out (by kernel_rfl)) (fun _ _ _ h => h) (Or.inl ⟨by rfl, ?_⟩) hHeld ?_ ?_
        rotate_left
        ·rintro w' ⟨s0, s1, s2, s3, s4, s5⟩
         go_simp
         with_reducible rfl
        rotate_left
        ·simp only [Act.put, sA, sB, sC, i64_w, i32_w]
         rfl
        refine take_ (i := 19) (N := some 35) (v := ?_) (a' := ?_) #[tT,tT,tT,tT,tT,tT,tT,tT,tT,tT,tT,tT,tT,tT,tT,tT,tT,tT,tT,tT,fF,fF,fF,fF] rfl rfl (take_ofW HT_.out HW_.out (by kernel_rfl)) (fun _ _ _ h => h) (Or.inl ⟨by rfl, ?_⟩) hHeld ?_ ?_
        rotate_left
        ·rintro w' ⟨s0, s1, s2, s3, s4, s5⟩
         go_simp
         with_reducible rfl
        rotate_left
        ·simp only [Act.put, sA, sB, sC, i64_w, i32_w]
         rfl
        refine pu 20 (some 36) ?_
        refine last_ (i := 21) (N := none) #[tT,tT,tT,tT,tT,tT,tT,tT,tT,tT,tT,tT,tT,tT,tT,tT,tT,tT,tT,tT,tT,tT,fF,fF] rfl rfl (one_of HT_.out (by kernel_rfl)) (by decide) (fun K hK => ?_)
        refine skip_ (w1 := ?_) (by rfl) rfl ?_ ?_
        rotate_left
        ·go_simp
         rfl
        refine hK.out _ _ ?_
        clear hK K; refine pure_ (i := 22) (N := some 37) (v := ?_) (a' := ?_) #[tT,tT,tT,tT,tT,tT,tT,tT,tT,tT,tT,tT,tT,tT,tT,tT,tT,tT,tT,tT,tT,tT,tT,fF] rfl rfl (any_of HT_.out (by kernel_rfl)) (fun _ _ _ h => h) (Or.inl ⟨by rfl, ?_⟩) ?_ ?_
        rotate_left
        ·intro w'
         go_simp
         with_reducible rfl
        rotate_left
        ·simp only [Act.put, sA, sB, sC, i64_w, i32_w]
         rfl
        refine last_ (i := 23) (N := none) #[tT,tT,tT,tT,tT,tT,tT,tT,tT,tT,tT,tT,tT,tT,tT,tT,tT,tT,tT,tT,tT,tT,tT,tT] rfl rfl (one_of HT_.out (by kernel_rfl)) (by decide) (fun K hK => ?_)
        refine skip_ (w1 := ?_) (by rfl) rfl ?_ ?_
        rotate_left
        ·go_simp
         rfl
        refine hK.out _ _ ?_
        clear hK K; refine done_ (done_of HT_.out (by kernel_rfl)) ?_
        try go_wp2
        go_roundg k1
        case measure => have := HK1.out; omega
        case rel => exact ⟨(y302), (wrap64 (x10_1 + 1)), (by first | rfl | (simp; done) | (simp [*]; done)), H', ⟨by have := HK1.out; omega⟩, ⟨rz HQ18.out⟩, ⟨by repeat (first | (with_reducible first | exact HK.out | apply Kept.alloc | apply Kept.drewN | apply Kept.drew | refine Kept.setCell ?_ HMgo13.out _ | refine Kept.setCell ?_ HMgo13.out _ | refine Kept.setCell ?_ HMgo13.out _ | refine Kept.setCell ?_ HMgo13.out _ | refine Kept.setCell ?_ HMgo13.out _ | refine Kept.setCell ?_ HMgo13.out _) | exact HK.out)⟩, ⟨by repeat (first | (with_reducible first | exact HB.out | apply bA | apply bN | apply bO | refine below_set ?_ GB13.out | refine below_set ?_ GB13.out | refine below_set ?_ GB13.out | refine below_set ?_ GB13.out | refine below_set ?_ GB13.out | refine below_set ?_ GB13.out) | exact HB.out)⟩⟩
       ·rw [if_neg c12] at H
        exact absurd H (by simp)
      ·rw [if_neg c11] at H
       exact absurd H (by simp)
     ·rw [if_neg c9] at H
      exact absurd H (by simp)
    ·rw [if_neg c8] at H
     exact absurd H (by simp)
   ·rw [if_neg c6] at H
    have c6b0 : decide (x10_1 < a3) = false := decide_eq_false c6; clear c6; obtain rfl := Option.some.inj H; go_wp2
    first | go_end0 | ((try simp only [Exit.inBlock, Exit.then]); refine bodyPost_ret (results_none rfl _ _ _) rfl ?_)
    exact ⟨ez, by (with_reducible repeat (first | apply rA | apply rN | apply rD)); exact HO_0.out, by repeat (first | (with_reducible first | exact HB.out | apply bA | apply bN | apply bO) | exact HB.out), kz⟩

end Go.Proofs.YtcijimdogddbeaaDoor.P
