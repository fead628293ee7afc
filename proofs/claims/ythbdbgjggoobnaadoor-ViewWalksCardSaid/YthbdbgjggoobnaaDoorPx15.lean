/- Laid by a program of this session (wip/pr), after the printer of the kit: the functions that a statement reaches as plain Lean functions, and that the calls of the machine come to them. No condition. -/
import Derived.Test.YthbdbgjggoobnaaDoorPx0
import Derived.Test.YthbdbgjggoobnaaDoorPx13
import Derived.Test.YthbdbgjggoobnaaDoorPx14
namespace Go.Proofs.YthbdbgjggoobnaaDoor.P
open Go.RowKit Go.Proofs.YthbdbgjggoobnaaDoorX Go.Proofs.YthbdbgjggoobnaaDoorW.PrintWords Go.Proofs.YthbdbgjggoobnaaDoorW.PrintLast Go.Proofs.YthbdbgjggoobnaaDoorW.PrintMore
attribute [local go_sem] max2_int min2_int max_two min_two
set_option linter.unusedVariables false
set_option linter.unusedSimpArgs false

/-! ### view_View_Tree: function 17 -/
def view_View_Tree.l0 : Nat → List (S35) → List (S87) → Int → Int → List (S115) → List (S87) → Option ((List (S35)))
 | 0, _, _, _, _, _, _ => none
 | k + 1, x3, x11, x12, x13, x1000, x1001 => if x13 < x12 then (if 0 ≤ x13 then (if x13 < (x11.length : Int) then ((view_View_data.f k x1000 x1001 ((rd_T87 x11 x13).f0) ((rd_T87 x11 x13).f1) ((rd_T87 x11 x13).f2) ((rd_T87 x11 x13).f3) 0 (mn ((rd_T87 x11 x13).f2) 401)).bind fun t273 => (if x3.length < 3518437208883 then (view_View_Tree.l0 k (x3 ++ [(⟨(rd_T87 x11 x13).f0, (rd_T87 x11 x13).f1, t273⟩ : S35)]) x11 x12 (wrap64 (x13 + 1)) x1000 x1001) else (none))) else (none)) else (none)) else (some x3)
def view_View_Tree.f (k : Nat) (s0_0 : List (S115)) (s0_1 : List (S87)) : Option ((List (S35))) := view_View_Tree.l0 k ([] : List (S35)) s0_1 (s0_1.length : Int) 0 s0_0 s0_1
theorem view_View_Tree.mono_l : ∀ k, (∀ y0 y1 y2 y3 y4 y5, LeO (view_View_Tree.l0 k y0 y1 y2 y3 y4 y5) (view_View_Tree.l0 (k + 1) y0 y1 y2 y3 y4 y5))
 | 0 => fun _ _ _ _ _ _ r h => by simp [view_View_Tree.l0] at h
 | k + 1 => by
  have ih0 := view_View_Tree.mono_l k
  ·intro y0 y1 y2 y3 y4 y5
   unfold view_View_Tree.l0
   repeat' with_reducible first | exact ih0 _ _ _ _ _ _ | exact view_View_data.mono _ _ _ _ _ _ _ _ _ | exact LeO.refl _ | exact LeO.none _ | refine LeO.ite ?_ ?_ | refine LeO.bind ?_ (fun _ => ?_)
theorem view_View_Tree.mono : ∀ a0 a1 k, LeO (view_View_Tree.f k a0 a1) (view_View_Tree.f (k + 1) a0 a1) := by
 intro a0 a1 k; have ih0 := view_View_Tree.mono_l k; unfold view_View_Tree.f
 repeat' with_reducible first | exact ih0 _ _ _ _ _ _ | exact view_View_data.mono _ _ _ _ _ _ _ _ _ | exact LeO.refl _ | exact LeO.none _ | refine LeO.ite ?_ ?_ | refine LeO.bind ?_ (fun _ => ?_)
def view_View_Tree.T7 : Bool × List (List Nat × List Nat) := (true, [([], []), ([], []), ([1], [1]), ([], []), ([3], [3]), ([], []), ([], []), ([], []), ([7], [7]), ([8], [8]), ([5, 6, 9], [5, 6, 9]), ([2, 4, 10], [2, 4, 10]), ([11], [11]), ([0, 12, 10], [0, 12]), ([13, 13, 0, 1, 2, 3, 4, 5, 6, 7, 8, 9, 10, 11, 12, 13], [0, 13])])
def view_View_Tree.B7 : List Nat := [0, 0, 2, 0, 8, 0, 0, 0, 128, 384, 992, 2046, 4094, 8191, 16383]
theorem view_View_Tree.tab7 : rtab .any (opsOf Tryd.f17 7) = view_View_Tree.T7 := by kernel_rfl
theorem view_View_Tree.bits7 : waitsOk view_View_Tree.T7.2 view_View_Tree.B7 = true := by kernel_rfl
set_option maxHeartbeats 8000000 in
set_option maxRecDepth 100000 in
theorem view_View_Tree.calls (k : Nat) (g : Nat) (s0_0 : List (S115)) (s0_1 : List (S87)) (r : List (S35)) (w0 w : World) (hI : IsS84 w0 w g s0_0 s0_1) (hB : Below w0.heap.size w0 w) (h : view_View_Tree.f k s0_0 s0_1 = some r) :
  Calls Tryd.prog 17 #[.pointer (some ⟨g, 0, none⟩)] w fun e w' => ∃ v0_ : Value, e = .returned (v0_) ∧ Kd.R k35 35 w' w.heap.size (fun _ => True) v0_ r ∧ IsS84 w0 w' g s0_0 s0_1 ∧ Below w0.heap.size w0 w' ∧ KeepBut w w' g none := by
 have hu87 := Tryd.underlying87; have hu35 := Tryd.underlying35; have HI0 := am hI; have HK := am (KeepBut.refl w g none); have HL := am hB.size; clear hI; have HW0 := am hB.size; have HB := am hB; clear hB; have H : (view_View_Tree.l0 k ([] : List (S35)) s0_1 (s0_1.length : Int) 0 s0_0 s0_1) = some r := h; clear h; have H' := am H; clear H; obtain ⟨ASz2_0, cSz2_0, ASz2_1, cSz2_1, HGz2, hgz2, HSz2_0, HSz2_1⟩ := HI0.out; have hcz2_0 := cellS84_0 HGz2; have hcz2_1 := cellS84_1 HGz2; clear HGz2; go_enter Tryd.func17, Tryd.ntmps17; go_wp2
 go_loopg [3, 13] k (fun kq v3 v13 w' => ∃ (x3_1 : List (S35)) (x13_1 : Int), v13 = .int .i64 x13_1 ∧ Aside0 (view_View_Tree.l0 kq x3_1 s0_1 (s0_1.length : Int) x13_1 s0_0 s0_1 = some r) ∧ Aside0 (kq ≤ k) ∧ Aside0 (Kd.R k35 35 w' w.heap.size (fun _ => True) v3 x3_1) ∧ Aside0 (IsS84 w0 w' g s0_0 s0_1) ∧ Aside0 (KeepBut w w' g none) ∧ Aside0 (Below w0.heap.size w0 w'))
 case atStart => exact ⟨(([] : List (S35))), (0), (by first | rfl | (simp; done) | (simp [*]; done)), H', ⟨Nat.le_refl _⟩, ⟨by first | exact Kd.R_nil _ _ _ _ _ | exact Kd.N_nil _ _ _ _ _ | exact Kd.V_nil _ _ _ _ _ | exact Kd.Q_nil _ _ _ _ _ | exact Kd.S_nil _ _ _ _ _⟩, ⟨by repeat (first | (with_reducible first | exact HI0.out | apply IsS84.alloc | apply IsS84.drewN | apply IsS84.drew) | exact HI0.out)⟩, ⟨by repeat (first | (with_reducible first | exact HK.out | apply KeepBut.set_ | apply keep_drewN | apply keep_drew | apply keep_alloc) | exact HK.out)⟩, ⟨by repeat (first | (with_reducible first | exact HB.out | apply bA | apply bN | apply bO | refine below_set ?_ (IsS84.ge HI0.out)) | exact HB.out)⟩⟩
 case round =>
  clear H'; (try clear c1); (try clear p2); (try clear hcz2_0); (try clear hcz2_1); obtain ⟨x3_1, x13_1, rfl, HA, HK1, HO_3, HI0, HK, HB⟩ := hrel; cases gk with
  | zero => exact absurd HA.out (by simp [view_View_Tree.l0])
  | succ k1 =>
   have H := HA.out; clear HA; simp only [view_View_Tree.l0] at H
   by_cases c3 : x13_1 < (s0_1.length : Int)
   ·rw [if_pos c3] at H
    have c3b0 : decide (x13_1 < (s0_1.length : Int)) = true := decide_eq_true c3; clear c3; by_cases c4 : 0 ≤ x13_1
    ·rw [if_pos c4] at H
     have c4b0 : decide (0 ≤ x13_1) = true := decide_eq_true c4; clear c4; by_cases c5 : x13_1 < (s0_1.length : Int)
     ·rw [if_pos c5] at H
      have c5b0 : decide (x13_1 < (s0_1.length : Int)) = true := decide_eq_true c5; clear c5; obtain ⟨ji6, hji6⟩ : ∃ j_ : Int, (mn ((rd_T87 s0_1 x13_1).f2) 401) = j_ := ⟨_, rfl⟩; replace H : ((view_View_data.f k1 s0_0 s0_1 ((rd_T87 s0_1 x13_1).f0) ((rd_T87 s0_1 x13_1).f1) ((rd_T87 s0_1 x13_1).f2) ((rd_T87 s0_1 x13_1).f3) 0 (ji6)).bind fun t273 => (if x3_1.length < 3518437208883 then (view_View_Tree.l0 k1 (x3_1 ++ [(⟨(rd_T87 s0_1 x13_1).f0, (rd_T87 s0_1 x13_1).f1, t273⟩ : S35)]) s0_1 (s0_1.length : Int) (wrap64 (x13_1 + 1)) s0_0 s0_1) else (none))) = some r := by first | (rw [hji6] at H; exact H) | (simp only [hji6] at H ⊢; exact H)
      have hji6_ : (if 401 < ((rd_T87 s0_1 x13_1).f2) then 401 else ((rd_T87 s0_1 x13_1).f2)) = ji6 := hji6; refine oR H ?_; clear H; intro t273 A7 H; by_cases c8 : x3_1.length < 3518437208883
      ·rw [if_pos c8] at H
       have LMc8 := am c8; clear c8; obtain ⟨y274, hy274⟩ : ∃ y_ : List (S35), y_ = (x3_1 ++ [(⟨(rd_T87 s0_1 x13_1).f0, (rd_T87 s0_1 x13_1).f1, t273⟩ : S35)]) := ⟨_, rfl⟩; try rw [← hy274] at H
       have Ny274 := am hy274; clear hy274; have H' := am H; clear H; obtain ⟨ASz9_0, cSz9_0, ASz9_1, cSz9_1, HGz9, hgz9, HSz9_0, HSz9_1⟩ := HI0.out; obtain ⟨rfl, rfl, rfl, rfl⟩ := IsS84.same hgz2.2 hgz9.2; have hcz9_0 := cellS84_0 HGz9; have hcz9_1 := cellS84_1 HGz9; clear HGz9; have p271 : 0 ≤ (x13_1 : Int) := of_decide_eq_true (by assumption); have q271 : x13_1 < (s0_1.length : Int) := of_decide_eq_true (by assumption); obtain ⟨ad271, A271_3, c271_3, e271, hx271_0, hx271_1, hx271_2, hx271_3, hl271_3, hi271_3⟩ := at_T87 HSz9_1 x13_1 p271 q271; cases e271; have hRi_ := S87_ids hgz9.1 x13_1 p271 q271 hx271_3; have hf271_3 := far_slice (Kd.R_ne hRi_ hgz9.2 (by decide)); clear hRi_; replace hx271_0 := pw_cell_below HB.out hx271_0; replace hx271_1 := pw_cell_below HB.out hx271_1; replace hx271_2 := pw_cell_below HB.out hx271_2; replace hx271_3 := pw_cell_below HB.out hx271_3; have HRw271_3 := am hi271_3; have HR271_3 := am (Kd.C_below hi271_3 HB.out); have HC271_3 := am hl271_3; clear hi271_3 hl271_3; replace p271 := eq_true p271; replace q271 := eq_true q271; try go_wp2_with (first | ((with_reducible refine gate_dst (N := 5) rfl ?_); refine bx 5 #[.string (⟨#[]⟩ : ByteArray), .int .i64 0, .int .i64 0, .slice none 0 0] 87 ?_; intro gb272 hg w10 hbox hb; replace HO_3 := am (Kd.R_below (rz HO_3.out) hb); replace HR271_3 := am (Kd.C_below (by repeat (first | (with_reducible exact HR271_3.out) | (with_reducible refine cA ?_ _) | (with_reducible refine cN ?_ _) | (with_reducible refine cD ?_) | exact HR271_3.out)) hb); replace HB := am (below_step (by repeat (first | (with_reducible first | exact HB.out | apply bA | apply bN | apply bO | refine below_set ?_ (IsS84.ge HI0.out)) | exact HB.out)) hb); have BK272 := am (hbox); have GW272 := am ((by rw [hg]; exact (keep_size (w := w) (g := g) (row := none) (by repeat (first | (with_reducible first | exact HK.out | apply KeepBut.set_ | apply keep_drewN | apply keep_drew | apply keep_alloc) | exact HK.out))) : w.heap.size ≤ gb272)); have GE272 := am ((Nat.le_trans HW0.out (by rw [hg]; exact (keep_size (w := w) (g := g) (row := none) (by repeat (first | (with_reducible first | exact HK.out | apply KeepBut.set_ | apply keep_drewN | apply keep_drew | apply keep_alloc) | exact HK.out))) : w.heap.size ≤ gb272) : w0.heap.size ≤ gb272)); replace HK := am (KeepBut.trans (by repeat (first | (with_reducible first | exact HK.out | apply KeepBut.set_ | apply keep_drewN | apply keep_drew | apply keep_alloc) | exact HK.out)) (KeepBut.of_below hb g none) (.inl rfl)); have NB0_272 := am ((by rw [hg]; exact Nat.ne_of_lt (IsS84.lt (show IsS84 w0 _ g s0_0 s0_1 from by repeat (first | (with_reducible first | exact HI0.out | apply IsS84.alloc | apply IsS84.drewN | apply IsS84.drew) | exact HI0.out))) : g ≠ gb272)); have NB272_0 := am ((by rw [hg]; exact Nat.ne_of_gt (IsS84.lt (show IsS84 w0 _ g s0_0 s0_1 from by repeat (first | (with_reducible first | exact HI0.out | apply IsS84.alloc | apply IsS84.drewN | apply IsS84.drew) | exact HI0.out))) : gb272 ≠ g)); replace HI0 := am (IsS84.below (by repeat (first | (with_reducible first | exact HI0.out | apply IsS84.alloc | apply IsS84.drewN | apply IsS84.drew) | exact HI0.out)) hb); clear hb hbox hg; have hnb11 := NB272_0.out; have hnc11 := NB0_272.out; have hcz12_0 : w10.cell? ⟨gb272, 0, none⟩ = some (.string (⟨#[]⟩ : ByteArray)) := (blk_cell BK272.out 0).trans rfl; have hcz12_1 : w10.cell? ⟨gb272, 1, none⟩ = some (.int .i64 0) := (blk_cell BK272.out 1).trans rfl; have hcz12_2 : w10.cell? ⟨gb272, 2, none⟩ = some (.int .i64 0) := (blk_cell BK272.out 2).trans rfl; have hcz12_3 : w10.cell? ⟨gb272, 3, none⟩ = some (.slice none 0 0) := (blk_cell BK272.out 3).trans rfl; obtain ⟨hfz12_0, hfz12_1, hfz12_2, hfz12_3⟩ := fq4 BK272.out))
       have n0_ : Aside0 (Kd.R k35 35 ((((w10.setCell ⟨gb272, 0, none⟩ (.string ((rd_T87 s0_1 x13_1).f0))).setCell ⟨gb272, 1, none⟩ (.int .i64 ((rd_T87 s0_1 x13_1).f1))).setCell ⟨gb272, 2, none⟩ (.int .i64 ((rd_T87 s0_1 x13_1).f2))).setCell ⟨gb272, 3, none⟩ (.slice A271_3 ((rd_T87 s0_1 x13_1).f3).length c271_3)) w.heap.size (fun _ => True) u3 x3_1) := ⟨rz (Kd.R_mono (Kd.R_far (p := ⟨gb272, 3, none⟩) (Kd.R_far (p := ⟨gb272, 2, none⟩) (Kd.R_far (p := ⟨gb272, 1, none⟩) (Kd.R_far (p := ⟨gb272, 0, none⟩) (Kd.R_types HO_3.out BK272.out (by decide)) (fun _ hk => hk.2) (.string ((rd_T87 s0_1 x13_1).f0))) (fun _ hk => hk.2) (.int .i64 ((rd_T87 s0_1 x13_1).f1))) (fun _ hk => hk.2) (.int .i64 ((rd_T87 s0_1 x13_1).f2))) (fun _ hk => hk.2) (.slice A271_3 ((rd_T87 s0_1 x13_1).f3).length c271_3)) (fun _ hk => trivial))⟩; have n1_ : Aside0 (((((w10.setCell ⟨gb272, 0, none⟩ (.string ((rd_T87 s0_1 x13_1).f0))).setCell ⟨gb272, 1, none⟩ (.int .i64 ((rd_T87 s0_1 x13_1).f1))).setCell ⟨gb272, 2, none⟩ (.int .i64 ((rd_T87 s0_1 x13_1).f2))).setCell ⟨gb272, 3, none⟩ (.slice A271_3 ((rd_T87 s0_1 x13_1).f3).length c271_3)).heap[gb272]? = some (.cells #[.string ((rd_T87 s0_1 x13_1).f0), .int .i64 ((rd_T87 s0_1 x13_1).f1), .int .i64 ((rd_T87 s0_1 x13_1).f2), .slice A271_3 ((rd_T87 s0_1 x13_1).f3).length c271_3] 87 (0, 0))) := ⟨by (with_reducible repeat (first | refine kN ?_ _ | refine kD ?_ | refine kA ?_ _)); refine blk_put (cs := #[.string ((rd_T87 s0_1 x13_1).f0), .int .i64 ((rd_T87 s0_1 x13_1).f1), .int .i64 ((rd_T87 s0_1 x13_1).f2), .slice none 0 0]) ?_ 3 _ rfl; (with_reducible repeat (first | refine kN ?_ _ | refine kD ?_ | refine kA ?_ _)); refine blk_put (cs := #[.string ((rd_T87 s0_1 x13_1).f0), .int .i64 ((rd_T87 s0_1 x13_1).f1), .int .i64 0, .slice none 0 0]) ?_ 2 _ rfl; (with_reducible repeat (first | refine kN ?_ _ | refine kD ?_ | refine kA ?_ _)); refine blk_put (cs := #[.string ((rd_T87 s0_1 x13_1).f0), .int .i64 0, .int .i64 0, .slice none 0 0]) ?_ 1 _ rfl; (with_reducible repeat (first | refine kN ?_ _ | refine kD ?_ | refine kA ?_ _)); refine blk_put (cs := #[.string (⟨#[]⟩ : ByteArray), .int .i64 0, .int .i64 0, .slice none 0 0]) ?_ 0 _ rfl; (with_reducible repeat (first | refine kN ?_ _ | refine kD ?_ | refine kA ?_ _)); exact BK272.out⟩
       have n2_ : Aside0 (IsS84 w0 ((((w10.setCell ⟨gb272, 0, none⟩ (.string ((rd_T87 s0_1 x13_1).f0))).setCell ⟨gb272, 1, none⟩ (.int .i64 ((rd_T87 s0_1 x13_1).f1))).setCell ⟨gb272, 2, none⟩ (.int .i64 ((rd_T87 s0_1 x13_1).f2))).setCell ⟨gb272, 3, none⟩ (.slice A271_3 ((rd_T87 s0_1 x13_1).f3).length c271_3)) g s0_0 s0_1) := ⟨by repeat (first | (with_reducible first | exact HI0.out | apply IsS84.alloc | apply IsS84.drewN | apply IsS84.drew | refine IsS84.far ?_ NB0_272.out _) | exact HI0.out)⟩; have n3_ : Aside0 (KeepBut w ((((w10.setCell ⟨gb272, 0, none⟩ (.string ((rd_T87 s0_1 x13_1).f0))).setCell ⟨gb272, 1, none⟩ (.int .i64 ((rd_T87 s0_1 x13_1).f1))).setCell ⟨gb272, 2, none⟩ (.int .i64 ((rd_T87 s0_1 x13_1).f2))).setCell ⟨gb272, 3, none⟩ (.slice A271_3 ((rd_T87 s0_1 x13_1).f3).length c271_3)) g none) := ⟨by repeat (first | (with_reducible first | exact HK.out | apply KeepBut.set_ | apply keep_drewN | apply keep_drew | apply keep_alloc | refine keep_far ?_ GW272.out _) | exact HK.out)⟩; have n4_ : Aside0 (Below w0.heap.size w0 ((((w10.setCell ⟨gb272, 0, none⟩ (.string ((rd_T87 s0_1 x13_1).f0))).setCell ⟨gb272, 1, none⟩ (.int .i64 ((rd_T87 s0_1 x13_1).f1))).setCell ⟨gb272, 2, none⟩ (.int .i64 ((rd_T87 s0_1 x13_1).f2))).setCell ⟨gb272, 3, none⟩ (.slice A271_3 ((rd_T87 s0_1 x13_1).f3).length c271_3))) := ⟨by repeat (first | (with_reducible first | exact HB.out | apply bA | apply bN | apply bO | refine below_set ?_ (IsS84.ge HI0.out) | refine below_set ?_ GE272.out) | exact HB.out)⟩
       (try clear HO_3); (try clear BK272); (try clear HI0); (try clear HK); (try clear HB); generalize ((((w10.setCell ⟨gb272, 0, none⟩ (.string ((rd_T87 s0_1 x13_1).f0))).setCell ⟨gb272, 1, none⟩ (.int .i64 ((rd_T87 s0_1 x13_1).f1))).setCell ⟨gb272, 2, none⟩ (.int .i64 ((rd_T87 s0_1 x13_1).f2))).setCell ⟨gb272, 3, none⟩ (.slice A271_3 ((rd_T87 s0_1 x13_1).f3).length c271_3)) = w13 at n0_ n1_ n2_ n3_ n4_ ⊢
       have HO_3 := n0_; have BK272 := n1_; have HI0 := n2_; have HK := n3_; have HB := n4_; clear n0_ n1_ n2_ n3_ n4_; replace HO_3 := am (rD HO_3.out); replace BK272 := am (kD BK272.out); replace HI0 := am (IsS84.drew HI0.out); replace HK := am (keep_drew HK.out); replace HB := am (bO HB.out); refine start_ (n := 15) (S := fun w' => w'.cell? ⟨gb272, 0, none⟩ = some (.string ((rd_T87 s0_1 x13_1).f0)) ∧ w'.cell? ⟨gb272, 1, none⟩ = some (.int .i64 ((rd_T87 s0_1 x13_1).f1)) ∧ w'.cell? ⟨gb272, 2, none⟩ = some (.int .i64 ((rd_T87 s0_1 x13_1).f2)) ∧ w'.cell? ⟨gb272, 3, none⟩ = some (.slice A271_3 ((rd_T87 s0_1 x13_1).f3).length c271_3)) (ds := []) #[fF,fF,fF,fF,fF,fF,fF,fF,fF,fF,fF,fF,fF,fF,fF] (by kernel_rfl) rfl rfl ⟨(blk_cell BK272.out 0).trans rfl, (blk_cell BK272.out 1).trans rfl, (blk_cell BK272.out 2).trans rfl, (blk_cell BK272.out 3).trans rfl⟩ (fun hHeld => ?_); refine with_tabW view_View_Tree.tab7 view_View_Tree.bits7 (fun HT_ HW_ => ?_)
       generalize w13.drew = w14 at HO_3 BK272 HI0 HK HB hHeld ⊢
       refine pu 0 (some 17) ?_
       refine pu 1 (some 18) ?_
       refine pu 3 (some 20) ?_
       refine pu 5 (some 22) ?_
       refine pu 7 (some 24) ?_
       refine take_ (i := 2) (N := some 19) (v := ?_) (a' := ?_) #[tT,tT,tT,tT,fF,tT,fF,tT,fF,fF,fF,fF,fF,fF,fF] rfl rfl (take_ofW HT_.out HW_.out (by kernel_rfl)) (fun _ _ _ h => h) (Or.inl ⟨by rfl, ?_⟩) hHeld ?_ ?_
       rotate_left
       ·rintro w' ⟨s0, s1, s2, s3⟩
        go_simp
        with_reducible rfl
       rotate_left
       ·simp only [Act.put, sA, sB, sC, i64_w, i32_w]
        rfl
       refine take_ (i := 4) (N := some 21) (v := ?_) (a' := ?_) #[tT,tT,tT,tT,tT,tT,fF,tT,fF,fF,fF,fF,fF,fF,fF] rfl rfl (take_ofW HT_.out HW_.out (by kernel_rfl)) (fun _ _ _ h => h) (Or.inl ⟨by rfl, ?_⟩) hHeld ?_ ?_
       rotate_left
       ·rintro w' ⟨s0, s1, s2, s3⟩
        go_simp
        with_reducible rfl
       rotate_left
       ·simp only [Act.put, sA, sB, sC, i64_w, i32_w]
        rfl
       refine take_ (i := 6) (N := some 23) (v := ?_) (a' := ?_) #[tT,tT,tT,tT,tT,tT,tT,tT,fF,fF,fF,fF,fF,fF,fF] rfl rfl (take_ofW HT_.out HW_.out (by kernel_rfl)) (fun _ _ _ h => h) (Or.inl ⟨by rfl, ?_⟩) hHeld ?_ ?_
       rotate_left
       ·rintro w' ⟨s0, s1, s2, s3⟩
        go_simp
        with_reducible rfl
       rotate_left
       ·simp only [Act.put, sA, sB, sC, i64_w, i32_w]
        rfl
       refine take_ (i := 8) (N := some 25) (v := ?_) (a' := ?_) #[tT,tT,tT,tT,tT,tT,tT,tT,tT,fF,fF,fF,fF,fF,fF] rfl rfl (take_ofW HT_.out HW_.out (by kernel_rfl)) (fun _ _ _ h => h) (Or.inl ⟨by rfl, ?_⟩) hHeld ?_ ?_
       rotate_left
       ·rintro w' ⟨s0, s1, s2, s3⟩
        go_simp
        with_reducible rfl
       rotate_left
       ·simp only [Act.put, sA, sB, sC, i64_w, i32_w]
        rfl
       refine pu 9 (some 26) ?_
       refine one_ (i := 10) (N := some 27) #[tT,tT,tT,tT,tT,tT,tT,tT,tT,tT,tT,fF,fF,fF,fF] rfl rfl (one_of HT_.out (by kernel_rfl)) (by decide) (fun K hK => ?_)
       refine goes_ Tryd.func38 (by kernel_rfl) rfl #[.pointer (some ⟨g, 0, none⟩), .agg #[.string ((rd_T87 s0_1 x13_1).f0), .int .i64 ((rd_T87 s0_1 x13_1).f1), .int .i64 ((rd_T87 s0_1 x13_1).f2), .slice A271_3 ((rd_T87 s0_1 x13_1).f3).length c271_3], .int .i64 0, .int .i64 ji6] (by rfl) rfl rfl (by (try simp only [mT, mC, mN]); first | done | (simp only [hji6]; rfl) | rfl | (simp only [lD, lT]; rfl)) ?_
       with_reducible refine (view_View_data.calls k1 g s0_0 s0_1 ((rd_T87 s0_1 x13_1).f0) ((rd_T87 s0_1 x13_1).f1) ((rd_T87 s0_1 x13_1).f2) _ _ ((rd_T87 s0_1 x13_1).f3) 0 ji6 t273 w0 _ ?side1 ?side2 ?side3 ?side4 ?side5 A7.out).mono ?_
       (case side1 => repeat (first | (with_reducible first | exact HI0.out | apply IsS84.alloc | apply IsS84.drewN | apply IsS84.drew | refine IsS84.far ?_ NB0_272.out _) | exact HI0.out))
       (case side2 => repeat (first | (with_reducible first | exact HB.out | apply bA | apply bN | apply bO | refine below_set ?_ (IsS84.ge HI0.out) | refine below_set ?_ GE272.out) | exact HB.out))
       (case side3 => exact (Kd.C_below HRw271_3.out (by repeat (first | (with_reducible first | exact HB.out | apply bA | apply bN | apply bO | refine below_set ?_ (IsS84.ge HI0.out) | refine below_set ?_ GE272.out) | exact HB.out))))
       (case side4 => exact HC271_3.out)
       (case side5 => exact hf271_3)
       rintro e w15 ⟨rfl, hi, hb, hk⟩; refine ⟨_, rfl, ?_⟩
       replace HO_3 := am (Kd.R_mono (Kd.R_keep (IsS84.apart (show IsS84 w0 _ g s0_0 s0_1 from by repeat (first | (with_reducible first | exact HI0.out | apply IsS84.alloc | apply IsS84.drewN | apply IsS84.drew | refine IsS84.far ?_ NB0_272.out _) | exact HI0.out)) (rz HO_3.out) (by decide)) hk (fun _ h => h.2)) (fun _ h => h.1)); replace BK272 := am (KeepBut.blk hk (g' := gb272) (o := .cells #[.string ((rd_T87 s0_1 x13_1).f0), .int .i64 ((rd_T87 s0_1 x13_1).f1), .int .i64 ((rd_T87 s0_1 x13_1).f2), .slice A271_3 ((rd_T87 s0_1 x13_1).f3).length c271_3] 87 (0, 0)) (bk BK272.out) NB272_0.out (by simp)); replace HK := am (KeepBut.trans (by repeat (first | (with_reducible first | exact HK.out | apply KeepBut.set_ | apply keep_drewN | apply keep_drew | apply keep_alloc | refine keep_far ?_ GW272.out _) | exact HK.out)) hk (.inl rfl)); replace HB := am (hb); replace HI0 := am (hi); refine hK.out _ _ ⟨(blk_cell BK272.out 0).trans rfl, (blk_cell BK272.out 1).trans rfl, (blk_cell BK272.out 2).trans rfl, (blk_cell BK272.out 3).trans rfl⟩ (fun hHeld => ?_)
       clear hK K; refine norm_ (a' := ?_) ?_ ?_
       rotate_left
       ·show Act.put _ (some 27) _ = _
        simp only [Act.put, sA, sB, sC, i64_w, i32_w]
        rfl
       refine pu 11 (some 28) ?_
       refine one_ (i := 12) (N := some 29) #[tT,tT,tT,tT,tT,tT,tT,tT,tT,tT,tT,tT,tT,fF,fF] rfl rfl (one_of HT_.out (by kernel_rfl)) (by decide) (fun K hK => ?_)
       refine value_ (w1 := ?_) (v := ?_) (by rfl) rfl ?_ ?_
       rotate_left 2
       ·go_simp
        constructor
        ·rfl
        ·rfl
       refine hK.out _ _ ⟨(blk_cell (kA BK272.out _) 0).trans rfl, (blk_cell (kA BK272.out _) 1).trans rfl, (blk_cell (kA BK272.out _) 2).trans rfl, (blk_cell (kA BK272.out _) 3).trans rfl⟩ (fun hHeld => ?_)
       clear hK K; refine norm_ (a' := ?_) ?_ ?_
       rotate_left
       ·show Act.put _ (some 29) _ = _
        simp only [Act.put, sA, sB, sC, i64_w, i32_w]
        rfl
       refine one_ (i := 13) (N := some 30) #[tT,tT,tT,tT,tT,tT,tT,tT,tT,tT,tT,tT,tT,tT,fF] rfl rfl (one_of HT_.out (by kernel_rfl)) (by decide) (fun K hK => ?_)
       refine Kd.R_append_step k35 w.heap.size (by rfl) (.tmp 17) (.tmp 29) 22 35 (.agg #[(.string ⟨#[]⟩), (.int .i64 0), (.string ⟨#[]⟩)]) 40 rfl Tryd.underlying22 info35 rfl (by decide) (by omega) u3 x3_1 (⟨(rd_T87 s0_1 x13_1).f0, (rd_T87 s0_1 x13_1).f1, t273⟩ : S35) [.string ((rd_T87 s0_1 x13_1).f0), .int .i64 ((rd_T87 s0_1 x13_1).f1), .string t273] (fun _ => True) (fun _ => False) rfl rfl ?aP (fun _ hk => hk.elim) ?aF ?aO (Below.refl _ _) ?aS ?aL ?_
       (case aP => exact k35_mkM _ _ _ (⟨(rd_T87 s0_1 x13_1).f0, (rd_T87 s0_1 x13_1).f1, t273⟩ : S35))
       (case aF => exact (fun _ _ => trivial))
       (case aO => exact (rz HO_3.out))
       (case aS => exact (keep_size (w := w) (g := g) (row := none) (by repeat (first | (with_reducible first | exact HK.out | apply KeepBut.set_ | apply keep_drewN | apply keep_drew | apply keep_alloc | refine keep_far ?_ GW272.out _) | exact HK.out))))
       (case aL => have := LMc8.out; omega)
       intro v275 w16 ho hb hg hat; rw [← Ny274.out] at ho; have n0_ := am (IsS84.grown (by repeat (first | (with_reducible first | exact HI0.out | apply IsS84.alloc | apply IsS84.drewN | apply IsS84.drew | refine IsS84.far ?_ NB0_272.out _) | exact HI0.out)) hg (IsS84.own_ne HI0.out HO_3.out (by decide))); have n1_ := am (blk_grown (g := gb272) (o := .cells #[.string ((rd_T87 s0_1 x13_1).f0), .int .i64 ((rd_T87 s0_1 x13_1).f1), .int .i64 ((rd_T87 s0_1 x13_1).f2), .slice A271_3 ((rd_T87 s0_1 x13_1).f3).length c271_3] 87 (0, 0)) (bk BK272.out) hg (Kd.R_ne HO_3.out BK272.out (by decide))); have n2_ := am (below_weaken (by repeat (first | (with_reducible first | exact HB.out | apply bA | apply bN | apply bO | refine below_set ?_ (IsS84.ge HI0.out) | refine below_set ?_ GE272.out) | exact HB.out)) HL.out hb); have n3_ := am (KeepBut.trans (by repeat (first | (with_reducible first | exact HK.out | apply KeepBut.set_ | apply keep_drewN | apply keep_drew | apply keep_alloc | refine keep_far ?_ GW272.out _) | exact HK.out)) (KeepBut.of_grown hg g) (Kd.R_base2 HO_3.out)); have n4_ := am (ho); clear HI0; clear BK272; clear HB; clear HK; clear HO_3; have HI0 := n0_; have BK272 := n1_; have HB := n2_; have HK := n3_; have HO276 := n4_; clear n0_ n1_ n2_ n3_ n4_; clear ho hb hg hat; refine hK.out _ _ ⟨(blk_cell BK272.out 0).trans rfl, (blk_cell BK272.out 1).trans rfl, (blk_cell BK272.out 2).trans rfl, (blk_cell BK272.out 3).trans rfl⟩ (fun hHeld => ?_)
       clear hK K; refine norm_ (a' := ?_) ?_ ?_
       rotate_left
       ·show Act.put _ (some 30) _ = _
        simp only [Act.put, sA, sB, sC, i64_w, i32_w]
        rfl
       refine pu 14 (some 3) ?_
       refine done_ (done_of HT_.out (by kernel_rfl)) ?_
       try go_wp2
       go_roundg k1
       case measure => have := HK1.out; omega
       case rel => exact ⟨(y274), (wrap64 (x13_1 + 1)), (by first | rfl | (simp; done) | (simp [*]; done)), H', ⟨by have := HK1.out; omega⟩, ⟨rz HO276.out⟩, ⟨by repeat (first | (with_reducible first | exact HI0.out | apply IsS84.alloc | apply IsS84.drewN | apply IsS84.drew | refine IsS84.far ?_ NB0_272.out _) | exact HI0.out)⟩, ⟨by repeat (first | (with_reducible first | exact HK.out | apply KeepBut.set_ | apply keep_drewN | apply keep_drew | apply keep_alloc | refine keep_far ?_ GW272.out _) | exact HK.out)⟩, ⟨by repeat (first | (with_reducible first | exact HB.out | apply bA | apply bN | apply bO | refine below_set ?_ (IsS84.ge HI0.out) | refine below_set ?_ GE272.out) | exact HB.out)⟩⟩
      ·rw [if_neg c8] at H
       exact absurd H (by simp)
     ·rw [if_neg c5] at H
      exact absurd H (by simp)
    ·rw [if_neg c4] at H
     exact absurd H (by simp)
   ·rw [if_neg c3] at H
    have c3b0 : decide (x13_1 < (s0_1.length : Int)) = false := decide_eq_false c3; clear c3; obtain rfl := Option.some.inj H; go_wp2
    go_ret; exact ⟨_, by first | rfl | (simp [eN, eS] <;> rfl) | (simp [*, eN, eS] <;> rfl), by (with_reducible repeat (first | apply rA | apply rN | apply rD)); exact HO_3.out, by repeat (first | (with_reducible first | exact HI0.out | apply IsS84.alloc | apply IsS84.drewN | apply IsS84.drew) | exact HI0.out), by repeat (first | (with_reducible first | exact HB.out | apply bA | apply bN | apply bO | refine below_set ?_ (IsS84.ge HI0.out)) | exact HB.out), by repeat (first | (with_reducible first | exact HK.out | apply KeepBut.set_ | apply keep_drewN | apply keep_drew | apply keep_alloc) | exact HK.out)⟩

/-- A state of type 79 at block g of W; what its slices lead to came in by w0. -/
def IsS79 (w0 W : World) (g : Nat) (f0 : List Int) (f1 : Bool) : Prop := ∃ A0 c0, W.heap[g]? = some (.cells #[.slice A0 f0.length c0, .bool f1] 79 (0, 0)) ∧ w0.heap.size ≤ g ∧ (Kd.C (Kd.int .u8) w0 A0 f0.length f0 ∧ f0.length ≤ c0)
theorem IsS79.grown {w0 W : World} {g : Nat} {f0 : List Int} {f1 : Bool} {W1 : World} {row : Option Nat} (h : IsS79 w0 W g f0 f1) (hw : W.grownBy W1 row) (hne : some g ≠ row) : IsS79 w0 W1 g f0 f1 := by
 obtain ⟨A0, c0, hb, hg, hr0⟩ := h; exact ⟨A0, c0, blk_grown hb hw hne, hg, hr0⟩
theorem IsS79.own_neN {w0 W : World} {g : Nat} {f0 : List Int} {f1 : Bool} {α : Type} {d : Kd α} {e : Nat} {base : Nat} {ok : Nat → Prop} {v : Value} {xs : List α} (h : IsS79 w0 W g f0 f1) (ho : Kd.N d e W base ok v xs) (ht : e ≠ 79) : some g ≠ v.ownBlock := by
 obtain ⟨A0, c0, hb, hg, hr0⟩ := h; exact Kd.N_ne ho hb ht
theorem IsS79.fresh {w0 W : World} {g : Nat} {f0 : List Int} {f1 : Bool} (h : IsS79 w0 W g f0 f1) : ∀ k, W.heap.size ≤ k → k ≠ g := by
 obtain ⟨A0, c0, hb, hg, hr0⟩ := h; exact Kd.freshB hb
theorem IsS79.kept {w0 W : World} {g : Nat} {f0 : List Int} {f1 : Bool} {W1 : World} {S : Nat → Prop} (h : IsS79 w0 W g f0 f1) (hk : Kept W W1 S) (hne : ¬ S g) : IsS79 w0 W1 g f0 f1 := by
 obtain ⟨A0, c0, hb, hg, hr0⟩ := h; exact ⟨A0, c0, blk_kept hb hk hne, hg, hr0⟩
theorem IsS79.below {w0 W : World} {g : Nat} {f0 : List Int} {f1 : Bool} {W1 : World} (h : IsS79 w0 W g f0 f1) (hw : Below W.heap.size W W1) : IsS79 w0 W1 g f0 f1 := h.grown (grown_of_below hw none) (by simp)
theorem IsS79.alloc {w0 W : World} {g : Nat} {f0 : List Int} {f1 : Bool} (h : IsS79 w0 W g f0 f1) (o : Obj) : IsS79 w0 (W.alloc o) g f0 f1 := h.below (bA (Below.refl _ _) o)
theorem IsS79.drewN {w0 W : World} {g : Nat} {f0 : List Int} {f1 : Bool} (h : IsS79 w0 W g f0 f1) (m : Nat) : IsS79 w0 (W.drewN m) g f0 f1 := h
theorem IsS79.drew {w0 W : World} {g : Nat} {f0 : List Int} {f1 : Bool} (h : IsS79 w0 W g f0 f1) : IsS79 w0 W.drew g f0 f1 := h
theorem IsS79.at_ {w0 W : World} {g : Nat} {f0 : List Int} {f1 : Bool} {w' : World} {m : Nat} (hq : W.drewN m = w') (h : IsS79 w0 W g f0 f1) : IsS79 w0 w' g f0 f1 := by subst hq; exact IsS79.drewN h m
theorem IsS79.apart {w0 W : World} {g : Nat} {f0 : List Int} {f1 : Bool} {α : Type} {d : Kd α} {e : Nat} {base : Nat} {ok : Nat → Prop} {v : Value} {xs : List α} (h : IsS79 w0 W g f0 f1) (ho : d.R e W base ok v xs) (ht : ∀ q, q ∈ e :: d.E → q ≠ 79) : d.R e W base (fun k => ok k ∧ k ≠ g) v xs := by
 obtain ⟨A0, c0, hb, hg, hr0⟩ := h; exact Kd.R_types ho hb ht
theorem IsS79.own_ne {w0 W : World} {g : Nat} {f0 : List Int} {f1 : Bool} {α : Type} {d : Kd α} {e : Nat} {base : Nat} {ok : Nat → Prop} {v : Value} {xs : List α} (h : IsS79 w0 W g f0 f1) (ho : d.R e W base ok v xs) (ht : e ≠ 79) : some g ≠ v.ownBlock := by
 obtain ⟨A0, c0, hb, hg, hr0⟩ := h; exact Kd.R_ne ho hb ht
theorem IsS79.apartQ {w0 W : World} {g : Nat} {f0 : List Int} {f1 : Bool} {α : Type} {d : Kd α} {e : Nat} {base : Nat} {ok : Nat → Prop} {v : Value} {xs : List α} (h : IsS79 w0 W g f0 f1) (ho : d.Q e W base ok v xs) (ht : ∀ q, q ∈ e :: d.E → q ≠ 79) : d.Q e W base (fun k => ok k ∧ k ≠ g) v xs := by
 obtain ⟨A0, c0, hb, hg, hr0⟩ := h; exact Kd.Q_types ho hb ht
theorem IsS79.own_neQ {w0 W : World} {g : Nat} {f0 : List Int} {f1 : Bool} {α : Type} {d : Kd α} {e : Nat} {base : Nat} {ok : Nat → Prop} {v : Value} {xs : List α} (h : IsS79 w0 W g f0 f1) (ho : d.Q e W base ok v xs) (ht : e ≠ 79) : some g ≠ v.ownBlock := by
 obtain ⟨A0, c0, hb, hg, hr0⟩ := h; exact Kd.Q_ne ho hb ht
theorem IsS79.apartS {w0 W : World} {g : Nat} {f0 : List Int} {f1 : Bool} {α : Type} {d : Kd α} {e : Nat} {base : Nat} {ok : Nat → Prop} {v : Value} {xs : List α} (h : IsS79 w0 W g f0 f1) (ho : d.S e W base ok v xs) (ht : ∀ q, q ∈ e :: d.E → q ≠ 79) : d.S e W base (fun k => ok k ∧ k ≠ g) v xs := by
 obtain ⟨A0, c0, hb, hg, hr0⟩ := h; exact Kd.S_types ho hb ht
theorem IsS79.own_neS {w0 W : World} {g : Nat} {f0 : List Int} {f1 : Bool} {α : Type} {d : Kd α} {e : Nat} {base : Nat} {ok : Nat → Prop} {v : Value} {xs : List α} (h : IsS79 w0 W g f0 f1) (ho : d.S e W base ok v xs) (ht : e ≠ 79) : some g ≠ v.ownBlock := by
 obtain ⟨A0, c0, hb, hg, hr0⟩ := h; exact Kd.S_ne ho hb ht
theorem IsS79.lt {w0 W : World} {g : Nat} {f0 : List Int} {f1 : Bool} (h : IsS79 w0 W g f0 f1) : g < W.heap.size := by
 obtain ⟨A0, c0, hb, hg, hr0⟩ := h; exact blk_lt hb
theorem IsS79.ge {w0 W : World} {g : Nat} {f0 : List Int} {f1 : Bool} (h : IsS79 w0 W g f0 f1) : w0.heap.size ≤ g := by
 obtain ⟨A0, c0, hb, hg, hr0⟩ := h; exact hg
theorem IsS79.ne_blk {w0 W : World} {g : Nat} {f0 : List Int} {f1 : Bool} {a : Nat} {cs : Array Value} {t : TypeId} {fr : Nat × Nat} (h : IsS79 w0 W g f0 f1) (hb2 : W.heap[a]? = some (.cells cs t fr)) (ht : t ≠ 79) : g ≠ a := by
 obtain ⟨A0, c0, hb, hg, hr0⟩ := h; rintro rfl; rw [hb] at hb2; injection hb2 with hb2; injection hb2 with _ ht2; exact ht ht2.symm
theorem IsS79.far {w0 W : World} {g : Nat} {f0 : List Int} {f1 : Bool} {p : Addr} (h : IsS79 w0 W g f0 f1) (hne : g ≠ p.block) (u : Value) : IsS79 w0 (W.setCell p u) g f0 f1 := by
 obtain ⟨A0, c0, hb, hg, hr0⟩ := h; exact ⟨A0, c0, blk_far hb hne u, hg, hr0⟩
theorem cellS79_0 {W : World} {g : Nat} {A0 : Option Addr} {c0 : Nat} {f0 : List Int} {f1 : Bool} (h : W.heap[g]? = some (.cells #[.slice A0 f0.length c0, .bool f1] 79 (0, 0))) : W.cell? ⟨g, 0, none⟩ = some (.slice A0 f0.length c0) := (blk_cell h 0).trans rfl
theorem cellS79_1 {W : World} {g : Nat} {A0 : Option Addr} {c0 : Nat} {f0 : List Int} {f1 : Bool} (h : W.heap[g]? = some (.cells #[.slice A0 f0.length c0, .bool f1] 79 (0, 0))) : W.cell? ⟨g, 1, none⟩ = some (.bool f1) := (blk_cell h 1).trans rfl
theorem IsS79.set_1 {w0 W : World} {g : Nat} {f0 : List Int} {f1 : Bool} (h : IsS79 w0 W g f0 f1) (x : Bool) : IsS79 w0 (W.setCell ⟨g, 1, none⟩ (.bool x)) g f0 x := by
 obtain ⟨A0, c0, hb, hg, hr0⟩ := h; exact ⟨A0, c0, by simpa using blk_set hb 1 (.bool x), hg, hr0⟩
theorem IsS79.new (w0 W : World) (A0 : Option Addr) (c0 : Nat) (f0 : List Int) (f1 : Bool) (hB : Below w0.heap.size w0 W) (hr0 : (Kd.C (Kd.int .u8) w0 A0 f0.length f0 ∧ f0.length ≤ c0)) : IsS79 w0 (W.alloc (.cells #[.slice A0 f0.length c0, .bool f1] 79)) W.heap.size f0 f1 := ⟨A0, c0, by simpa using heap_alloc_new W _, hB.size, hr0⟩

end Go.Proofs.YthbdbgjggoobnaaDoor.P
-- FIX_VIEW
