/- Laid by a program of this session (wip/pr), after the printer of the kit: the functions that a statement reaches as plain Lean functions, and that the calls of the machine come to them. No condition. -/
import Derived.Test.YthbdbgjggoobnaaDoorPx0
import Derived.Test.YthbdbgjggoobnaaDoorPx5
import Derived.Test.YthbdbgjggoobnaaDoorPx7
namespace Go.Proofs.YthbdbgjggoobnaaDoor.P
open Go.RowKit Go.Proofs.YthbdbgjggoobnaaDoorX Go.Proofs.YthbdbgjggoobnaaDoorW.PrintWords Go.Proofs.YthbdbgjggoobnaaDoorW.PrintLast Go.Proofs.YthbdbgjggoobnaaDoorW.PrintMore
attribute [local go_sem] max2_int min2_int max_two min_two
set_option linter.unusedVariables false
set_option linter.unusedSimpArgs false

/-! ### image_parts: function 28 -/
/-- A store into a variable of another type: the table stays. -/
theorem IsS104.box3 {w0 W : World} {g b : Nat} {f0 : List ByteArray} {f1 : Bool} {cs : Array Value} {t : TypeId} {fr : Nat × Nat} (h : IsS104 w0 W g f0 f1) (hb : W.heap[b]? = some (.cells cs t fr)) (ht : t ≠ 104 ∧ t ≠ 9) (u v x : Value) : IsS104 w0 (((W.setCell ⟨b, 0, none⟩ u).setCell ⟨b, 1, none⟩ v).setCell ⟨b, 2, none⟩ x) g f0 f1 :=
 h.step (fun k _ hk => by
  have h1 : k ≠ b := fun e => by
   subst e; rcases (h.typed k hk).2 _ _ _ hb with h2 | h2
   ·exact ht.1 h2
   ·exact ht.2 h2
  exact ((Below.heap_setCell _ ⟨b, 2, none⟩ x k h1).trans (Below.heap_setCell _ ⟨b, 1, none⟩ v k h1)).trans (Below.heap_setCell _ ⟨b, 0, none⟩ u k h1))
/-- A variable of another type stays where the table's blocks alone change. -/
theorem keptT_blk {w0 W W1 : World} {g b : Nat} {f0 : List ByteArray} {f1 : Bool} {cs : Array Value} {t : TypeId} {fr : Nat × Nat} (hk : Kept W W1 (TabAt W g)) (h : IsS104 w0 W g f0 f1) (hb : W.heap[b]? = some (.cells cs t fr)) (ht : t ≠ 104 ∧ t ≠ 9) : W1.heap[b]? = some (.cells cs t fr) :=
 (hk.2 b (blk_lt hb) (fun hk' => by
  rcases (h.typed b hk').2 _ _ _ hb with h2 | h2
  ·exact ht.1 h2
  ·exact ht.2 h2)).trans hb
/-- What a table's All tells. -/
theorem tab_all {L : List ByteArray} {b : Bool} {r1 r2 : List ByteArray} {r3 : Bool} (h : blocks_Table_All.f L b = some (r1, r2, r3)) : r1 = L := by
 unfold blocks_Table_All.f slices_Clone_string_string.f at h
 by_cases hl : ([] : List ByteArray).length + L.length < 8796093022208
 ·simp only [Option.bind_some, hl, if_true, List.nil_append, Option.some.injEq, Prod.mk.injEq] at h
  exact h.1.symm
 ·simp only [Option.bind_some, hl, if_false, Option.bind_none] at h
  cases h
def image_parts.l0 : Nat → List (List Int) → List (S35) → Int → Int → List ByteArray → Bool → Option (List ByteArray × (List (List Int)))
 | 0, _, _, _, _, _, _ => none
 | k + 1, x5, x11, x12, x13, x141000, x141001 => if x13 < x12 then (if 0 ≤ x13 then (if x13 < (x11.length : Int) then ((blocks_Table_Put.f k x141000 x141001 ((rd_T35 x11 x13).f2)).bind fun bt143 => (if x5.length < 5864062014805 then (image_parts.l0 k (x5 ++ [bt143.1]) x11 x12 (wrap64 (x13 + 1)) bt143.2.2.1 bt143.2.2.2) else (none))) else (none)) else (none)) else ((blocks_Table_All.f x141000 x141001).bind fun bt152 => (some (bt152.1, x5)))
def image_parts.f (k : Nat) (l0 : List (S35)) : Option (List ByteArray × (List (List Int))) := (blocks_New.f).bind fun bt138 => (image_parts.l0 k ([] : List (List Int)) l0 (l0.length : Int) 0 bt138.1 bt138.2)
theorem image_parts.mono_l : ∀ k, (∀ y0 y1 y2 y3 y4 y5, LeO (image_parts.l0 k y0 y1 y2 y3 y4 y5) (image_parts.l0 (k + 1) y0 y1 y2 y3 y4 y5))
 | 0 => fun _ _ _ _ _ _ r h => by simp [image_parts.l0] at h
 | k + 1 => by
  have ih0 := image_parts.mono_l k
  ·intro y0 y1 y2 y3 y4 y5
   unfold image_parts.l0
   repeat' with_reducible first | exact ih0 _ _ _ _ _ _ | exact blocks_Table_Put.mono _ _ _ _ | exact LeO.refl _ | exact LeO.none _ | refine LeO.ite ?_ ?_ | refine LeO.bind ?_ (fun _ => ?_)
theorem image_parts.mono : ∀ a0 k, LeO (image_parts.f k a0) (image_parts.f (k + 1) a0) := by
 intro a0 k; have ih0 := image_parts.mono_l k; unfold image_parts.f
 repeat' with_reducible first | exact ih0 _ _ _ _ _ _ | exact blocks_Table_Put.mono _ _ _ _ | exact LeO.refl _ | exact LeO.none _ | refine LeO.ite ?_ ?_ | refine LeO.bind ?_ (fun _ => ?_)
set_option maxHeartbeats 8000000 in
set_option maxRecDepth 100000 in
theorem image_parts.calls (k : Nat) (A0 : Option Addr) (c0 : Nat) (l0 : List (S35)) (r1 : List ByteArray) (r2 : List (List Int)) (w : World) (hr0 : Kd.C k35 w A0 l0.length l0) (hc0 : l0.length ≤ c0) (h : image_parts.f k l0 = some (r1, r2)) :
  Calls Tryd.prog 28 #[.slice A0 l0.length c0] w fun e w' => ∃ (g_ : Nat) (b_ : Bool) (v1_ : Value), e = .returned (.tuple #[.pointer (some ⟨g_, 0, none⟩), v1_]) ∧ IsS104 w w' g_ r1 b_ ∧ Kd.S (Kd.slice 3 (Kd.int .i64)) 76 w' w.heap.size (fun _ => True) v1_ r2 ∧ Below w.heap.size w w' := by
 have hu35 := Tryd.underlying35; have HR0 := am hr0; have HC0 := am hc0; clear hr0 hc0; have HB := am (Below.refl w.heap.size w); have H : ((blocks_New.f).bind fun bt138 => (image_parts.l0 k ([] : List (List Int)) l0 (l0.length : Int) 0 bt138.1 bt138.2)) = some (r1, r2) := h; clear h; replace H := oB H; obtain ⟨⟨t138, t139⟩, A20, H⟩ := H; replace H : (image_parts.l0 k ([] : List (List Int)) l0 (l0.length : Int) 0 t138 t139) = some (r1, r2) := H; have A2 := am A20; clear A20; have H' := am H; clear H; go_enter Tryd.func28, Tryd.ntmps28; go_wp2_with (first | ((with_reducible refine gate_callee (f := 46) rfl ?_); refine gL (some 10) Tryd.func46 #[] ?_; (with_reducible refine (blocks_New.calls  t138 t139 w _ ?side1 A2.out).mono ?_); (case side1 => repeat (first | (with_reducible first | exact HB.out | apply bA | apply bN | apply bO) | exact HB.out)); rintro e w3 ⟨g140, rfl, hi, hb, hb2⟩; refine ⟨_, rfl, ?_⟩; replace HB := am (hb); have HI140 := am (hi)))
 go_loopg [5, 13] k (fun kq v5 v13 w' => ∃ (x5_1 : List (List Int)) (x13_1 : Int) (x141000_1 : List ByteArray) (x141001_1 : Bool) (u141000 : Value), v13 = .int .i64 x13_1 ∧ Aside0 (image_parts.l0 kq x5_1 l0 (l0.length : Int) x13_1 x141000_1 x141001_1 = some (r1, r2)) ∧ Aside0 (kq ≤ k) ∧ Aside0 (Kd.S (Kd.slice 3 (Kd.int .i64)) 76 w' w.heap.size (fun _ => True) v5 x5_1) ∧ Aside0 (IsS104 w w' g140 x141000_1 x141001_1) ∧ Aside0 (Below w.heap.size w w'))
 case atStart => exact ⟨(([] : List (List Int))), (0), (t138), (t139), (Value.bool false), (by first | rfl | (simp; done) | (simp [*]; done)), H', ⟨Nat.le_refl _⟩, ⟨by first | exact Kd.S_nil _ _ _ _ _ | exact Kd.N_nil _ _ _ _ _ | exact Kd.V_nil _ _ _ _ _ | exact Kd.Q_nil _ _ _ _ _ | exact Kd.R_nil _ _ _ _ _⟩, ⟨by repeat (first | (with_reducible first | exact HI140.out | apply IsS104.alloc | apply IsS104.drewN | apply IsS104.drew | apply IsS104.set_0 | apply IsS104.set_1) | exact HI140.out)⟩, ⟨by repeat (first | (with_reducible first | exact HB.out | apply bA | apply bN | apply bO | refine below_set ?_ (IsS104.ge HI140.out)) | exact HB.out)⟩⟩
 case round =>
  clear H'; (try clear c2); (try clear p2); obtain ⟨x5_1, x13_1, x141000_1, x141001_1, u141000, rfl, HA, HK1, HO_5, HI140, HB⟩ := hrel; cases gk with
  | zero => exact absurd HA.out (by simp [image_parts.l0])
  | succ k1 =>
   have H := HA.out; clear HA; simp only [image_parts.l0] at H
   by_cases c4 : x13_1 < (l0.length : Int)
   ·rw [if_pos c4] at H
    have c4b0 : decide (x13_1 < (l0.length : Int)) = true := decide_eq_true c4; clear c4; by_cases c5 : 0 ≤ x13_1
    ·rw [if_pos c5] at H
     have c5b0 : decide (0 ≤ x13_1) = true := decide_eq_true c5; clear c5; by_cases c6 : x13_1 < (l0.length : Int)
     ·rw [if_pos c6] at H
      have c6b0 : decide (x13_1 < (l0.length : Int)) = true := decide_eq_true c6; clear c6; replace H := oB H; obtain ⟨⟨t143, t146, t147, t148⟩, A70, H⟩ := H; replace H : (if x5_1.length < 5864062014805 then (image_parts.l0 k1 (x5_1 ++ [t143]) l0 (l0.length : Int) (wrap64 (x13_1 + 1)) t147 t148) else (none)) = some (r1, r2) := H; have A7 := am A70; clear A70; by_cases c8 : x5_1.length < 5864062014805
      ·rw [if_pos c8] at H
       have LMc8 := am c8; clear c8; obtain ⟨y149, hy149⟩ : ∃ y_ : List (List Int), y_ = (x5_1 ++ [t143]) := ⟨_, rfl⟩; try rw [← hy149] at H
       have Ny149 := am hy149; clear hy149; have H' := am H; clear H; have p141 : 0 ≤ (x13_1 : Int) := of_decide_eq_true (by assumption); have q141 : x13_1 < (l0.length : Int) := of_decide_eq_true (by assumption); obtain ⟨ad141, e141, hx141_0, hx141_1, hx141_2⟩ := at_T35 HR0.out x13_1 p141 q141; cases e141; replace hx141_0 := (HB.out.cell (wB w _ hx141_0)).trans hx141_0; replace hx141_1 := (HB.out.cell (wB w _ hx141_1)).trans hx141_1; replace hx141_2 := (HB.out.cell (wB w _ hx141_2)).trans hx141_2; replace p141 := eq_true p141; replace q141 := eq_true q141; go_wp2_with (first | ((with_reducible refine gate_dst (N := 7) rfl ?_); refine bx 7 #[.string (⟨#[]⟩ : ByteArray), .int .i64 0, .string (⟨#[]⟩ : ByteArray)] 35 ?_; intro gb142 hg w9 hbox hb; replace HO_5 := am (Kd.S_below (by (with_reducible repeat (first | apply Kd.S_alloc | apply Kd.S_drewN | apply Kd.S_drew)); exact HO_5.out) hb); have BK142 := am (hbox); have GW142 := am ((by rw [hg]; exact (below_size (by repeat (first | (with_reducible first | exact HB.out | apply bA | apply bN | apply bO | refine below_set ?_ (IsS104.ge HI140.out)) | exact HB.out))) : w.heap.size ≤ gb142)); have GE142 := am ((by rw [hg]; exact (below_size (by repeat (first | (with_reducible first | exact HB.out | apply bA | apply bN | apply bO | refine below_set ?_ (IsS104.ge HI140.out)) | exact HB.out))) : w.heap.size ≤ gb142)); replace HB := am (below_step (by repeat (first | (with_reducible first | exact HB.out | apply bA | apply bN | apply bO | refine below_set ?_ (IsS104.ge HI140.out)) | exact HB.out)) hb); have NB140_142 := am ((by rw [hg]; exact Nat.ne_of_lt (IsS104.lt (show IsS104 w _ g140 x141000_1 x141001_1 from by repeat (first | (with_reducible first | exact HI140.out | apply IsS104.alloc | apply IsS104.drewN | apply IsS104.drew | apply IsS104.set_0 | apply IsS104.set_1) | exact HI140.out))) : g140 ≠ gb142)); have NB142_140 := am ((by rw [hg]; exact Nat.ne_of_gt (IsS104.lt (show IsS104 w _ g140 x141000_1 x141001_1 from by repeat (first | (with_reducible first | exact HI140.out | apply IsS104.alloc | apply IsS104.drewN | apply IsS104.drew | apply IsS104.set_0 | apply IsS104.set_1) | exact HI140.out))) : gb142 ≠ g140)); replace HI140 := am (IsS104.below (by repeat (first | (with_reducible first | exact HI140.out | apply IsS104.alloc | apply IsS104.drewN | apply IsS104.drew | apply IsS104.set_0 | apply IsS104.set_1) | exact HI140.out)) hb); clear hb hbox hg; have hnb10 := NB142_140.out; have hnc10 := NB140_142.out; obtain ⟨hcz11_0, hcz11_1, hcz11_2⟩ := cq3 BK142.out; obtain ⟨hfz11_0, hfz11_1, hfz11_2⟩ := fq3 BK142.out) | ((with_reducible refine gate_callee (f := 47) rfl ?_); refine gL (some 21) Tryd.func47 #[.pointer (some ⟨g140, 0, none⟩), .string ((rd_T35 l0 x13_1).f2)] ?_; (with_reducible refine (blocks_Table_Put.calls k1 g140 x141000_1 x141001_1 ((rd_T35 l0 x13_1).f2) t143 t146 t147 t148 w _ ?side1 ?side2 A7.out).mono ?_); (case side1 => repeat (first | exact IsS104.box3 HI140.out BK142.out (by decide) _ _ _ | (with_reducible first | exact HI140.out | apply IsS104.alloc | apply IsS104.drewN | apply IsS104.drew | apply IsS104.set_0 | apply IsS104.set_1) | exact HI140.out)); (case side2 => repeat (first | (with_reducible first | exact HB.out | apply bA | apply bN | apply bO | refine below_set ?_ (IsS104.ge HI140.out) | refine below_set ?_ GE142.out) | exact HB.out)); rintro e w12 ⟨v144, rfl, ho0, hi, hb, hk⟩; refine ⟨_, rfl, ?_⟩; replace HO_5 := am (Kd.S_mono (Kd.S_told (S_oldT (IsS104.apartTS (show IsS104 w _ g140 x141000_1 x141001_1 from by repeat (first | exact IsS104.box3 HI140.out BK142.out (by decide) _ _ _ | (with_reducible first | exact HI140.out | apply IsS104.alloc | apply IsS104.drewN | apply IsS104.drew | apply IsS104.set_0 | apply IsS104.set_1) | exact HI140.out)) (by (with_reducible repeat (first | apply Kd.S_alloc | apply Kd.S_drewN | apply Kd.S_drew)); exact (Kd.S_mono (Kd.S_far (p := ⟨gb142, 2, none⟩) (Kd.S_far (p := ⟨gb142, 1, none⟩) (Kd.S_far (p := ⟨gb142, 0, none⟩) (Kd.S_types HO_5.out BK142.out (by decide)) (fun _ hk => hk.2) (.string ((rd_T35 l0 x13_1).f0))) (fun _ hk => hk.2) (.int .i64 ((rd_T35 l0 x13_1).f1))) (fun _ hk => hk.2) (.string ((rd_T35 l0 x13_1).f2))) (fun _ h_ => h_.1))) (by decide)) hk) (Kd.R_base ho0)) (fun _ h_ => h_.1)); replace BK142 := am (keptT_blk (cs := #[.string ((rd_T35 l0 x13_1).f0), .int .i64 ((rd_T35 l0 x13_1).f1), .string ((rd_T35 l0 x13_1).f2)]) (t := 35) (fr := (0, 0)) hk (show IsS104 w _ g140 x141000_1 x141001_1 from (by repeat (first | exact IsS104.box3 HI140.out BK142.out (by decide) _ _ _ | (with_reducible first | exact HI140.out | apply IsS104.alloc | apply IsS104.drewN | apply IsS104.drew) | exact HI140.out))) (by (with_reducible repeat (first | refine kN ?_ _ | refine kD ?_ | refine kA ?_ _)); refine blk_put (cs := #[.string ((rd_T35 l0 x13_1).f0), .int .i64 ((rd_T35 l0 x13_1).f1), .string (⟨#[]⟩ : ByteArray)]) ?_ 2 _ rfl; (with_reducible repeat (first | refine kN ?_ _ | refine kD ?_ | refine kA ?_ _)); refine blk_put (cs := #[.string ((rd_T35 l0 x13_1).f0), .int .i64 0, .string (⟨#[]⟩ : ByteArray)]) ?_ 1 _ rfl; (with_reducible repeat (first | refine kN ?_ _ | refine kD ?_ | refine kA ?_ _)); refine blk_put (cs := #[.string (⟨#[]⟩ : ByteArray), .int .i64 0, .string (⟨#[]⟩ : ByteArray)]) ?_ 0 _ rfl; (with_reducible repeat (first | refine kN ?_ _ | refine kD ?_ | refine kA ?_ _)); exact BK142.out) (by decide)); have HO145 := am (Kd.R_lower ho0 (below_size (by repeat (first | (with_reducible first | exact HB.out | apply bA | apply bN | apply bO | refine below_set ?_ (IsS104.ge HI140.out) | refine below_set ?_ GE142.out) | exact HB.out)))); replace HB := am (hb); replace HI140 := am (hi); (try clear ho0); obtain ⟨Ao14, co14, eo14⟩ := Kd.R_slice HO145.out; subst eo14) | ((with_reducible refine gate_builtin (b := .append) (xs := #[.tmp 24, .tmp 26]) rfl ?_); at_builtin; refine Kd.S_append (Kd.slice 3 (Kd.int .i64)) (w0 := w) w.heap.size rfl (.tmp 24) (.tmp 26) 63 76 (.slice none 0 0) 24 rfl Tryd.underlying63 info76 rfl (by decide) (by omega) u5 x5_1 t143 [.slice Ao14 t143.length co14] (fun _ => True) (fun k_ => some k_ = (.slice Ao14 t143.length co14 : Value).ownBlock) rfl rfl ?aP (fun k_ hk_ => ((Kd.R_mono (ok' := fun k_ => ((fun _ => True)) k_ ∧ some k_ ≠ (u5 : Value).ownBlock) (Kd.R_apart' (HO145.out) (Kd.S_typed HO_5.out) (by decide)) (fun k_ hk => ⟨trivial, hk.2⟩))).1 k_ hk_.symm) ?aF ?aO ?aB ?aS ?aL ?_; (case aP => exact Kd.M_row (Kd.R_mono (Kd.R_tight rfl (Kd.R_mono (ok' := fun k_ => ((fun _ => True)) k_ ∧ some k_ ≠ (u5 : Value).ownBlock) (Kd.R_apart' (HO145.out) (Kd.S_typed HO_5.out) (by decide)) (fun k_ hk => ⟨trivial, hk.2⟩))) (fun _ h_ => h_))); (case aB => exact (by repeat (first | (with_reducible first | exact HB.out | apply bA | apply bN | apply bO | refine below_set ?_ (IsS104.ge HI140.out) | refine below_set ?_ GE142.out) | exact HB.out))); (case aF => exact (fun _ _ => trivial)); (case aO => exact (by (with_reducible repeat (first | apply Kd.S_alloc | apply Kd.S_drewN | apply Kd.S_drew)); exact Kd.S_mono HO_5.out (fun k_ hk => ⟨trivial, fun e_ => hk.2 e_⟩))); (case aS => exact (below_size (by repeat (first | (with_reducible first | exact HB.out | apply bA | apply bN | apply bO | refine below_set ?_ (IsS104.ge HI140.out) | refine below_set ?_ GE142.out) | exact HB.out)))); (case aL => have := LMc8.out; omega); intro v150 w13 ho hb hg hat; rw [← Ny149.out] at ho; have n0_ := am (IsS104.grown (by repeat (first | (with_reducible first | exact HI140.out | apply IsS104.alloc | apply IsS104.drewN | apply IsS104.drew | apply IsS104.set_0 | apply IsS104.set_1) | exact HI140.out)) hg (IsS104.own_neTS HI140.out HO_5.out (by decide))); have n1_ := am (blk_grown (g := gb142) (o := .cells #[.string ((rd_T35 l0 x13_1).f0), .int .i64 ((rd_T35 l0 x13_1).f1), .string ((rd_T35 l0 x13_1).f2)] 35 (0, 0)) (bk BK142.out) hg (Kd.S_ne HO_5.out BK142.out (by decide))); have n2_ := am (hb); have n3_ := am (ho); clear HI140; clear BK142; clear HB; clear HO_5; clear HO145; have HI140 := n0_; have BK142 := n1_; have HB := n2_; have HO151 := n3_; clear n0_ n1_ n2_ n3_; clear ho hb hg hat))
       go_roundg k1
       case measure => have := HK1.out; omega
       case rel => exact ⟨(y149), (wrap64 (x13_1 + 1)), (t147), (t148), (Value.bool false), (by first | rfl | (simp; done) | (simp [*]; done)), H', ⟨by have := HK1.out; omega⟩, ⟨by (with_reducible repeat (first | apply Kd.S_alloc | apply Kd.S_drewN | apply Kd.S_drew)); exact HO151.out⟩, ⟨by repeat (first | (with_reducible first | exact HI140.out | apply IsS104.alloc | apply IsS104.drewN | apply IsS104.drew | apply IsS104.set_0 | apply IsS104.set_1) | exact HI140.out)⟩, ⟨by repeat (first | (with_reducible first | exact HB.out | apply bA | apply bN | apply bO | refine below_set ?_ (IsS104.ge HI140.out) | refine below_set ?_ GE142.out) | exact HB.out)⟩⟩
      ·rw [if_neg c8] at H
       exact absurd H (by simp)
     ·rw [if_neg c6] at H
      exact absurd H (by simp)
    ·rw [if_neg c5] at H
     exact absurd H (by simp)
   ·rw [if_neg c4] at H
    have c4b0 : decide (x13_1 < (l0.length : Int)) = false := decide_eq_false c4; clear c4; replace H := oB H; obtain ⟨⟨t152, t155, t156⟩, A150, H⟩ := H; replace H : (some (t152, x5_1)) = some (r1, r2) := H; have A15 := am A150; clear A150; simp only [Option.some.injEq, Prod.mk.injEq] at H
    obtain ⟨rfl, rfl⟩ := H; have hA_ := tab_all A15.out; subst hA_; try go_wp2
    go_ret2; exact ⟨_, _, _, by first | rfl | (simp [eN, eS] <;> rfl) | (simp [*, eN, eS] <;> rfl), by repeat (first | (with_reducible first | exact HI140.out | apply IsS104.alloc | apply IsS104.drewN | apply IsS104.drew) | exact HI140.out), by (with_reducible repeat (first | apply Kd.S_alloc | apply Kd.S_drewN | apply Kd.S_drew)); exact HO_5.out, by repeat (first | (with_reducible first | exact HB.out | apply bA | apply bN | apply bO | refine below_set ?_ (IsS104.ge HI140.out)) | exact HB.out)⟩

/-! ### blocks_Table_Len: function 31 -/
def blocks_Table_Len.f (s0_0 : List ByteArray) (s0_1 : Bool) : Option (Int × List ByteArray × Bool) := some ((s0_0.length : Int), s0_0, s0_1)
set_option maxHeartbeats 8000000 in
set_option maxRecDepth 100000 in
theorem blocks_Table_Len.calls (g : Nat) (s0_0 : List ByteArray) (s0_1 : Bool) (r1 : Int) (r2 : List ByteArray) (r3 : Bool) (w0 w : World) (hI : IsS104 w0 w g s0_0 s0_1) (hB : Below w0.heap.size w0 w) (h : blocks_Table_Len.f s0_0 s0_1 = some (r1, r2, r3)) :
  Calls Tryd.prog 31 #[.pointer (some ⟨g, 0, none⟩)] w fun e w' => e = .returned (.int .i64 r1) ∧ IsS104 w0 w' g r2 r3 ∧ Below w0.heap.size w0 w' ∧ KeepBut w w' g none := by
 have HI0 := am hI; have HK := am (KeepBut.refl w g none); have HL := am hB.size; clear hI; have HW0 := am hB.size; have HB := am hB; clear hB; have H : (some ((s0_0.length : Int), s0_0, s0_1)) = some (r1, r2, r3) := h; clear h; simp only [Option.some.injEq, Prod.mk.injEq] at H
 obtain ⟨rfl, rfl, rfl⟩ := H; obtain ⟨ASz2_0, cSz2_0, mSz2, HGz2, hgz2, HSz2_0, _⟩ := IsS104.open_ HI0.out; have hcz2_0 := cellS104_0 HGz2; have hcz2_1 := cellS104_1 HGz2; have hfz2_0 := blk_frozen HGz2 0; have hfz2_1 := blk_frozen HGz2 1; clear HGz2 hgz2; go_enter Tryd.func31, Tryd.ntmps31; go_wp2
 go_ret; exact ⟨ez, by repeat (first | (with_reducible first | exact HI0.out | apply IsS104.alloc | apply IsS104.drewN | apply IsS104.drew | apply IsS104.set_0 | apply IsS104.set_1) | exact HI0.out), by repeat (first | (with_reducible first | exact HB.out | apply bA | apply bN | apply bO | refine below_set ?_ (IsS104.ge HI0.out)) | exact HB.out), by repeat (first | (with_reducible first | exact HK.out | apply KeepBut.set_ | apply keep_drewN | apply keep_drew | apply keep_alloc) | exact HK.out)⟩

/-! ### lz_alike: function 67 -/
def lz_alike.l0 : Nat → ByteArray → Int → Int → Int → Option (Int)
 | 0, _, _, _, _ => none
 | k + 1, x0, x1, x2, x7 => if x7 < 130 then (if (wrap64 (x1 + x7)) < (x0.size : Int) then (if 0 ≤ (wrap64 (x1 + x7)) then (if 0 ≤ (wrap64 ((wrap64 (x1 + x7)) - x2)) then (if (wrap64 ((wrap64 (x1 + x7)) - x2)) < (x0.size : Int) then (if (bt x0 (wrap64 (x1 + x7))) = (bt x0 (wrap64 ((wrap64 (x1 + x7)) - x2))) then (lz_alike.l0 k x0 x1 x2 (wrap64 (x7 + 1))) else (some x7)) else (none)) else (none)) else (none)) else (some x7)) else (some x7)
def lz_alike.f (k : Nat) (a0 : ByteArray) (a1 : Int) (a2 : Int) : Option (Int) := lz_alike.l0 k a0 a1 a2 0
theorem lz_alike.mono_l : ∀ k, (∀ y0 y1 y2 y3, LeO (lz_alike.l0 k y0 y1 y2 y3) (lz_alike.l0 (k + 1) y0 y1 y2 y3))
 | 0 => fun _ _ _ _ r h => by simp [lz_alike.l0] at h
 | k + 1 => by
  have ih0 := lz_alike.mono_l k
  ·intro y0 y1 y2 y3
   unfold lz_alike.l0
   repeat' with_reducible first | exact ih0 _ _ _ _ | exact LeO.refl _ | exact LeO.none _ | refine LeO.ite ?_ ?_ | refine LeO.bind ?_ (fun _ => ?_)
theorem lz_alike.mono : ∀ a0 a1 a2 k, LeO (lz_alike.f k a0 a1 a2) (lz_alike.f (k + 1) a0 a1 a2) := by
 intro a0 a1 a2 k; have ih0 := lz_alike.mono_l k; unfold lz_alike.f
 repeat' with_reducible first | exact ih0 _ _ _ _ | exact LeO.refl _ | exact LeO.none _ | refine LeO.ite ?_ ?_ | refine LeO.bind ?_ (fun _ => ?_)
set_option maxHeartbeats 8000000 in
set_option maxRecDepth 100000 in
theorem lz_alike.calls (k : Nat) (a0 : ByteArray) (a1 : Int) (a2 : Int) (r : Int) (w : World) (h : lz_alike.f k a0 a1 a2 = some r) :
  Calls Tryd.prog 67 #[.string a0, .int .i64 a1, .int .i64 a2] w fun e w' => e = .returned (.int .i64 r) ∧ Drawn0 w w' := by
 have H : (lz_alike.l0 k a0 a1 a2 0) = some r := h; clear h; have H' := am H; clear H; go_enter Tryd.func67, Tryd.ntmps67; go_wp2
 repeat (go_quiet (fail); try go_wp2)
 go_loopg [7] k (fun kq v7 w' => ∃ (x7_1 : Int), v7 = .int .i64 x7_1 ∧ Aside0 (lz_alike.l0 kq a0 a1 a2 x7_1 = some r) ∧ Aside0 (kq ≤ k) ∧ Drawn0 w w')
 case atStart => exact ⟨(0), (by first | rfl | (simp; done) | (simp [*]; done)), H', ⟨Nat.le_refl _⟩, dz⟩
 case round =>
  clear H'; (try clear p2); obtain ⟨x7_1, rfl, HA, HK1, ⟨m1, rfl⟩⟩ := hrel; cases gk with
  | zero => exact absurd HA.out (by simp [lz_alike.l0])
  | succ k1 =>
   have H := HA.out; clear HA; simp only [lz_alike.l0] at H
   by_cases c4 : x7_1 < 130
   ·rw [if_pos c4] at H
    have c4b0 : decide (x7_1 < 130) = true := decide_eq_true c4; clear c4; by_cases c5 : (wrap64 (a1 + x7_1)) < (a0.size : Int)
    ·rw [if_pos c5] at H
     have c5b0 : decide ((wrap64 (a1 + x7_1)) < (a0.size : Int)) = true := decide_eq_true c5; clear c5; obtain ⟨ji6, hji6⟩ : ∃ j_ : Int, (wrap64 (a1 + x7_1)) = j_ := ⟨_, rfl⟩; replace H : (if 0 ≤ (ji6) then (if 0 ≤ (wrap64 ((ji6) - a2)) then (if (wrap64 ((ji6) - a2)) < (a0.size : Int) then (if (bt a0 (ji6)) = (bt a0 (wrap64 ((ji6) - a2))) then (lz_alike.l0 k1 a0 a1 a2 (wrap64 (x7_1 + 1))) else (some x7_1)) else (none)) else (none)) else (none)) = some r := by first | (rw [hji6] at H; exact H) | (simp only [hji6] at H ⊢; exact H)
     (try rw [hji6] at c5b0)
     have hji6w : (IntKind.i64.wrap (a1 + x7_1)) = ji6 := (i64_w _).trans hji6; by_cases c7 : 0 ≤ (ji6)
     ·rw [if_pos c7] at H
      have c7b0 : decide (0 ≤ (ji6)) = true := decide_eq_true c7; clear c7; obtain ⟨ji9, hji9⟩ : ∃ j_ : Int, (wrap64 ((ji6) - a2)) = j_ := ⟨_, rfl⟩; replace H : (if 0 ≤ (ji9) then (if (ji9) < (a0.size : Int) then (if (bt a0 (ji6)) = (bt a0 (ji9)) then (lz_alike.l0 k1 a0 a1 a2 (wrap64 (x7_1 + 1))) else (some x7_1)) else (none)) else (none)) = some r := by first | (rw [hji9] at H; exact H) | (simp only [hji9] at H ⊢; exact H)
      have hji9w : (IntKind.i64.wrap ((ji6) - a2)) = ji9 := (i64_w _).trans hji9; by_cases c10 : 0 ≤ (ji9)
      ·rw [if_pos c10] at H
       have c10b0 : decide (0 ≤ (ji9)) = true := decide_eq_true c10; clear c10; by_cases c11 : (ji9) < (a0.size : Int)
       ·rw [if_pos c11] at H
        have c11b0 : decide ((ji9) < (a0.size : Int)) = true := decide_eq_true c11; clear c11; by_cases c13 : (bt a0 (ji6)) = (bt a0 (ji9))
        ·rw [if_pos c13] at H
         have c13b0 : ((bt a0 (ji6)) == (bt a0 (ji9))) = true := beq_iff_eq.mpr c13; have c13b1 : ((bt a0 (ji6)) != (bt a0 (ji9))) = false := bne_eq_false_iff_eq.mpr c13; clear c13; have H' := am H; clear H; have p8 : 0 ≤ ((ji6) : Int) := of_decide_eq_true (by assumption); have q8 : (ji6) < (a0.size : Int) := of_decide_eq_true (by assumption); have hx8 := bt_at a0 (ji6); replace p8 := eq_true p8; replace q8 := eq_true q8; have p12 : 0 ≤ ((ji9) : Int) := of_decide_eq_true (by assumption); have q12 : (ji9) < (a0.size : Int) := of_decide_eq_true (by assumption); have hx12 := bt_at a0 (ji9); replace p12 := eq_true p12; replace q12 := eq_true q12; go_wp2
         repeat (go_quiet (fail); try go_wp2)
         go_roundg k1
         case measure => have := HK1.out; omega
         case rel => exact ⟨(wrap64 (x7_1 + 1)), (by first | rfl | (simp; done) | (simp [*]; done)), H', ⟨by have := HK1.out; omega⟩, dz⟩
        ·rw [if_neg c13] at H
         have c13b0 : ((bt a0 (ji6)) == (bt a0 (ji9))) = false := beq_eq_false_iff_ne.mpr c13; have c13b1 : ((bt a0 (ji6)) != (bt a0 (ji9))) = true := bne_iff_ne.mpr c13; obtain rfl := Option.some.inj H; have p8 : 0 ≤ ((ji6) : Int) := of_decide_eq_true (by assumption); have q8 : (ji6) < (a0.size : Int) := of_decide_eq_true (by assumption); have hx8 := bt_at a0 (ji6); replace p8 := eq_true p8; replace q8 := eq_true q8; have p12 : 0 ≤ ((ji9) : Int) := of_decide_eq_true (by assumption); have q12 : (ji9) < (a0.size : Int) := of_decide_eq_true (by assumption); have hx12 := bt_at a0 (ji9); replace p12 := eq_true p12; replace q12 := eq_true q12; go_wp2
         repeat (go_quiet (fail); try go_wp2)
         go_ret; exact ⟨by first | rfl | (simp; done) | (simp only [← hji6, ← hji9] <;> (first | rfl | simp)) | (simp [*]; done), dz⟩
       ·rw [if_neg c11] at H
        exact absurd H (by simp)
      ·rw [if_neg c10] at H
       exact absurd H (by simp)
     ·rw [if_neg c7] at H
      exact absurd H (by simp)
    ·rw [if_neg c5] at H
     have c5b0 : decide ((wrap64 (a1 + x7_1)) < (a0.size : Int)) = false := decide_eq_false c5; clear c5; obtain rfl := Option.some.inj H; go_wp2
     repeat (go_quiet (fail); try go_wp2)
     go_ret; exact ⟨by first | rfl | (simp; done) | (simp [*]; done), dz⟩
   ·rw [if_neg c4] at H
    have c4b0 : decide (x7_1 < 130) = false := decide_eq_false c4; clear c4; obtain rfl := Option.some.inj H; go_wp2
    repeat (go_quiet (fail); try go_wp2)
    go_ret; exact ⟨by first | rfl | (simp; done) | (simp [*]; done), dz⟩

end Go.Proofs.YthbdbgjggoobnaaDoor.P
