/- Laid by a program of this session (wip/pr), after the printer of the kit: the functions that a statement reaches as plain Lean functions, and that the calls of the machine come to them. No condition. -/
import Derived.Lib.SliceRun
import Derived.Test.YtcijimdogddbeaaDoorPx0
import Derived.Test.YtcijimdogddbeaaDoorPx4
import Derived.Test.YtcijimdogddbeaaDoorPx7
import Derived.Test.YtcijimdogddbeaaDoorPx9
import Derived.Test.YtcijimdogddbeaaDoorPx10
namespace Go.Proofs.YtcijimdogddbeaaDoor.P
open Go.RowKit Go.Proofs.YtcijimdogddbeaaDoorX Go.Proofs.YtcijimdogddbeaaDoorW.PrintWords Go.Proofs.YtcijimdogddbeaaDoorW.PrintLast Go.Proofs.YtcijimdogddbeaaDoorW.PrintMore
attribute [local go_sem] max2_int min2_int max_two min_two
set_option linter.unusedVariables false
set_option linter.unusedSimpArgs false

/-! ### image_Blocks: function 14 -/
def image_Blocks.f (k : Nat) (l0 : List (S46)) : Option (Int) := (tree_May.f k l0).bind fun t253 => (if t253 = true then ((image_parts.f k l0).bind fun bt254 => (some (bt254.1.length : Int))) else (some 0))
theorem image_Blocks.mono : ∀ a0 k, LeO (image_Blocks.f k a0) (image_Blocks.f (k + 1) a0) := by
 intro a0 k; unfold image_Blocks.f
 repeat' with_reducible first | exact image_parts.mono _ _ | exact tree_May.mono _ _ | exact LeO.refl _ | exact LeO.none _ | refine LeO.ite ?_ ?_ | refine LeO.bind ?_ (fun _ => ?_)
set_option maxHeartbeats 8000000 in
set_option maxRecDepth 100000 in
theorem image_Blocks.calls (k : Nat) (A0 : Option Addr) (c0 : Nat) (l0 : List (S46)) (r : Int) (w : World) (hr0 : Kd.C k46 w A0 l0.length l0) (hc0 : l0.length ≤ c0) (h : image_Blocks.f k l0 = some r) :
  Calls Tryd.prog 14 #[.slice A0 l0.length c0] w fun e w' => e = .returned (.int .i64 r) ∧ Below w.heap.size w w' := by
 have HR0 := am hr0; have HC0 := am hc0; clear hr0 hc0; have HB := am (Below.refl w.heap.size w); have H : ((tree_May.f k l0).bind fun t253 => (if t253 = true then ((image_parts.f k l0).bind fun bt254 => (some (bt254.1.length : Int))) else (some 0))) = some r := h; clear h; refine oR H ?_; clear H; intro t253 A2 H; by_cases c3 : t253 = true
 ·subst c3
  have H1 : ((image_parts.f k l0).bind fun bt254 => (some (bt254.1.length : Int))) = some r := by rw [if_pos rfl] at H; exact H
  clear H; have H := H1; clear H1; replace H := oB H; obtain ⟨⟨t254, t255⟩, A40, H⟩ := H; replace H : (some (t254.length : Int)) = some r := H; have A4 := am A40; clear A40; obtain rfl := Option.some.inj H; go_enter Tryd.func14, Tryd.ntmps14; go_wp2_with (first | ((with_reducible refine gate_callee (f := 19) rfl ?_); refine gL (some 6) Tryd.func19 #[.slice A0 l0.length c0] ?_; (with_reducible refine (tree_May.calls k _ _ l0 true _ ?side1 ?side2 A2.out).mono ?_); (case side1 => exact cz HR0.out); (case side2 => exact HC0.out); rintro e w5 ⟨rfl, hb⟩; refine ⟨_, rfl, ?_⟩; replace HB := bs hb) | ((with_reducible refine gate_callee (f := 23) rfl ?_); refine gL (some 10) Tryd.func23 #[.slice A0 l0.length c0] ?_; (with_reducible refine (image_parts.calls k _ _ l0 t254 t255 _ ?side1 ?side2 A4.out).mono ?_); (case side1 => exact cz (Kd.C_below HR0.out HB.out)); (case side2 => exact HC0.out); rintro e w6 ⟨gT_, bT_, v258, rfl, hiT_, ho1, hb⟩; refine ⟨_, rfl, ?_⟩; have HO257 := am (IsS75.lower hiT_ siz); have HO259 := am (Kd.S_lower ho1 siz); replace HB := bs hb; (try clear hiT_); (try clear ho1)) | (go_at_call 26; (with_reducible refine (tab_Len gT_ t254 bT_ w _ ?side1).mono ?_); (case side1 => exact (by repeat (first | (with_reducible first | exact HO257.out | apply IsS75.alloc | apply IsS75.drewN | apply IsS75.drew) | exact HO257.out))); rintro e w' ⟨rfl, ⟨nd, rfl⟩⟩; (try first | exact ⟨rfl, _, World.drewN_drewN _ _ _⟩ | exact ⟨rfl, _, Eq.trans (World.drewN_drewN _ _ _) (congrArg (World.drewN _) (Nat.add_assoc _ _ _))⟩)))
  go_ret; exact ⟨ez, bz⟩
 ·replace c3 := Bool.eq_false_iff.mpr c3
  subst c3; have H1 : (some 0) = some r := by rw [if_neg (show ¬ (false = true) by decide)] at H; exact H
  clear H; have H := H1; clear H1; obtain rfl := Option.some.inj H; go_enter Tryd.func14, Tryd.ntmps14; go_wp2_with (first | ((with_reducible refine gate_callee (f := 19) rfl ?_); refine gL (some 6) Tryd.func19 #[.slice A0 l0.length c0] ?_; (with_reducible refine (tree_May.calls k _ _ l0 false _ ?side1 ?side2 A2.out).mono ?_); (case side1 => exact cz HR0.out); (case side2 => exact HC0.out); rintro e w8 ⟨rfl, hb⟩; refine ⟨_, rfl, ?_⟩; replace HB := bs hb))
  go_ret; exact ⟨ez, bz⟩

/-! ### tree_Size: function 36 -/
def tree_Size.l0 : Nat → Int → List (S46) → Int → Int → Option (Int)
 | 0, _, _, _, _ => none
 | k + 1, x3, x6, x7, x8 => if x8 < x7 then (if 0 ≤ x8 then (if x8 < (x6.length : Int) then (tree_Size.l0 k (wrap64 (x3 + (((rd_T46 x6 x8).f2).size : Int))) x6 x7 (wrap64 (x8 + 1))) else (none)) else (none)) else (some x3)
def tree_Size.f (k : Nat) (l0 : List (S46)) : Option (Int) := tree_Size.l0 k 0 l0 (l0.length : Int) 0
theorem tree_Size.mono_l : ∀ k, (∀ y0 y1 y2 y3, LeO (tree_Size.l0 k y0 y1 y2 y3) (tree_Size.l0 (k + 1) y0 y1 y2 y3))
 | 0 => fun _ _ _ _ r h => by simp [tree_Size.l0] at h
 | k + 1 => by
  have ih0 := tree_Size.mono_l k
  ·intro y0 y1 y2 y3
   unfold tree_Size.l0
   repeat' with_reducible first | exact ih0 _ _ _ _ | exact LeO.refl _ | exact LeO.none _ | refine LeO.ite ?_ ?_ | refine LeO.bind ?_ (fun _ => ?_)
theorem tree_Size.mono : ∀ a0 k, LeO (tree_Size.f k a0) (tree_Size.f (k + 1) a0) := by
 intro a0 k; have ih0 := tree_Size.mono_l k; unfold tree_Size.f
 repeat' with_reducible first | exact ih0 _ _ _ _ | exact LeO.refl _ | exact LeO.none _ | refine LeO.ite ?_ ?_ | refine LeO.bind ?_ (fun _ => ?_)
set_option maxHeartbeats 8000000 in
set_option maxRecDepth 100000 in
theorem tree_Size.calls (k : Nat) (A0 : Option Addr) (c0 : Nat) (l0 : List (S46)) (r : Int) (w : World) (hr0 : Kd.C k46 w A0 l0.length l0) (hc0 : l0.length ≤ c0) (h : tree_Size.f k l0 = some r) :
  Calls Tryd.prog 36 #[.slice A0 l0.length c0] w fun e w' => e = .returned (.int .i64 r) ∧ Below w.heap.size w w' := by
 have hu46 := Tryd.underlying46; have HR0 := am hr0; have HC0 := am hc0; clear hr0 hc0; have HB := am (Below.refl w.heap.size w); have H : (tree_Size.l0 k 0 l0 (l0.length : Int) 0) = some r := h; clear h; have H' := am H; clear H; go_enter Tryd.func36, Tryd.ntmps36; go_wp2
 go_loopg [3, 8] k (fun kq v3 v8 w' => ∃ (x3_1 : Int) (x8_1 : Int), v3 = .int .i64 x3_1 ∧ v8 = .int .i64 x8_1 ∧ Aside0 (tree_Size.l0 kq x3_1 l0 (l0.length : Int) x8_1 = some r) ∧ Aside0 (kq ≤ k) ∧ Aside0 (Below w.heap.size w w'))
 case atStart => exact ⟨(0), (0), (by first | rfl | (simp; done) | (simp [*]; done)), (by first | rfl | (simp; done) | (simp [*]; done)), H', ⟨Nat.le_refl _⟩, ⟨bz⟩⟩
 case round =>
  clear H'; obtain ⟨x3_1, x8_1, rfl, rfl, HA, HK1, HB⟩ := hrel; cases gk with
  | zero => exact absurd HA.out (by simp [tree_Size.l0])
  | succ k1 =>
   have H := HA.out; clear HA; simp only [tree_Size.l0] at H
   by_cases c2 : x8_1 < (l0.length : Int)
   ·rw [if_pos c2] at H
    have c2b0 : decide (x8_1 < (l0.length : Int)) = true := decide_eq_true c2; clear c2; by_cases c3 : 0 ≤ x8_1
    ·rw [if_pos c3] at H
     have c3b0 : decide (0 ≤ x8_1) = true := decide_eq_true c3; clear c3; by_cases c4 : x8_1 < (l0.length : Int)
     ·rw [if_pos c4] at H
      have c4b0 : decide (x8_1 < (l0.length : Int)) = true := decide_eq_true c4; clear c4; have H' := am H; clear H; have p260 : 0 ≤ (x8_1 : Int) := of_decide_eq_true (by assumption); have q260 : x8_1 < (l0.length : Int) := of_decide_eq_true (by assumption); obtain ⟨ad260, e260, hx260_0, hx260_1, hx260_2⟩ := at_T46 HR0.out x8_1 p260 q260; cases e260; replace hx260_0 := (HB.out.cell (wB w _ hx260_0)).trans hx260_0; replace hx260_1 := (HB.out.cell (wB w _ hx260_1)).trans hx260_1; replace hx260_2 := (HB.out.cell (wB w _ hx260_2)).trans hx260_2; replace p260 := eq_true p260; replace q260 := eq_true q260; go_wp2_with (first | ((with_reducible refine gate_dst (N := 5) rfl ?_); refine bx 5 #[.string (⟨#[]⟩ : ByteArray), .int .i64 0, .string (⟨#[]⟩ : ByteArray)] 46 ?_; intro gb261 hg w5 hbox hb; have BK261 := am (hbox); have GW261 := gz hg; have GE261 := gz hg; replace HB := bs hb; clear hb hbox hg; obtain ⟨hcz6_0, hcz6_1, hcz6_2⟩ := cq3 BK261.out; obtain ⟨hfz6_0, hfz6_1, hfz6_2⟩ := fq3 BK261.out))
      go_roundg k1
      case measure => have := HK1.out; omega
      case rel => exact ⟨(wrap64 (x3_1 + (((rd_T46 l0 x8_1).f2).size : Int))), (wrap64 (x8_1 + 1)), (by first | rfl | (simp; done) | (simp [*]; done)), (by first | rfl | (simp; done) | (simp [*]; done)), H', ⟨by have := HK1.out; omega⟩, ⟨bq⟩⟩
     ·rw [if_neg c4] at H
      exact absurd H (by simp)
    ·rw [if_neg c3] at H
     exact absurd H (by simp)
   ·rw [if_neg c2] at H
    have c2b0 : decide (x8_1 < (l0.length : Int)) = false := decide_eq_false c2; clear c2; obtain rfl := Option.some.inj H; go_wp2
    go_ret; exact ⟨ez, bz⟩

/-! ### image_Saved: function 15 -/
def image_Saved.l0 : Nat → Int → List ByteArray → Int → Int → Option (Int)
 | 0, _, _, _, _ => none
 | k + 1, x5, x19, x20, x21 => if x21 < x20 then (if 0 ≤ x21 then (if x21 < (x19.length : Int) then ((lz_Pack.f k (rdOf ByteArray.empty x19 x21)).bind fun t271 => (image_Saved.l0 k (wrap64 (x5 - (t271.size : Int))) x19 x20 (wrap64 (x21 + 1)))) else (none)) else (none)) else (some x5)
def image_Saved.f (k : Nat) (l0 : List (S46)) : Option (Int) := (tree_May.f k l0).bind fun t262 => (if t262 = true then ((image_parts.f k l0).bind fun bt263 => ((tree_Size.f k l0).bind fun t269 => (image_Saved.l0 k t269 bt263.1 (bt263.1.length : Int) 0))) else (some 0))
theorem image_Saved.mono_l : ∀ k, (∀ y0 y1 y2 y3, LeO (image_Saved.l0 k y0 y1 y2 y3) (image_Saved.l0 (k + 1) y0 y1 y2 y3))
 | 0 => fun _ _ _ _ r h => by simp [image_Saved.l0] at h
 | k + 1 => by
  have ih0 := image_Saved.mono_l k
  ·intro y0 y1 y2 y3
   unfold image_Saved.l0
   repeat' with_reducible first | exact ih0 _ _ _ _ | exact image_parts.mono _ _ | exact lz_Pack.mono _ _ | exact tree_May.mono _ _ | exact tree_Size.mono _ _ | exact LeO.refl _ | exact LeO.none _ | refine LeO.ite ?_ ?_ | refine LeO.bind ?_ (fun _ => ?_)
theorem image_Saved.mono : ∀ a0 k, LeO (image_Saved.f k a0) (image_Saved.f (k + 1) a0) := by
 intro a0 k; have ih0 := image_Saved.mono_l k; unfold image_Saved.f
 repeat' with_reducible first | exact ih0 _ _ _ _ | exact image_parts.mono _ _ | exact lz_Pack.mono _ _ | exact tree_May.mono _ _ | exact tree_Size.mono _ _ | exact LeO.refl _ | exact LeO.none _ | refine LeO.ite ?_ ?_ | refine LeO.bind ?_ (fun _ => ?_)
set_option maxHeartbeats 8000000 in
set_option maxRecDepth 100000 in
theorem image_Saved.calls (k : Nat) (A0 : Option Addr) (c0 : Nat) (l0 : List (S46)) (r : Int) (w : World) (hr0 : Kd.C k46 w A0 l0.length l0) (hc0 : l0.length ≤ c0) (h : image_Saved.f k l0 = some r) :
  Calls Tryd.prog 15 #[.slice A0 l0.length c0] w fun e w' => e = .returned (.int .i64 r) ∧ Below w.heap.size w w' := by
 have HR0 := am hr0; have HC0 := am hc0; clear hr0 hc0; have HB := am (Below.refl w.heap.size w); have H : ((tree_May.f k l0).bind fun t262 => (if t262 = true then ((image_parts.f k l0).bind fun bt263 => ((tree_Size.f k l0).bind fun t269 => (image_Saved.l0 k t269 bt263.1 (bt263.1.length : Int) 0))) else (some 0))) = some r := h; clear h; refine oR H ?_; clear H; intro t262 A2 H; by_cases c3 : t262 = true
 ·subst c3
  have H1 : ((image_parts.f k l0).bind fun bt263 => ((tree_Size.f k l0).bind fun t269 => (image_Saved.l0 k t269 bt263.1 (bt263.1.length : Int) 0))) = some r := by rw [if_pos rfl] at H; exact H
  clear H; have H := H1; clear H1; replace H := oB H; obtain ⟨⟨t263, t264⟩, A40, H⟩ := H; replace H : ((tree_Size.f k l0).bind fun t269 => (image_Saved.l0 k t269 t263 (t263.length : Int) 0)) = some r := H; have A4 := am A40; clear A40; refine oR H ?_; clear H; intro t269 A5 H; have H' := am H; clear H; go_enter Tryd.func15, Tryd.ntmps15; go_wp2_with (first | ((with_reducible refine gate_callee (f := 19) rfl ?_); refine gL (some 9) Tryd.func19 #[.slice A0 l0.length c0] ?_; (with_reducible refine (tree_May.calls k _ _ l0 true _ ?side1 ?side2 A2.out).mono ?_); (case side1 => exact cz HR0.out); (case side2 => exact HC0.out); rintro e w6 ⟨rfl, hb⟩; refine ⟨_, rfl, ?_⟩; replace HB := bs hb) | ((with_reducible refine gate_callee (f := 23) rfl ?_); refine gL (some 13) Tryd.func23 #[.slice A0 l0.length c0] ?_; (with_reducible refine (image_parts.calls k _ _ l0 t263 t264 _ ?side1 ?side2 A4.out).mono ?_); (case side1 => exact cz (Kd.C_below HR0.out HB.out)); (case side2 => exact HC0.out); rintro e w7 ⟨gT_, bT_, v267, rfl, hiT_, ho1, hb⟩; refine ⟨_, rfl, ?_⟩; have HO266 := am (IsS75.lower hiT_ siz); have HO268 := am (Kd.S_lower ho1 siz); replace HB := bs hb; (try clear hiT_); (try clear ho1)) | ((with_reducible refine gate_callee (f := 27) rfl ?_); refine goesL_ (some 19) rfl rfl Tryd.func27 (by kernel_rfl) rfl #[.pointer (some ⟨gT_, 0, none⟩)] rfl (by (try simp only [mT, mC, mN]); first | done | rfl) ?_; (with_reducible refine (blocks_Table_All.calls2 gT_ t263 bT_ t263 t263 bT_ w _ ?side1 ?side2 (tab_allf HO266.out)).mono ?_); (case side1 => exact (by repeat (first | (with_reducible first | exact HO266.out | apply IsS75.alloc | apply IsS75.drewN | apply IsS75.drew) | exact HO266.out))); (case side2 => exact bz); rintro e wA_ ⟨vA_, rfl, ho0, hiT_, hbT_, hkT_, hb⟩; refine ⟨_, rfl, ?_⟩; clear hiT_ hbT_ hkT_; have n0_ := am (Kd.R_lower ho0 siz); have n_ := am (Kd.S_below (by (with_reducible repeat (first | apply Kd.S_alloc | apply Kd.S_drewN | apply Kd.S_drew)); exact HO268.out) hb); clear HO268; have HO268 := n_; clear n_; have nB_ := bs hb; clear HO266; clear HB; have HO266 := n0_; have HB := nB_; clear n0_ nB_; clear ho0 hb; obtain ⟨Ao9, co9, eo9⟩ := Kd.R_slice HO266.out; subst eo9) | ((with_reducible refine gate_callee (f := 36) rfl ?_); refine gL (some 17) Tryd.func36 #[.slice A0 l0.length c0] ?_; (with_reducible refine (tree_Size.calls k _ _ l0 t269 _ ?side1 ?side2 A5.out).mono ?_); (case side1 => exact cz (Kd.C_below HR0.out HB.out)); (case side2 => exact HC0.out); rintro e w8 ⟨rfl, hb⟩; refine ⟨_, rfl, ?_⟩; have n0_ := am (IsS75.below (by repeat (first | (with_reducible first | exact HO266.out | apply IsS75.alloc | apply IsS75.drewN | apply IsS75.drew) | exact HO266.out)) hb); have n1_ := am (Kd.S_below (by (with_reducible repeat (first | apply Kd.S_alloc | apply Kd.S_drewN | apply Kd.S_drew)); exact HO268.out) hb); have n2_ := bs hb; clear HO266; clear HO268; clear HB; have HO266 := n0_; have HO268 := n1_; have HB := n2_; clear n0_ n1_ n2_))
  go_loopg [5, 21] k (fun kq v5 v21 w' => ∃ (x5_1 : Int) (x21_1 : Int), v5 = .int .i64 x5_1 ∧ v21 = .int .i64 x21_1 ∧ Aside0 (image_Saved.l0 kq x5_1 t263 (t263.length : Int) x21_1 = some r) ∧ Aside0 (kq ≤ k) ∧ Aside0 (Kd.R Kd.string 9 w' w.heap.size (fun _ => True) (.slice Ao9 t263.length co9) t263) ∧ Aside0 (Below w.heap.size w w'))
  case atStart => exact ⟨(t269), (0), (by first | rfl | (simp; done) | (simp [*]; done)), (by first | rfl | (simp; done) | (simp [*]; done)), H', ⟨Nat.le_refl _⟩, ⟨rz HO266.out⟩, ⟨bz⟩⟩
  case round =>
   clear H'; (try clear c1); (try clear c2); (try clear p2); (try clear c3); obtain ⟨x5_1, x21_1, rfl, rfl, HA, HK1, HO_19, HB⟩ := hrel; cases gk with
   | zero => exact absurd HA.out (by simp [image_Saved.l0])
   | succ k1 =>
    have H := HA.out; clear HA; simp only [image_Saved.l0] at H
    by_cases c10 : x21_1 < (t263.length : Int)
    ·rw [if_pos c10] at H
     have c10b0 : decide (x21_1 < (t263.length : Int)) = true := decide_eq_true c10; clear c10; by_cases c11 : 0 ≤ x21_1
     ·rw [if_pos c11] at H
      have c11b0 : decide (0 ≤ x21_1) = true := decide_eq_true c11; clear c11; by_cases c12 : x21_1 < (t263.length : Int)
      ·rw [if_pos c12] at H
       have c12b0 : decide (x21_1 < (t263.length : Int)) = true := decide_eq_true c12; clear c12; refine oR H ?_; clear H; intro t271 A13 H; have H' := am H; clear H; have p270 : 0 ≤ (x21_1 : Int) := of_decide_eq_true (by assumption); have q270 : x21_1 < (t263.length : Int) := of_decide_eq_true (by assumption); obtain ⟨ad270, e270, hx270_0⟩ := Kd.at_string (Kd.R_reads' HO_19.out).2.2 x21_1 p270 q270; cases e270; replace p270 := eq_true p270; replace q270 := eq_true q270; go_wp2_with (first | ((with_reducible refine gate_callee (f := 28) rfl ?_); refine gL (some 27) Tryd.func28 #[.string (rdOf ByteArray.empty t263 x21_1)] ?_; (with_reducible refine (lz_Pack.calls k1 (rdOf ByteArray.empty t263 x21_1) t271 _ A13.out).mono ?_); rintro e w14 ⟨rfl, hb⟩; refine ⟨_, rfl, ?_⟩; replace HO_19 := am (Kd.R_below (rz HO_19.out) hb); replace HB := bs hb))
       go_roundg k1
       case measure => have := HK1.out; omega
       case rel => exact ⟨(wrap64 (x5_1 - (t271.size : Int))), (wrap64 (x21_1 + 1)), (by first | rfl | (simp; done) | (simp [*]; done)), (by first | rfl | (simp; done) | (simp [*]; done)), H', ⟨by have := HK1.out; omega⟩, ⟨rz HO_19.out⟩, ⟨bz⟩⟩
      ·rw [if_neg c12] at H
       exact absurd H (by simp)
     ·rw [if_neg c11] at H
      exact absurd H (by simp)
    ·rw [if_neg c10] at H
     have c10b0 : decide (x21_1 < (t263.length : Int)) = false := decide_eq_false c10; clear c10; obtain rfl := Option.some.inj H; go_wp2
     go_ret; exact ⟨ez, bz⟩
 ·replace c3 := Bool.eq_false_iff.mpr c3
  subst c3; have H1 : (some 0) = some r := by rw [if_neg (show ¬ (false = true) by decide)] at H; exact H
  clear H; have H := H1; clear H1; obtain rfl := Option.some.inj H; go_enter Tryd.func15, Tryd.ntmps15; go_wp2_with (first | ((with_reducible refine gate_callee (f := 19) rfl ?_); refine gL (some 9) Tryd.func19 #[.slice A0 l0.length c0] ?_; (with_reducible refine (tree_May.calls k _ _ l0 false _ ?side1 ?side2 A2.out).mono ?_); (case side1 => exact cz HR0.out); (case side2 => exact HC0.out); rintro e w15 ⟨rfl, hb⟩; refine ⟨_, rfl, ?_⟩; replace HB := bs hb))
  go_ret; exact ⟨ez, bz⟩

/-! ### hogsheadlaw19_awake: function 7 -/
def hogsheadlaw19_awake.f (k : Nat)  : Option (Bool) := (some (([(⟨(⟨#[]⟩ : ByteArray), 1, (⟨#[]⟩ : ByteArray)⟩ : S46), (⟨(⟨#[97]⟩ : ByteArray), 2, (⟨#[48, 49, 50, 51, 52, 53, 54, 55, 56, 57, 48, 49, 50, 51, 52, 53, 54, 55, 56, 57, 48, 49, 50, 51, 52, 53, 54, 55, 56, 57, 48, 49, 50, 51, 52, 53, 54, 55, 56, 57, 48, 49, 50, 51, 52, 53, 54, 55, 56, 57, 48, 49, 50, 51, 52, 53, 54, 55, 56, 57, 48, 49, 50, 51]⟩ : ByteArray)⟩ : S46), (⟨(⟨#[98]⟩ : ByteArray), 2, (⟨#[48, 49, 50, 51, 52, 53, 54, 55, 56, 57, 48, 49, 50, 51, 52, 53, 54, 55, 56, 57, 48, 49, 50, 51, 52, 53, 54, 55, 56, 57, 48, 49, 50, 51, 52, 53, 54, 55, 56, 57, 48, 49, 50, 51, 52, 53, 54, 55, 56, 57, 48, 49, 50, 51, 52, 53, 54, 55, 56, 57, 48, 49, 50, 51]⟩ : ByteArray)⟩ : S46)] : List (S46)) : List (S46))).bind fun y272 => ((image_Lay.f k y272).bind fun bt275 => ((image_Blocks.f k y272).bind fun t279 => (if t279 = 1 then (if bt275.2 = 0 then (if (bt275.1.length : Int) > 100 then ((image_Saved.f k y272).bind fun t280 => (some (decide (t280 > 100)))) else (some false)) else (some false)) else (some false))))
theorem hogsheadlaw19_awake.mono : ∀ k, LeO (hogsheadlaw19_awake.f k ) (hogsheadlaw19_awake.f (k + 1) ) := by
 intro  k; unfold hogsheadlaw19_awake.f
 repeat' with_reducible first | exact image_Blocks.mono _ _ | exact image_Lay.mono _ _ | exact image_Saved.mono _ _ | exact LeO.refl _ | exact LeO.none _ | refine LeO.ite ?_ ?_ | refine LeO.bind ?_ (fun _ => ?_)
set_option maxHeartbeats 8000000 in
set_option maxRecDepth 100000 in
theorem hogsheadlaw19_awake.calls (k : Nat)  (r : Bool) (w : World) (h : hogsheadlaw19_awake.f k  = some true) :
  Calls Tryd.prog 7 #[] w fun e w' => e = .returned (.bool true) ∧ Below w.heap.size w w' := by
 have hu46 := Tryd.underlying46; have HB := am (Below.refl w.heap.size w); have H : ((some (([(⟨(⟨#[]⟩ : ByteArray), 1, (⟨#[]⟩ : ByteArray)⟩ : S46), (⟨(⟨#[97]⟩ : ByteArray), 2, (⟨#[48, 49, 50, 51, 52, 53, 54, 55, 56, 57, 48, 49, 50, 51, 52, 53, 54, 55, 56, 57, 48, 49, 50, 51, 52, 53, 54, 55, 56, 57, 48, 49, 50, 51, 52, 53, 54, 55, 56, 57, 48, 49, 50, 51, 52, 53, 54, 55, 56, 57, 48, 49, 50, 51, 52, 53, 54, 55, 56, 57, 48, 49, 50, 51]⟩ : ByteArray)⟩ : S46), (⟨(⟨#[98]⟩ : ByteArray), 2, (⟨#[48, 49, 50, 51, 52, 53, 54, 55, 56, 57, 48, 49, 50, 51, 52, 53, 54, 55, 56, 57, 48, 49, 50, 51, 52, 53, 54, 55, 56, 57, 48, 49, 50, 51, 52, 53, 54, 55, 56, 57, 48, 49, 50, 51, 52, 53, 54, 55, 56, 57, 48, 49, 50, 51, 52, 53, 54, 55, 56, 57, 48, 49, 50, 51]⟩ : ByteArray)⟩ : S46)] : List (S46)) : List (S46))).bind fun y272 => ((image_Lay.f k y272).bind fun bt275 => ((image_Blocks.f k y272).bind fun t279 => (if t279 = 1 then (if bt275.2 = 0 then (if (bt275.1.length : Int) > 100 then ((image_Saved.f k y272).bind fun t280 => (some (decide (t280 > 100)))) else (some false)) else (some false)) else (some false))))) = some true := h; clear h; obtain ⟨y272, hy272⟩ : ∃ y_ : List (S46), y_ = (([(⟨(⟨#[]⟩ : ByteArray), 1, (⟨#[]⟩ : ByteArray)⟩ : S46), (⟨(⟨#[97]⟩ : ByteArray), 2, (⟨#[48, 49, 50, 51, 52, 53, 54, 55, 56, 57, 48, 49, 50, 51, 52, 53, 54, 55, 56, 57, 48, 49, 50, 51, 52, 53, 54, 55, 56, 57, 48, 49, 50, 51, 52, 53, 54, 55, 56, 57, 48, 49, 50, 51, 52, 53, 54, 55, 56, 57, 48, 49, 50, 51, 52, 53, 54, 55, 56, 57, 48, 49, 50, 51]⟩ : ByteArray)⟩ : S46), (⟨(⟨#[98]⟩ : ByteArray), 2, (⟨#[48, 49, 50, 51, 52, 53, 54, 55, 56, 57, 48, 49, 50, 51, 52, 53, 54, 55, 56, 57, 48, 49, 50, 51, 52, 53, 54, 55, 56, 57, 48, 49, 50, 51, 52, 53, 54, 55, 56, 57, 48, 49, 50, 51, 52, 53, 54, 55, 56, 57, 48, 49, 50, 51, 52, 53, 54, 55, 56, 57, 48, 49, 50, 51]⟩ : ByteArray)⟩ : S46)] : List (S46))) := ⟨_, rfl⟩
 replace H : ((image_Lay.f k y272).bind fun bt275 => ((image_Blocks.f k y272).bind fun t279 => (if t279 = 1 then (if bt275.2 = 0 then (if (bt275.1.length : Int) > 100 then ((image_Saved.f k y272).bind fun t280 => (some (decide (t280 > 100)))) else (some false)) else (some false)) else (some false)))) = some true := by first | (rw [hy272]; with_reducible exact H) | (have H2_ := (Option.bind_some _ _).symm.trans H; rw [hy272]; with_reducible exact H2_) | (have H2_ := (Option.bind_some _ _).symm.trans H; with_reducible exact H2_) | with_reducible exact H | (rw [hy272]; exact H) | exact H
 have Ny272 := am hy272; clear hy272; replace H := oB H; obtain ⟨⟨t275, t276⟩, A10, H⟩ := H; replace H : ((image_Blocks.f k y272).bind fun t279 => (if t279 = 1 then (if t276 = 0 then (if (t275.length : Int) > 100 then ((image_Saved.f k y272).bind fun t280 => (some (decide (t280 > 100)))) else (some false)) else (some false)) else (some false))) = some true := H; have A1 := am A10; clear A10; refine oR H ?_; clear H; intro t279 A2 H; by_cases c3 : t279 = 1
 ·rw [if_pos c3] at H
  have c3b0 : (t279 == 1) = true := beq_iff_eq.mpr c3; have c3b1 : (t279 != 1) = false := bne_eq_false_iff_eq.mpr c3; clear c3; by_cases c4 : t276 = 0
  ·rw [if_pos c4] at H
   have c4b0 : (t276 == 0) = true := beq_iff_eq.mpr c4; have c4b1 : (t276 != 0) = false := bne_eq_false_iff_eq.mpr c4; clear c4; by_cases c5 : (t275.length : Int) > 100
   ·rw [if_pos c5] at H
    have c5b0 : decide (100 < (t275.length : Int)) = true := decide_eq_true c5; have c5b1 : decide (100 < t275.length) = true := decide_eq_true (by omega); clear c5; refine oR H ?_; clear H; intro t280 A6 H; have hr_ := Option.some.inj H; go_enter Tryd.func7, Tryd.ntmps7; go_wp2_with (first | ((with_reducible refine gate_dst (N := 10) rfl ?_); (try (refine gate_guard (by rfl) ?_; dsimp only)); refine Kd.R_lit k46 _ 46 ?hg (N := 10) ?hd (xs := ([(⟨(⟨#[]⟩ : ByteArray), 1, (⟨#[]⟩ : ByteArray)⟩ : S46), (⟨(⟨#[97]⟩ : ByteArray), 2, (⟨#[48, 49, 50, 51, 52, 53, 54, 55, 56, 57, 48, 49, 50, 51, 52, 53, 54, 55, 56, 57, 48, 49, 50, 51, 52, 53, 54, 55, 56, 57, 48, 49, 50, 51, 52, 53, 54, 55, 56, 57, 48, 49, 50, 51, 52, 53, 54, 55, 56, 57, 48, 49, 50, 51, 52, 53, 54, 55, 56, 57, 48, 49, 50, 51]⟩ : ByteArray)⟩ : S46), (⟨(⟨#[98]⟩ : ByteArray), 2, (⟨#[48, 49, 50, 51, 52, 53, 54, 55, 56, 57, 48, 49, 50, 51, 52, 53, 54, 55, 56, 57, 48, 49, 50, 51, 52, 53, 54, 55, 56, 57, 48, 49, 50, 51, 52, 53, 54, 55, 56, 57, 48, 49, 50, 51, 52, 53, 54, 55, 56, 57, 48, 49, 50, 51, 52, 53, 54, 55, 56, 57, 48, 49, 50, 51]⟩ : ByteArray)⟩ : S46)] : List (S46))) (inner := [.string (⟨#[]⟩ : ByteArray), .int .i64 1, .string (⟨#[]⟩ : ByteArray), .string (⟨#[97]⟩ : ByteArray), .int .i64 2, .string (⟨#[48, 49, 50, 51, 52, 53, 54, 55, 56, 57, 48, 49, 50, 51, 52, 53, 54, 55, 56, 57, 48, 49, 50, 51, 52, 53, 54, 55, 56, 57, 48, 49, 50, 51, 52, 53, 54, 55, 56, 57, 48, 49, 50, 51, 52, 53, 54, 55, 56, 57, 48, 49, 50, 51, 52, 53, 54, 55, 56, 57, 48, 49, 50, 51]⟩ : ByteArray), .string (⟨#[98]⟩ : ByteArray), .int .i64 2, .string (⟨#[48, 49, 50, 51, 52, 53, 54, 55, 56, 57, 48, 49, 50, 51, 52, 53, 54, 55, 56, 57, 48, 49, 50, 51, 52, 53, 54, 55, 56, 57, 48, 49, 50, 51, 52, 53, 54, 55, 56, 57, 48, 49, 50, 51, 52, 53, 54, 55, 56, 57, 48, 49, 50, 51, 52, 53, 54, 55, 56, 57, 48, 49, 50, 51]⟩ : ByteArray)]) (ok := fun _ => True) (okp := fun _ => True) ?hr ?hp (fun _ hk => hk) trivial (Below.refl _ _) (Nat.le_refl _) (by simp) ?_; (case hd => rfl); (case hg => rfl); (case hr => first | (go_simp; done) | (go_simp; rfl)); (case hp => exact (Reps.c3 (show Kd.M k46 _ _ _ (⟨(⟨#[]⟩ : ByteArray), 1, (⟨#[]⟩ : ByteArray)⟩ : S46) [.string (⟨#[]⟩ : ByteArray), .int .i64 1, .string (⟨#[]⟩ : ByteArray)] from (k46_mkM _ _ _ (⟨(⟨#[]⟩ : ByteArray), 1, (⟨#[]⟩ : ByteArray)⟩ : S46) )) (Reps.c3 (show Kd.M k46 _ _ _ (⟨(⟨#[97]⟩ : ByteArray), 2, (⟨#[48, 49, 50, 51, 52, 53, 54, 55, 56, 57, 48, 49, 50, 51, 52, 53, 54, 55, 56, 57, 48, 49, 50, 51, 52, 53, 54, 55, 56, 57, 48, 49, 50, 51, 52, 53, 54, 55, 56, 57, 48, 49, 50, 51, 52, 53, 54, 55, 56, 57, 48, 49, 50, 51, 52, 53, 54, 55, 56, 57, 48, 49, 50, 51]⟩ : ByteArray)⟩ : S46) [.string (⟨#[97]⟩ : ByteArray), .int .i64 2, .string (⟨#[48, 49, 50, 51, 52, 53, 54, 55, 56, 57, 48, 49, 50, 51, 52, 53, 54, 55, 56, 57, 48, 49, 50, 51, 52, 53, 54, 55, 56, 57, 48, 49, 50, 51, 52, 53, 54, 55, 56, 57, 48, 49, 50, 51, 52, 53, 54, 55, 56, 57, 48, 49, 50, 51, 52, 53, 54, 55, 56, 57, 48, 49, 50, 51]⟩ : ByteArray)] from (k46_mkM _ _ _ (⟨(⟨#[97]⟩ : ByteArray), 2, (⟨#[48, 49, 50, 51, 52, 53, 54, 55, 56, 57, 48, 49, 50, 51, 52, 53, 54, 55, 56, 57, 48, 49, 50, 51, 52, 53, 54, 55, 56, 57, 48, 49, 50, 51, 52, 53, 54, 55, 56, 57, 48, 49, 50, 51, 52, 53, 54, 55, 56, 57, 48, 49, 50, 51, 52, 53, 54, 55, 56, 57, 48, 49, 50, 51]⟩ : ByteArray)⟩ : S46) )) (Reps.c3 (show Kd.M k46 _ _ _ (⟨(⟨#[98]⟩ : ByteArray), 2, (⟨#[48, 49, 50, 51, 52, 53, 54, 55, 56, 57, 48, 49, 50, 51, 52, 53, 54, 55, 56, 57, 48, 49, 50, 51, 52, 53, 54, 55, 56, 57, 48, 49, 50, 51, 52, 53, 54, 55, 56, 57, 48, 49, 50, 51, 52, 53, 54, 55, 56, 57, 48, 49, 50, 51, 52, 53, 54, 55, 56, 57, 48, 49, 50, 51]⟩ : ByteArray)⟩ : S46) [.string (⟨#[98]⟩ : ByteArray), .int .i64 2, .string (⟨#[48, 49, 50, 51, 52, 53, 54, 55, 56, 57, 48, 49, 50, 51, 52, 53, 54, 55, 56, 57, 48, 49, 50, 51, 52, 53, 54, 55, 56, 57, 48, 49, 50, 51, 52, 53, 54, 55, 56, 57, 48, 49, 50, 51, 52, 53, 54, 55, 56, 57, 48, 49, 50, 51, 52, 53, 54, 55, 56, 57, 48, 49, 50, 51]⟩ : ByteArray)] from (k46_mkM _ _ _ (⟨(⟨#[98]⟩ : ByteArray), 2, (⟨#[48, 49, 50, 51, 52, 53, 54, 55, 56, 57, 48, 49, 50, 51, 52, 53, 54, 55, 56, 57, 48, 49, 50, 51, 52, 53, 54, 55, 56, 57, 48, 49, 50, 51, 52, 53, 54, 55, 56, 57, 48, 49, 50, 51, 52, 53, 54, 55, 56, 57, 48, 49, 50, 51, 52, 53, 54, 55, 56, 57, 48, 49, 50, 51]⟩ : ByteArray)⟩ : S46) )) (Reps.none _ _))))); intro v273 w7 ho8 hb hg_ hnew_; clear hg_ hnew_; (first | rw [← Ny272.out] at ho8 | (simp only [Int.reduceToNat] at ho8; rw [← Ny272.out] at ho8)); have HO274 := am (Kd.R_lower ho8 siz); replace HB := bs hb; clear hb ho8; obtain ⟨Ao9, co9, eo9⟩ := Kd.R_slice HO274.out; subst eo9) | ((with_reducible refine gate_callee (f := 9) rfl ?_); refine gL (some 13) Tryd.func9 #[.slice Ao9 y272.length co9] ?_; (with_reducible refine (image_Lay.calls k _ _ y272 t275 t276 _ ?side1 ?side2 A1.out).mono ?_); (case side1 => exact cz (Kd.R_reads' HO274.out).2.2); (case side2 => exact (Kd.R_reads' HO274.out).2.1); rintro e w10 ⟨v277, rfl, ho0, hb⟩; refine ⟨_, rfl, ?_⟩; replace HO274 := am (Kd.R_below (rz HO274.out) hb); have HO278 := am (Kd.R_lower ho0 siz); replace HB := bs hb; (try clear ho0)) | ((with_reducible refine gate_callee (f := 14) rfl ?_); refine gL (some 17) Tryd.func14 #[.slice Ao9 y272.length co9] ?_; (with_reducible refine (image_Blocks.calls k _ _ y272 t279 _ ?side1 ?side2 A2.out).mono ?_); (case side1 => exact cz (Kd.R_reads' HO274.out).2.2); (case side2 => exact (Kd.R_reads' HO274.out).2.1); rintro e w11 ⟨rfl, hb⟩; refine ⟨_, rfl, ?_⟩; replace HO274 := am (Kd.R_below (rz HO274.out) hb); replace HO278 := am (Kd.R_below (rz HO278.out) hb); replace HB := bs hb; obtain ⟨Ao12, co12, eo12⟩ := Kd.R_slice HO278.out; subst eo12) | (go_at_call 15; (with_reducible refine (image_Saved.calls k _ _ y272 t280 _ ?side1 ?side2 A6.out).mono ?_); (case side1 => exact cz (Kd.R_reads' HO274.out).2.2); (case side2 => exact (Kd.R_reads' HO274.out).2.1); rintro e w13 ⟨rfl, hb⟩; replace HO274 := am (Kd.R_below (rz HO274.out) hb); replace HO278 := am (Kd.R_below (rz HO278.out) hb); replace HB := bs hb))
    go_ret; exact ⟨ez, bz⟩
   ·rw [if_neg c5] at H
    exact absurd H (by simp)
  ·rw [if_neg c4] at H
   exact absurd H (by simp)
 ·rw [if_neg c3] at H
  exact absurd H (by simp)
/-! ### hogsheadlaw0_Low: function 21 -/
def hogsheadlaw0_Low.f (a0 : Int) (a1 : Int) : Option (Int) := if (IntKind.u64.wrap (a1)) = 0 then (none) else (some (wrap64 (Int.tmod (IntKind.u64.wrap (a0)) (IntKind.u64.wrap (a1)))))
set_option maxHeartbeats 8000000 in
set_option maxRecDepth 100000 in
theorem hogsheadlaw0_Low.calls (a0 : Int) (a1 : Int) (r : Int) (w : World) (h : hogsheadlaw0_Low.f a0 a1 = some r) :
  Calls Tryd.prog 21 #[.int .i64 a0, .int .i64 a1] w fun e w' => e = .returned (.int .i64 r) ∧ Drawn0 w w' := by
 have H : (if (IntKind.u64.wrap (a1)) = 0 then (none) else (some (wrap64 (Int.tmod (IntKind.u64.wrap (a0)) (IntKind.u64.wrap (a1)))))) = some r := h; clear h; by_cases c3 : (IntKind.u64.wrap (a1)) = 0
 ·rw [if_pos c3] at H
  exact absurd H (by simp)
 ·rw [if_neg c3] at H
  have c3b0 : ((IntKind.u64.wrap (a1)) == 0) = false := beq_eq_false_iff_ne.mpr c3; have c3b1 : ((IntKind.u64.wrap (a1)) != 0) = true := bne_iff_ne.mpr c3; obtain rfl := Option.some.inj H; go_enter Tryd.func21, Tryd.ntmps21; go_wp2
  go_ret; exact ⟨by first | rfl | (simp; done) | (simp [*]; done), dz⟩

/-! ### api_Node_39: function 39 -/
def api_Node_39.f (l0 : List (S46)) : Option ((List (S46))) := (some (([] : List (S46)) : List (S46))).bind fun y281 => (if y281.length + l0.length < 3518437208883 then (some (y281 ++ l0)) else (none))
set_option maxHeartbeats 8000000 in
set_option maxRecDepth 100000 in
theorem api_Node_39.calls (A0 : Option Addr) (c0 : Nat) (l0 : List (S46)) (r : List (S46)) (w : World) (hr0 : Kd.C k46 w A0 l0.length l0) (hc0 : l0.length ≤ c0) (h : api_Node_39.f l0 = some r) :
  Calls Tryd.prog 39 #[.slice A0 l0.length c0] w fun e w' => ∃ v0_ : Value, e = .returned (v0_) ∧ Kd.R k46 46 w' w.heap.size (fun _ => True) v0_ r ∧ Below w.heap.size w w' := by
 rcases A0 with _ | a0x
 ·have hl_ : l0 = [] := List.eq_nil_of_length_eq_zero (by
   rcases Nat.eq_zero_or_pos l0.length with h_ | h_
   ·exact h_
   ·obtain ⟨ad_, e_, _⟩ := hr0.2.2 h_
    cases e_)
  subst hl_; have hnl : ∀ (W : World) (n c : Nat), (binOp .eql 22 (.slice none n c) (.slice none 0 0)).run Tryd.prog W = .ok (.bool true) W := fun W n c => Lib.run_eql_slice_nil W _ _ none n c 0 0 Tryd.underlying22
  obtain rfl : r = [] := by
   unfold api_Node_39.f at h
   simpa using h.symm
  go_enter Tryd.func39, Tryd.ntmps39; go_wp2
  go_ret; exact ⟨_, rfl, Kd.R_nil _ _ _ _ _, Below.refl _ _⟩
 have hnl : ∀ (W : World) (n c : Nat), (binOp .eql 22 (.slice (some a0x) n c) (.slice none 0 0)).run Tryd.prog W = .ok (.bool false) W := fun W n c => Lib.run_eql_slice_nil W _ _ (some a0x) n c 0 0 Tryd.underlying22
 have HR0 := am hr0; have HC0 := am hc0; clear hr0 hc0; have HB := am (Below.refl w.heap.size w); have H : ((some (([] : List (S46)) : List (S46))).bind fun y281 => (if y281.length + l0.length < 3518437208883 then (some (y281 ++ l0)) else (none))) = some r := h; clear h; refine bL H ?_; clear H; intro y281 hy281 H
 have Ny281 := am hy281; clear hy281; by_cases c2 : y281.length + l0.length < 3518437208883
 ·rw [if_pos c2] at H
  have LMc2 := am c2; clear c2; obtain ⟨y284, hy284⟩ : ∃ y_ : List (S46), y_ = (y281 ++ l0) := ⟨_, rfl⟩; try rw [← hy284] at H
  have Ny284 := am hy284; clear hy284; obtain rfl := Option.some.inj H; go_enter Tryd.func39, Tryd.ntmps39; go_wp2_with (first | ((with_reducible refine gate_dst (N := 5) rfl ?_); refine Kd.R_lit k46 _ 46 ?hg (N := 5) ?hd (xs := ([] : List (S46))) (inner := []) (ok := fun _ => True) (okp := fun _ => True) ?hr ?hp (fun _ hk => hk) trivial (Below.refl _ _) (Nat.le_refl _) (by simp) ?_; (case hd => rfl); (case hg => rfl); (case hr => first | (go_simp; done) | (go_simp; rfl)); (case hp => exact (Reps.none _ _)); intro v282 w3 ho4 hb hg_ hnew_; clear hg_ hnew_; (first | rw [← Ny281.out] at ho4 | (simp only [Int.reduceToNat] at ho4; rw [← Ny281.out] at ho4)); have HO283 := am (Kd.R_lower ho4 siz); replace HB := bs hb; clear hb ho4) | ((with_reducible refine gate_builtin (b := .append) (xs := #[.tmp 5, .tmp 6]) rfl ?_); at_builtin; refine Kd.R_append_rows k46 (w0 := w) w.heap.size rfl (.tmp 5) (.tmp 6) 22 46 (.agg #[(.string ⟨#[]⟩), (.int .i64 0), (.string ⟨#[]⟩)]) 40 rfl Tryd.underlying22 info46 rfl (by decide) (by omega) v282 y281 l0 _ _ _ (fun _ => True) (fun _ => False) rfl rfl ?aO ?aR (fun _ _ h => h) (fun _ h => h.elim) ?aF ?aB ?aS ?aL ?_; (case aR => exact cz (Kd.C_below HR0.out HB.out)); (case aB => exact bz); (case aF => exact (fun _ _ => trivial)); (case aO => exact (rz HO283.out)); (case aS => exact siz); (case aL => have := LMc2.out; omega); intro v285 w5 ho hb hg hat; rw [← Ny284.out] at ho; have n0_ := am (hb); have n1_ := am (ho); clear HB; clear HO283; have HB := n0_; have HO286 := n1_; clear n0_ n1_; clear ho hb hg hat))
  go_ret; exact ⟨_, by first | rfl | (simp [eN, eS] <;> rfl) | (simp [*, eN, eS] <;> rfl), by (with_reducible repeat (first | apply rA | apply rN | apply rD)); exact HO286.out, bz⟩
 ·rw [if_neg c2] at H
  exact absurd H (by simp)

/-! ### cmp_isNaN_string: function 72 -/
def cmp_isNaN_string.f (a0 : ByteArray) : Option (Bool) := some (a0.toList != a0.toList)
set_option maxHeartbeats 8000000 in
set_option maxRecDepth 100000 in
theorem cmp_isNaN_string.calls (a0 : ByteArray) (r : Bool) (w : World) (h : cmp_isNaN_string.f a0 = some r) :
  Calls Tryd.prog 72 #[.string a0] w fun e w' => e = .returned (.bool r) ∧ Drawn0 w w' := by
 have H : (some (a0.toList != a0.toList)) = some r := h; clear h; obtain rfl := Option.some.inj H; go_enter Tryd.func72, Tryd.ntmps72; go_wp2
 go_ret; exact ⟨by first | rfl | (simp; done) | (simp [*]; done), dz⟩

end Go.Proofs.YtcijimdogddbeaaDoor.P
