/- Laid by a program of this session (wip/pr), after the printer of the kit: the functions that a statement reaches as plain Lean functions, and that the calls of the machine come to them. No condition. -/
import Derived.Test.YtkloomnkpfaijaaDoorPx0
import Derived.Test.YtkloomnkpfaijaaDoorPx3
namespace Go.Proofs.YtkloomnkpfaijaaDoor.P
open Go.RowKit Go.Proofs.YtkloomnkpfaijaaDoorX Go.Proofs.YtkloomnkpfaijaaDoorW.PrintWords Go.Proofs.YtkloomnkpfaijaaDoorW.PrintLast Go.Proofs.YtkloomnkpfaijaaDoorW.PrintMore
attribute [local go_sem] max2_int min2_int max_two min_two
set_option linter.unusedVariables false
set_option linter.unusedSimpArgs false

/- tree.Filter, by hand out of a print of its loop: at whatever function value that answers as a plain function and keeps what lay. -/
def tree_FilterG.l0 (pf : Nat → ByteArray → Int → ByteArray → Option Bool) : Nat → List (S31) → List (S31) → Int → Int → Option ((List (S31)))
 | 0, _, _, _, _ => none
 | k + 1, x5, x8, x9, x10 => if x10 < x9 then (if 0 ≤ x10 then (if x10 < (x8.length : Int) then ((pf k ((rd_T31 x8 x10).f0) ((rd_T31 x8 x10).f1) ((rd_T31 x8 x10).f2)).bind fun t132 => (if t132 = true then (if x5.length < 3518437208883 then (tree_FilterG.l0 pf k (x5 ++ [(⟨(rd_T31 x8 x10).f0, (rd_T31 x8 x10).f1, (rd_T31 x8 x10).f2⟩ : S31)]) x8 x9 (wrap64 (x10 + 1))) else (none)) else (tree_FilterG.l0 pf k x5 x8 x9 (wrap64 (x10 + 1))))) else (none)) else (none)) else (some x5)
def tree_FilterG.f (pf : Nat → ByteArray → Int → ByteArray → Option Bool) (k : Nat) (l0 : List (S31)) : Option ((List (S31))) := tree_FilterG.l0 pf k ([] : List (S31)) l0 (l0.length : Int) 0
theorem tree_FilterG.mono_l {pf : Nat → ByteArray → Int → ByteArray → Option Bool} (hpf : ∀ a b c k, LeO (pf k a b c) (pf (k + 1) a b c)) : ∀ k, (∀ y0 y1 y2 y3, LeO (tree_FilterG.l0 pf k y0 y1 y2 y3) (tree_FilterG.l0 pf (k + 1) y0 y1 y2 y3))
 | 0 => fun _ _ _ _ r h => by simp [tree_FilterG.l0] at h
 | k + 1 => by
  have ih0 := tree_FilterG.mono_l hpf k
  ·intro y0 y1 y2 y3
   unfold tree_FilterG.l0
   repeat' first
   | (with_reducible exact ih0 _ _ _ _)
   | (with_reducible exact hpf _ _ _ _)
   | (with_reducible exact LeO.refl _)
   | (with_reducible exact LeO.none _)
   | (with_reducible refine LeO.ite ?_ ?_)
   | (with_reducible refine LeO.bind ?_ (fun _ => ?_))
   | exact hpf _ _ _ _
theorem tree_FilterG.mono {pf : Nat → ByteArray → Int → ByteArray → Option Bool} (hpf : ∀ a b c k, LeO (pf k a b c) (pf (k + 1) a b c)) : ∀ a0 k, LeO (tree_FilterG.f pf k a0) (tree_FilterG.f pf (k + 1) a0) := by
 intro a0 k; have ih0 := tree_FilterG.mono_l hpf k; unfold tree_FilterG.f
 repeat' first
   | (with_reducible exact ih0 _ _ _ _)
   | (with_reducible exact hpf _ _ _ _)
   | (with_reducible exact LeO.refl _)
   | (with_reducible exact LeO.none _)
   | (with_reducible refine LeO.ite ?_ ?_)
   | (with_reducible refine LeO.bind ?_ (fun _ => ?_))
   | exact hpf _ _ _ _
set_option maxHeartbeats 8000000 in
set_option maxRecDepth 100000 in
theorem tree_FilterG.calls (pf : Nat → ByteArray → Int → ByteArray → Option Bool) (gf : Nat) (fst lb : Array Value) (eg : ∀ args w, (callFunc gf args).run Tryd.prog w = .ok (.enter gf args) w) (k : Nat) (A0 : Option Addr) (c0 : Nat) (l0 : List (S31)) (r : List (S31)) (w : World) (hf : ∀ (k : Nat) (x0 : ByteArray) (x1 : Int) (x2 : ByteArray) (b : Bool) (W : World), pf k x0 x1 x2 = some b → Below w.heap.size w W → Calls Tryd.prog gf (fst ++ #[.agg #[.string x0, .int .i64 x1, .string x2]] ++ lb) W fun e w' => e = .returned (.bool b) ∧ Below W.heap.size W w') (hr0 : Kd.C k31 w A0 l0.length l0) (hc0 : l0.length ≤ c0) (h : tree_FilterG.f pf k l0 = some r) :
  Calls Tryd.prog 30 #[.slice A0 l0.length c0, .func (.func gf) fst lb] w fun e w' => ∃ v0_ : Value, e = .returned (v0_) ∧ Kd.R k31 31 w' w.heap.size (fun _ => True) v0_ r ∧ Below w.heap.size w w' := by
 have hnf : ∀ W : World, (binOp BinOp.eql 53 (.func (.func gf) fst lb) .nilFunc).run Tryd.prog W = .ok (.bool false) W := fun W => by first | rfl | kernel_rfl | (simp [go_sem, Tryd.underlying53]; done)
 have hu31 := Tryd.underlying31; have HF := am hf; clear hf; have HR0 := am hr0; have HC0 := am hc0; clear hr0 hc0; have HB := am (Below.refl w.heap.size w); have H : (tree_FilterG.l0 pf k ([] : List (S31)) l0 (l0.length : Int) 0) = some r := h; clear h; have H' := am H; clear H; go_enter Tryd.func30, Tryd.ntmps30; go_wp2
 go_loopg [5, 10] k (fun kq v5 v10 w' => ∃ (x5_1 : List (S31)) (x10_1 : Int), v10 = .int .i64 x10_1 ∧ Aside0 (tree_FilterG.l0 pf kq x5_1 l0 (l0.length : Int) x10_1 = some r) ∧ Aside0 (kq ≤ k) ∧ Aside0 (Kd.R k31 31 w' w.heap.size (fun _ => True) v5 x5_1) ∧ Aside0 (Below w.heap.size w w'))
 case atStart => exact ⟨(([] : List (S31))), (0), (by first | rfl | (simp; done) | (simp [*]; done)), H', ⟨Nat.le_refl _⟩, ⟨by first | exact Kd.R_nil _ _ _ _ _ | exact Kd.N_nil _ _ _ _ _ | exact Kd.V_nil _ _ _ _ _ | exact Kd.Q_nil _ _ _ _ _ | exact Kd.S_nil _ _ _ _ _⟩, ⟨bz⟩⟩
 case round =>
  clear H'; (try clear p2); obtain ⟨x5_1, x10_1, rfl, HA, HK1, HO_5, HB⟩ := hrel; cases gk with
  | zero => exact absurd HA.out (by simp [tree_FilterG.l0])
  | succ k1 =>
   have H := HA.out; clear HA; simp only [tree_FilterG.l0] at H
   by_cases c3 : x10_1 < (l0.length : Int)
   ·rw [if_pos c3] at H
    have c3b0 : decide (x10_1 < (l0.length : Int)) = true := decide_eq_true c3; clear c3; by_cases c4 : 0 ≤ x10_1
    ·rw [if_pos c4] at H
     have c4b0 : decide (0 ≤ x10_1) = true := decide_eq_true c4; clear c4; by_cases c5 : x10_1 < (l0.length : Int)
     ·rw [if_pos c5] at H
      have c5b0 : decide (x10_1 < (l0.length : Int)) = true := decide_eq_true c5; clear c5; refine oR H ?_; clear H; intro t132 A6 H; by_cases c7 : t132 = true
      ·subst c7
       have H1 : (if x5_1.length < 3518437208883 then (tree_FilterG.l0 pf k1 (x5_1 ++ [(⟨(rd_T31 l0 x10_1).f0, (rd_T31 l0 x10_1).f1, (rd_T31 l0 x10_1).f2⟩ : S31)]) l0 (l0.length : Int) (wrap64 (x10_1 + 1))) else (none)) = some r := by rw [if_pos rfl] at H; exact H
       clear H; have H := H1; clear H1; by_cases c8 : x5_1.length < 3518437208883
       ·rw [if_pos c8] at H
        have LMc8 := am c8; clear c8; obtain ⟨y133, hy133⟩ : ∃ y_ : List (S31), y_ = (x5_1 ++ [(⟨(rd_T31 l0 x10_1).f0, (rd_T31 l0 x10_1).f1, (rd_T31 l0 x10_1).f2⟩ : S31)]) := ⟨_, rfl⟩; try rw [← hy133] at H
        have Ny133 := am hy133; clear hy133; have H' := am H; clear H; have p130 : 0 ≤ (x10_1 : Int) := of_decide_eq_true (by assumption); have q130 : x10_1 < (l0.length : Int) := of_decide_eq_true (by assumption); obtain ⟨ad130, e130, hx130_0, hx130_1, hx130_2⟩ := at_T31 HR0.out x10_1 p130 q130; cases e130; replace hx130_0 := (HB.out.cell (wB w _ hx130_0)).trans hx130_0; replace hx130_1 := (HB.out.cell (wB w _ hx130_1)).trans hx130_1; replace hx130_2 := (HB.out.cell (wB w _ hx130_2)).trans hx130_2; replace p130 := eq_true p130; replace q130 := eq_true q130; go_wp2_with (first | ((with_reducible refine gate_dst (N := 7) rfl ?_); refine bx 7 #[.string (⟨#[]⟩ : ByteArray), .int .i64 0, .string (⟨#[]⟩ : ByteArray)] 31 ?_; intro gb131 hg w9 hbox hb; replace HO_5 := am (Kd.R_below (Kd.R_elderB (rz HO_5.out) gb131 (Nat.le_of_eq hg.symm)) hb); have BK131 := am (hbox); have GW131 := gz hg; have GE131 := gz hg; replace HB := bs hb; clear hb hbox hg; obtain ⟨hcz10_0, hcz10_1, hcz10_2⟩ := cq3 BK131.out; obtain ⟨hfz10_0, hfz10_1, hfz10_2⟩ := fq3 BK131.out) | (go_at_fn gf; refine (HF.out k1 ((rd_T31 l0 x10_1).f0) ((rd_T31 l0 x10_1).f1) ((rd_T31 l0 x10_1).f2) true _ A6.out bq).mono ?_; rintro e w11 ⟨rfl, hb⟩; replace HO_5 := am (Kd.R_below (rz (Kd.R_mono (Kd.R_far (p := ⟨gb131, 2, none⟩) (Kd.R_far (p := ⟨gb131, 1, none⟩) (Kd.R_far (p := ⟨gb131, 0, none⟩) (Kd.R_mono HO_5.out (fun k_ hk => (⟨hk, hk.2⟩ : _ ∧ k_ ≠ gb131))) (fun _ hk => hk.2) (.string ((rd_T31 l0 x10_1).f0))) (fun _ hk => hk.2) (.int .i64 ((rd_T31 l0 x10_1).f1))) (fun _ hk => hk.2) (.string ((rd_T31 l0 x10_1).f2))) (fun _ h_ => h_.1))) hb); replace BK131 := am (blk_below (g := gb131) (o := .cells #[.string ((rd_T31 l0 x10_1).f0), .int .i64 ((rd_T31 l0 x10_1).f1), .string ((rd_T31 l0 x10_1).f2)] 31 (0, 0)) (by (with_reducible repeat (first | refine kN ?_ _ | refine kD ?_ | refine kA ?_ _)); refine blk_put (cs := #[.string ((rd_T31 l0 x10_1).f0), .int .i64 ((rd_T31 l0 x10_1).f1), .string (⟨#[]⟩ : ByteArray)]) ?_ 2 _ rfl; (with_reducible repeat (first | refine kN ?_ _ | refine kD ?_ | refine kA ?_ _)); refine blk_put (cs := #[.string ((rd_T31 l0 x10_1).f0), .int .i64 0, .string (⟨#[]⟩ : ByteArray)]) ?_ 1 _ rfl; (with_reducible repeat (first | refine kN ?_ _ | refine kD ?_ | refine kA ?_ _)); refine blk_put (cs := #[.string (⟨#[]⟩ : ByteArray), .int .i64 0, .string (⟨#[]⟩ : ByteArray)]) ?_ 0 _ rfl; (with_reducible repeat (first | refine kN ?_ _ | refine kD ?_ | refine kA ?_ _)); exact BK131.out) hb); replace HB := bw hb; obtain ⟨hcz12_0, hcz12_1, hcz12_2⟩ := cq3 BK131.out; obtain ⟨hfz12_0, hfz12_1, hfz12_2⟩ := fq3 BK131.out) | ((with_reducible refine gate_builtin (b := .append) (xs := #[.tmp 21, .tmp 23]) rfl ?_); at_builtin; refine Kd.R_append k31 (w0 := w) w.heap.size rfl (.tmp 21) (.tmp 23) 22 31 (.agg #[(.string ⟨#[]⟩), (.int .i64 0), (.string ⟨#[]⟩)]) 40 rfl Tryd.underlying22 info31 rfl (by decide) (by omega) u5 x5_1 (⟨(rd_T31 l0 x10_1).f0, (rd_T31 l0 x10_1).f1, (rd_T31 l0 x10_1).f2⟩ : S31) [.string ((rd_T31 l0 x10_1).f0), .int .i64 ((rd_T31 l0 x10_1).f1), .string ((rd_T31 l0 x10_1).f2)] (fun k_ => k_ ≠ gb131) (fun _ => False) rfl rfl ?aP (fun _ hk => hk.elim) ?aF ?aO ?aB ?aS ?aL ?_; (case aP => exact k31_mkM _ _ _ (⟨(rd_T31 l0 x10_1).f0, (rd_T31 l0 x10_1).f1, (rd_T31 l0 x10_1).f2⟩ : S31)); (case aB => exact bq); (case aF => exact (fun k_ hk => Kd.freshB (g := gb131) (o := .cells #[.string ((rd_T31 l0 x10_1).f0), .int .i64 ((rd_T31 l0 x10_1).f1), .string ((rd_T31 l0 x10_1).f2)] 31 (0, 0)) (bk BK131.out) k_ hk)); (case aO => exact (rz (Kd.R_mono HO_5.out (fun _ hk => hk.2)))); (case aS => exact siq); (case aL => have := LMc8.out; omega); intro v134 w13 ho hb hg hat; rw [← Ny133.out] at ho; have n0_ := am (blk_grown (g := gb131) (o := .cells #[.string ((rd_T31 l0 x10_1).f0), .int .i64 ((rd_T31 l0 x10_1).f1), .string ((rd_T31 l0 x10_1).f2)] 31 (0, 0)) (bk BK131.out) hg (Kd.R_away HO_5.out (fun _ hk => hk.2))); have n1_ := am (hb); have n2_ := am (ho); clear BK131; clear HB; clear HO_5; have BK131 := n0_; have HB := n1_; have HO135 := n2_; clear n0_ n1_ n2_; clear ho hb hg hat))
        go_roundg k1
        case measure => have := HK1.out; omega
        case rel => exact ⟨(y133), (wrap64 (x10_1 + 1)), (by first | rfl | (simp; done) | (simp [*]; done)), H', ⟨by have := HK1.out; omega⟩, ⟨rz (Kd.R_mono HO135.out (fun _ hk => trivial))⟩, ⟨bq⟩⟩
       ·rw [if_neg c8] at H
        exact absurd H (by simp)
      ·replace c7 := Bool.eq_false_iff.mpr c7
       subst c7; have H1 : (tree_FilterG.l0 pf k1 x5_1 l0 (l0.length : Int) (wrap64 (x10_1 + 1))) = some r := by rw [if_neg (show ¬ (false = true) by decide)] at H; exact H
       clear H; have H := H1; clear H1; have H' := am H; clear H; have p130 : 0 ≤ (x10_1 : Int) := of_decide_eq_true (by assumption); have q130 : x10_1 < (l0.length : Int) := of_decide_eq_true (by assumption); obtain ⟨ad130, e130, hx130_0, hx130_1, hx130_2⟩ := at_T31 HR0.out x10_1 p130 q130; cases e130; replace hx130_0 := (HB.out.cell (wB w _ hx130_0)).trans hx130_0; replace hx130_1 := (HB.out.cell (wB w _ hx130_1)).trans hx130_1; replace hx130_2 := (HB.out.cell (wB w _ hx130_2)).trans hx130_2; replace p130 := eq_true p130; replace q130 := eq_true q130; go_wp2_with (first | ((with_reducible refine gate_dst (N := 7) rfl ?_); refine bx 7 #[.string (⟨#[]⟩ : ByteArray), .int .i64 0, .string (⟨#[]⟩ : ByteArray)] 31 ?_; intro gb131 hg w14 hbox hb; replace HO_5 := am (Kd.R_below (Kd.R_elderB (rz HO_5.out) gb131 (Nat.le_of_eq hg.symm)) hb); have BK131 := am (hbox); have GW131 := gz hg; have GE131 := gz hg; replace HB := bs hb; clear hb hbox hg; obtain ⟨hcz15_0, hcz15_1, hcz15_2⟩ := cq3 BK131.out; obtain ⟨hfz15_0, hfz15_1, hfz15_2⟩ := fq3 BK131.out) | (go_at_fn gf; refine (HF.out k1 ((rd_T31 l0 x10_1).f0) ((rd_T31 l0 x10_1).f1) ((rd_T31 l0 x10_1).f2) false _ A6.out bq).mono ?_; rintro e w16 ⟨rfl, hb⟩; replace HO_5 := am (Kd.R_below (rz (Kd.R_mono (Kd.R_far (p := ⟨gb131, 2, none⟩) (Kd.R_far (p := ⟨gb131, 1, none⟩) (Kd.R_far (p := ⟨gb131, 0, none⟩) (Kd.R_mono HO_5.out (fun k_ hk => (⟨hk, hk.2⟩ : _ ∧ k_ ≠ gb131))) (fun _ hk => hk.2) (.string ((rd_T31 l0 x10_1).f0))) (fun _ hk => hk.2) (.int .i64 ((rd_T31 l0 x10_1).f1))) (fun _ hk => hk.2) (.string ((rd_T31 l0 x10_1).f2))) (fun _ h_ => h_.1))) hb); replace BK131 := am (blk_below (g := gb131) (o := .cells #[.string ((rd_T31 l0 x10_1).f0), .int .i64 ((rd_T31 l0 x10_1).f1), .string ((rd_T31 l0 x10_1).f2)] 31 (0, 0)) (by (with_reducible repeat (first | refine kN ?_ _ | refine kD ?_ | refine kA ?_ _)); refine blk_put (cs := #[.string ((rd_T31 l0 x10_1).f0), .int .i64 ((rd_T31 l0 x10_1).f1), .string (⟨#[]⟩ : ByteArray)]) ?_ 2 _ rfl; (with_reducible repeat (first | refine kN ?_ _ | refine kD ?_ | refine kA ?_ _)); refine blk_put (cs := #[.string ((rd_T31 l0 x10_1).f0), .int .i64 0, .string (⟨#[]⟩ : ByteArray)]) ?_ 1 _ rfl; (with_reducible repeat (first | refine kN ?_ _ | refine kD ?_ | refine kA ?_ _)); refine blk_put (cs := #[.string (⟨#[]⟩ : ByteArray), .int .i64 0, .string (⟨#[]⟩ : ByteArray)]) ?_ 0 _ rfl; (with_reducible repeat (first | refine kN ?_ _ | refine kD ?_ | refine kA ?_ _)); exact BK131.out) hb); replace HB := bw hb))
       go_roundg k1
       case measure => have := HK1.out; omega
       case rel => exact ⟨(x5_1), (wrap64 (x10_1 + 1)), (by first | rfl | (simp; done) | (simp [*]; done)), H', ⟨by have := HK1.out; omega⟩, ⟨rz (Kd.R_mono HO_5.out (fun _ hk => trivial))⟩, ⟨bq⟩⟩
     ·rw [if_neg c5] at H
      exact absurd H (by simp)
    ·rw [if_neg c4] at H
     exact absurd H (by simp)
   ·rw [if_neg c3] at H
    have c3b0 : decide (x10_1 < (l0.length : Int)) = false := decide_eq_false c3; clear c3; obtain rfl := Option.some.inj H; go_wp2
    go_ret; exact ⟨_, by first | rfl | (simp [eN, eS] <;> rfl) | (simp [*, eN, eS] <;> rfl), by (with_reducible repeat (first | apply rA | apply rN | apply rD)); exact HO_5.out, bz⟩


/-- tree.Filter at a method's value. -/
def find_FilterChild.f (k : Nat) (l0 : List S31) (a1 : ByteArray) : Option (List S31) := tree_FilterG.f (fun k x0 x1 x2 => find_place_child.f k a1 x0 x1 x2) k l0
theorem find_FilterChild.mono : ∀ a0 a1 k, LeO (find_FilterChild.f k a0 a1) (find_FilterChild.f (k + 1) a0 a1) := fun a0 a1 k => tree_FilterG.mono (fun a b c k => find_place_child.mono a1 a b c k) a0 k
theorem find_FilterChild.calls (k : Nat) (A0 : Option Addr) (c0 : Nat) (l0 : List S31) (a1 : ByteArray) (r : List S31) (w : World) (hr0 : Kd.C k31 w A0 l0.length l0) (hc0 : l0.length ≤ c0) (h : find_FilterChild.f k l0 a1 = some r) :
  Calls Tryd.prog 30 #[.slice A0 l0.length c0, .func (.func 31) #[.string a1] #[]] w fun e w' => ∃ v0_ : Value, e = .returned (v0_) ∧ Kd.R k31 31 w' w.heap.size (fun _ => True) v0_ r ∧ Below w.heap.size w w' :=
 tree_FilterG.calls (fun k x0 x1 x2 => find_place_child.f k a1 x0 x1 x2) 31 #[.string a1] #[] (enters_of Tryd.func31 (by kernel_rfl) rfl) k A0 c0 l0 r w (fun k x0 x1 x2 b W hp _ => find_place_child.calls k a1 x0 x1 x2 b W hp) hr0 hc0 h

/-! ### tree_Good: function 52 -/
mutual
def tree_Good.j0 : Nat → Bool → ByteArray → Int → ByteArray → Option (Bool)
 | 0, _, _, _, _ => none
 | k + 1, x12, x123000, x123001, x123002 => if x12 = true then (some false) else (if x123001 = 1 then (some (x123002.toList == ([] : List UInt8))) else (if x123001 = 2 then (tree_Good.j1 k x123001 (x123001 == 2) x123000 x123001 x123002) else (tree_Good.j1 k x123001 (x123001 == 3) x123000 x123001 x123002)))
def tree_Good.j1 : Nat → Int → Bool → ByteArray → Int → ByteArray → Option (Bool)
 | 0, _, _, _, _, _ => none
 | k + 1, x14, x20, x123000, x123001, x123002 => if x20 = true then (some true) else (if x14 = 4 then (if x123002.toList = ([] : List UInt8) then (some false) else ((strings_IndexByte.f x123002 0).bind fun t124 => (some (decide (t124 < 0))))) else (some false))
end
def tree_Good.f (k : Nat) (a0_0 : ByteArray) (a0_1 : Int) (a0_2 : ByteArray) : Option (Bool) := (path_May.f k a0_0).bind fun t123 => (if t123 = true then (tree_Good.j0 k (decide ((a0_2.size : Int) > 400)) a0_0 a0_1 a0_2) else (tree_Good.j0 k true a0_0 a0_1 a0_2))
theorem tree_Good.mono_l : ∀ k, (∀ y0 y1 y2 y3, LeO (tree_Good.j0 k y0 y1 y2 y3) (tree_Good.j0 (k + 1) y0 y1 y2 y3)) ∧ (∀ y0 y1 y2 y3 y4, LeO (tree_Good.j1 k y0 y1 y2 y3 y4) (tree_Good.j1 (k + 1) y0 y1 y2 y3 y4))
 | 0 => ⟨fun _ _ _ _ r h => by simp [tree_Good.j0] at h, fun _ _ _ _ _ r h => by simp [tree_Good.j1] at h⟩
 | k + 1 => by
  obtain ⟨ih0, ih1⟩ := tree_Good.mono_l k; refine ⟨?_, ?_⟩
  ·intro y0 y1 y2 y3
   unfold tree_Good.j0
   repeat' with_reducible first | exact ih0 _ _ _ _ | exact ih1 _ _ _ _ _ | exact path_May.mono _ _ | exact LeO.refl _ | exact LeO.none _ | refine LeO.ite ?_ ?_ | refine LeO.bind ?_ (fun _ => ?_)
  ·intro y0 y1 y2 y3 y4
   unfold tree_Good.j1
   repeat' with_reducible first | exact ih0 _ _ _ _ | exact ih1 _ _ _ _ _ | exact path_May.mono _ _ | exact LeO.refl _ | exact LeO.none _ | refine LeO.ite ?_ ?_ | refine LeO.bind ?_ (fun _ => ?_)
theorem tree_Good.mono : ∀ a0 a1 a2 k, LeO (tree_Good.f k a0 a1 a2) (tree_Good.f (k + 1) a0 a1 a2) := by
 intro a0 a1 a2 k; obtain ⟨ih0, ih1⟩ := tree_Good.mono_l k; unfold tree_Good.f
 repeat' with_reducible first | exact ih0 _ _ _ _ | exact ih1 _ _ _ _ _ | exact path_May.mono _ _ | exact LeO.refl _ | exact LeO.none _ | refine LeO.ite ?_ ?_ | refine LeO.bind ?_ (fun _ => ?_)
set_option maxHeartbeats 8000000 in
set_option maxRecDepth 100000 in
theorem tree_Good.calls (k : Nat) (a0_0 : ByteArray) (a0_1 : Int) (a0_2 : ByteArray) (r : Bool) (w : World) (h : tree_Good.f k a0_0 a0_1 a0_2 = some r) :
  Calls Tryd.prog 52 #[.agg #[.string a0_0, .int .i64 a0_1, .string a0_2]] w fun e w' => e = .returned (.bool r) ∧ Below w.heap.size w w' := by
 have hu31 := Tryd.underlying31; have HB := am (Below.refl w.heap.size w); have H : ((path_May.f k a0_0).bind fun t123 => (if t123 = true then (tree_Good.j0 k (decide ((a0_2.size : Int) > 400)) a0_0 a0_1 a0_2) else (tree_Good.j0 k true a0_0 a0_1 a0_2))) = some r := h; clear h; have HC2 := am H; clear H; go_enter Tryd.func52, Tryd.ntmps52; go_upto_region 1 with (first | ((with_reducible refine gate_dst (N := 1) rfl ?_); (try (refine gate_guard (by rfl) ?_; dsimp only)); refine bx 1 #[.string a0_0, .int .i64 a0_1, .string a0_2] 31 ?_; intro gb122 hg w3 hbox hb; have BK122 := am (hbox); have GW122 := gz hg; have GE122 := gz hg; replace HB := bs hb; clear hb hbox hg))
 (try simp only [Act.put, sA, sB, sC])
 go_cut [12] (fun v12 wc => ∃ (kq : Nat) (x12_1 : Bool), v12 = .bool x12_1 ∧ Aside0 (tree_Good.j0 kq x12_1 a0_0 a0_1 a0_2 = some r) ∧ Aside0 (kq ≤ k) ∧ Aside0 (wc.heap[gb122]? = some (.cells #[.string a0_0, .int .i64 a0_1, .string a0_2] 31 (0, 0))) ∧ Aside0 (Below w.heap.size w wc))
 case first =>
  have H := HC2.out; clear HC2; refine oR H ?_; clear H; intro t123 A4 H; by_cases c5 : t123 = true
  ·subst c5
   have H1 : (tree_Good.j0 k (decide ((a0_2.size : Int) > 400)) a0_0 a0_1 a0_2) = some r := by rw [if_pos rfl] at H; exact H
   clear H; have H := H1; clear H1; have H' := am H; clear H; obtain ⟨hcz6_0, hcz6_1, hcz6_2⟩ := cq3 BK122.out; obtain ⟨hfz6_0, hfz6_1, hfz6_2⟩ := fq3 BK122.out; go_wp2_with (first | ((with_reducible refine gate_callee (f := 33) rfl ?_); refine gL (some 5) Tryd.func33 #[.string a0_0] ?_; (with_reducible refine (path_May.calls k a0_0 true _ A4.out).mono ?_); rintro e w7 ⟨rfl, hb⟩; refine ⟨_, rfl, ?_⟩; replace BK122 := am (blk_below (g := gb122) (o := .cells #[.string a0_0, .int .i64 a0_1, .string a0_2] 31 (0, 0)) (bk BK122.out) hb); replace HB := bw hb; obtain ⟨hcz8_0, hcz8_1, hcz8_2⟩ := cq3 BK122.out; obtain ⟨hfz8_0, hfz8_1, hfz8_2⟩ := fq3 BK122.out))
   go_meet; case rel => exact ⟨_, (decide ((a0_2.size : Int) > 400)), (by first | rfl | (simp; done) | (simp [*]; done)), H', ⟨by first | omega | exact Nat.le_refl _⟩, ⟨bk BK122.out⟩, ⟨bq⟩⟩
  ·replace c5 := Bool.eq_false_iff.mpr c5
   subst c5; have H1 : (tree_Good.j0 k true a0_0 a0_1 a0_2) = some r := by rw [if_neg (show ¬ (false = true) by decide)] at H; exact H
   clear H; have H := H1; clear H1; have H' := am H; clear H; obtain ⟨hcz9_0, hcz9_1, hcz9_2⟩ := cq3 BK122.out; obtain ⟨hfz9_0, hfz9_1, hfz9_2⟩ := fq3 BK122.out; go_wp2_with (first | ((with_reducible refine gate_callee (f := 33) rfl ?_); refine gL (some 5) Tryd.func33 #[.string a0_0] ?_; (with_reducible refine (path_May.calls k a0_0 false _ A4.out).mono ?_); rintro e w10 ⟨rfl, hb⟩; refine ⟨_, rfl, ?_⟩; replace BK122 := am (blk_below (g := gb122) (o := .cells #[.string a0_0, .int .i64 a0_1, .string a0_2] 31 (0, 0)) (bk BK122.out) hb); replace HB := bw hb))
   go_meet; case rel => exact ⟨_, (true), (by first | rfl | (simp; done) | (simp [*]; done)), H', ⟨by first | omega | exact Nat.le_refl _⟩, ⟨bk BK122.out⟩, ⟨bq⟩⟩
 case rest =>
  clear HC2; (try clear p2); (try clear c3); (try clear c5); (try clear hcz6_0); (try clear hcz6_1); (try clear hcz6_2); (try clear hcz8_0); (try clear hcz8_1); (try clear hcz8_2); (try clear hcz9_0); (try clear hcz9_1); (try clear hcz9_2); (try clear hfz6_0); (try clear hfz6_1); (try clear hfz6_2); (try clear hfz8_0); (try clear hfz8_1); (try clear hfz8_2); (try clear hfz9_0); (try clear hfz9_1); (try clear hfz9_2); obtain ⟨kq, x12_1, rfl, HA, HJ1, BK122, HB⟩ := hcut; cases kq with
  | zero => exact absurd HA.out (by simp [tree_Good.j0])
  | succ kj1 =>
   have H := HA.out; clear HA; simp only [tree_Good.j0] at H
   by_cases c11 : x12_1 = true
   ·subst c11
    have H1 : (some false) = some r := by rw [if_pos rfl] at H; exact H
    clear H; have H := H1; clear H1; obtain rfl := Option.some.inj H; go_wp2
    go_ret; exact ⟨ez, bq⟩
   ·replace c11 := Bool.eq_false_iff.mpr c11
    subst c11; have H1 : (if a0_1 = 1 then (some (a0_2.toList == ([] : List UInt8))) else (if a0_1 = 2 then (tree_Good.j1 kj1 a0_1 (a0_1 == 2) a0_0 a0_1 a0_2) else (tree_Good.j1 kj1 a0_1 (a0_1 == 3) a0_0 a0_1 a0_2))) = some r := by rw [if_neg (show ¬ (false = true) by decide)] at H; exact H
    clear H; have H := H1; clear H1; by_cases c12 : a0_1 = 1
    ·rw [if_pos c12] at H
     have c12b0 : (a0_1 == 1) = true := beq_iff_eq.mpr c12; have c12b1 : (a0_1 != 1) = false := bne_eq_false_iff_eq.mpr c12; clear c12; obtain rfl := Option.some.inj H; obtain ⟨hcz13_0, hcz13_1, hcz13_2⟩ := cq3 BK122.out; obtain ⟨hfz13_0, hfz13_1, hfz13_2⟩ := fq3 BK122.out; go_wp2
     go_ret; exact ⟨ez, bq⟩
    ·rw [if_neg c12] at H
     have c12b0 : (a0_1 == 1) = false := beq_eq_false_iff_ne.mpr c12; have c12b1 : (a0_1 != 1) = true := bne_iff_ne.mpr c12; have HC14 := am H; clear H; obtain ⟨hcz15_0, hcz15_1, hcz15_2⟩ := cq3 BK122.out; obtain ⟨hfz15_0, hfz15_1, hfz15_2⟩ := fq3 BK122.out; go_upto_if 20 with (fail)
     go_cut [20] (fun v20 wc => ∃ (kq : Nat) (x20_13 : Bool), v20 = .bool x20_13 ∧ Aside0 (tree_Good.j1 kq a0_1 x20_13 a0_0 a0_1 a0_2 = some r) ∧ Aside0 (kq ≤ kj1) ∧ Aside0 (wc.heap[gb122]? = some (.cells #[.string a0_0, .int .i64 a0_1, .string a0_2] 31 (0, 0))) ∧ Aside0 (Below w.heap.size w wc))
     case first =>
      have H := HC14.out; clear HC14; by_cases c16 : a0_1 = 2
      ·rw [if_pos c16] at H
       have c16b0 : (a0_1 == 2) = true := beq_iff_eq.mpr c16; have c16b1 : (a0_1 != 2) = false := bne_eq_false_iff_eq.mpr c16; clear c16; (first | rw [c16b0] | (simp only [i64_w, i32_w]; rw [c16b0]) | skip)
       have H' := am H; clear H; go_wp2
       go_meet; case rel => exact ⟨_, ((a0_1 == 2)), (by first | rfl | (simp; done) | (simp [*]; done)), H', ⟨by have := HJ1.out; first | omega | exact Nat.le_refl _⟩, ⟨bk BK122.out⟩, ⟨bq⟩⟩
      ·rw [if_neg c16] at H
       have c16b0 : (a0_1 == 2) = false := beq_eq_false_iff_ne.mpr c16; have c16b1 : (a0_1 != 2) = true := bne_iff_ne.mpr c16; (first | rw [c16b0] | (simp only [i64_w, i32_w]; rw [c16b0]) | skip)
       have H' := am H; clear H; go_wp2
       go_meet; case rel => exact ⟨_, ((a0_1 == 3)), (by first | rfl | (simp; done) | (simp [*]; done)), H', ⟨by have := HJ1.out; first | omega | exact Nat.le_refl _⟩, ⟨bk BK122.out⟩, ⟨bq⟩⟩
     case rest =>
      clear HC14; (try clear c1); (try clear p2); (try clear c3); (try clear c5); (try clear c11); (try clear c12); (try clear c12b0); (try clear c12b1); (try clear c16); (try clear c16b0); (try clear c16b1); (try clear hcz13_0); (try clear hcz13_1); (try clear hcz13_2); (try clear hcz15_0); (try clear hcz15_1); (try clear hcz15_2); (try clear hcz6_0); (try clear hcz6_1); (try clear hcz6_2); (try clear hcz8_0); (try clear hcz8_1); (try clear hcz8_2); (try clear hcz9_0); (try clear hcz9_1); (try clear hcz9_2); (try clear hfz13_0); (try clear hfz13_1); (try clear hfz13_2); (try clear hfz15_0); (try clear hfz15_1); (try clear hfz15_2); (try clear hfz6_0); (try clear hfz6_1); (try clear hfz6_2); (try clear hfz8_0); (try clear hfz8_1); (try clear hfz8_2); (try clear hfz9_0); (try clear hfz9_1); (try clear hfz9_2); (try clear p2); obtain ⟨kq, x20_13, rfl, HA, HJ13, BK122, HB⟩ := hcut; cases kq with
      | zero => exact absurd HA.out (by simp [tree_Good.j1])
      | succ kj13 =>
       have H := HA.out; clear HA; simp only [tree_Good.j1] at H
       by_cases c17 : x20_13 = true
       ·subst c17
        have H1 : (some true) = some r := by rw [if_pos rfl] at H; exact H
        clear H; have H := H1; clear H1; obtain rfl := Option.some.inj H; go_wp2
        go_ret; exact ⟨ez, bq⟩
       ·replace c17 := Bool.eq_false_iff.mpr c17
        subst c17; have H1 : (if a0_1 = 4 then (if a0_2.toList = ([] : List UInt8) then (some false) else ((strings_IndexByte.f a0_2 0).bind fun t124 => (some (decide (t124 < 0))))) else (some false)) = some r := by rw [if_neg (show ¬ (false = true) by decide)] at H; exact H
        clear H; have H := H1; clear H1; by_cases c18 : a0_1 = 4
        ·rw [if_pos c18] at H
         have c18b0 : (a0_1 == 4) = true := beq_iff_eq.mpr c18; have c18b1 : (a0_1 != 4) = false := bne_eq_false_iff_eq.mpr c18; clear c18; by_cases c19 : a0_2.toList = ([] : List UInt8)
         ·rw [if_pos c19] at H
          have c19b0 : (a0_2.toList == ([] : List UInt8)) = true := beq_iff_eq.mpr c19; have c19b1 : (a0_2.toList != ([] : List UInt8)) = false := bne_eq_false_iff_eq.mpr c19; clear c19; obtain rfl := Option.some.inj H; obtain ⟨hcz20_0, hcz20_1, hcz20_2⟩ := cq3 BK122.out; obtain ⟨hfz20_0, hfz20_1, hfz20_2⟩ := fq3 BK122.out; go_wp2
          go_ret; exact ⟨ez, bq⟩
         ·rw [if_neg c19] at H
          have c19b0 : (a0_2.toList == ([] : List UInt8)) = false := beq_eq_false_iff_ne.mpr c19; have c19b1 : (a0_2.toList != ([] : List UInt8)) = true := bne_iff_ne.mpr c19; refine oR H ?_; clear H; intro t124 A21 H; obtain rfl := Option.some.inj H; obtain ⟨hcz22_0, hcz22_1, hcz22_2⟩ := cq3 BK122.out; obtain ⟨hfz22_0, hfz22_1, hfz22_2⟩ := fq3 BK122.out; go_wp2_with (first | (go_at_call 56; (with_reducible refine (strings_IndexByte.calls a0_2 0 t124 _ A21.out).mono ?_); rintro e w' ⟨rfl, ⟨nd, rfl⟩⟩))
          go_ret; exact ⟨ez, bq⟩
        ·rw [if_neg c18] at H
         have c18b0 : (a0_1 == 4) = false := beq_eq_false_iff_ne.mpr c18; have c18b1 : (a0_1 != 4) = true := bne_iff_ne.mpr c18; obtain rfl := Option.some.inj H; go_wp2
         go_ret; exact ⟨ez, bq⟩

end Go.Proofs.YtkloomnkpfaijaaDoor.P
