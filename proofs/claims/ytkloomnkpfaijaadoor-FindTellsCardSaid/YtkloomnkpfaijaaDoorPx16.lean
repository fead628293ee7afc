/- Laid by a program of this session (wip/pr), after the printer of the kit: the functions that a statement reaches as plain Lean functions, and that the calls of the machine come to them. No condition. -/
import Derived.Test.YtkloomnkpfaijaaDoorPx0
import Derived.Test.YtkloomnkpfaijaaDoorPx11
import Derived.Test.YtkloomnkpfaijaaDoorPx15
namespace Go.Proofs.YtkloomnkpfaijaaDoor.P
open Go.RowKit Go.Proofs.YtkloomnkpfaijaaDoorX Go.Proofs.YtkloomnkpfaijaaDoorW.PrintWords Go.Proofs.YtkloomnkpfaijaaDoorW.PrintLast Go.Proofs.YtkloomnkpfaijaaDoorW.PrintMore
attribute [local go_sem] max2_int min2_int max_two min_two
set_option linter.unusedVariables false
set_option linter.unusedSimpArgs false

/-! ### hogsheadref3_List: function 21 -/
mutual
def hogsheadref3_List.j0 : Nat → List (S31) → ByteArray → Bool → Option (List ByteArray × Bool)
 | 0, _, _, _ => none
 | k + 1, x0, x1, x26 => if x26 = true then (some (([] : List ByteArray), false)) else (hogsheadref3_List.l0 k x0 x1 ([] : List ByteArray) 1)
def hogsheadref3_List.l0 : Nat → List (S31) → ByteArray → List ByteArray → Int → Option (List ByteArray × Bool)
 | 0, _, _, _, _ => none
 | k + 1, x0, x1, x8, x9 => if x9 < (x0.length : Int) then (if 0 ≤ x9 then ((hogsheadref1_Parent.f k ((rd_T31 x0 x9).f0)).bind fun bt260 => (if bt260.1.toList = x1.toList then ((hogsheadref1_Base.f k ((rd_T31 x0 x9).f0)).bind fun t263 => (hogsheadref3_List.l1 k x0 x1 x8 x9 t263 (x8.length : Int))) else (hogsheadref3_List.l0 k x0 x1 x8 (wrap64 (x9 + 1))))) else (none)) else (some (x8, true))
def hogsheadref3_List.l1 : Nat → List (S31) → ByteArray → List ByteArray → Int → ByteArray → Int → Option (List ByteArray × Bool)
 | 0, _, _, _, _, _, _ => none
 | k + 1, x0, x1, x8, x9, x12, x13 => if x13 > 0 then (if 0 ≤ (wrap64 (x13 - 1)) then (if (wrap64 (x13 - 1)) < (x8.length : Int) then (if (Op.bytesLess x12.toList ((rdOf ByteArray.empty x8 (wrap64 (x13 - 1))).toList)) = true then (hogsheadref3_List.l1 k x0 x1 x8 x9 x12 (wrap64 (x13 - 1))) else (if 0 ≤ x13 then (if x13 ≤ (x8.length : Int) then ((some (x8.take (x13 : Int).toNat : List ByteArray)).bind fun y265 => (if ([] : List ByteArray).length + y265.length < 8796093022208 then ((some (([] : List ByteArray) ++ y265 : List ByteArray)).bind fun y269 => ((some (([x12] : List ByteArray) : List ByteArray)).bind fun y272 => (if y269.length + y272.length < 8796093022208 then ((some (y269 ++ y272 : List ByteArray)).bind fun y275 => ((some (x8.drop (x13 : Int).toNat : List ByteArray)).bind fun y278 => (if y275.length + y278.length < 8796093022208 then (hogsheadref3_List.l0 k x0 x1 (y275 ++ y278) (wrap64 (x9 + 1))) else (none)))) else (none)))) else (none))) else (none)) else (none))) else (none)) else (none)) else (if 0 ≤ x13 then (if x13 ≤ (x8.length : Int) then ((some (x8.take (x13 : Int).toNat : List ByteArray)).bind fun y285 => (if ([] : List ByteArray).length + y285.length < 8796093022208 then ((some (([] : List ByteArray) ++ y285 : List ByteArray)).bind fun y289 => ((some (([x12] : List ByteArray) : List ByteArray)).bind fun y292 => (if y289.length + y292.length < 8796093022208 then ((some (y289 ++ y292 : List ByteArray)).bind fun y295 => ((some (x8.drop (x13 : Int).toNat : List ByteArray)).bind fun y298 => (if y295.length + y298.length < 8796093022208 then (hogsheadref3_List.l0 k x0 x1 (y295 ++ y298) (wrap64 (x9 + 1))) else (none)))) else (none)))) else (none))) else (none)) else (none))
end
def hogsheadref3_List.f (k : Nat) (l0 : List (S31)) (a1 : ByteArray) : Option (List ByteArray × Bool) := (hogsheadref3_Lookup.f k l0 a1).bind fun bt254 => (if bt254.2.2.2 = true then (hogsheadref3_List.j0 k l0 a1 (bt254.2.1 != 1)) else (hogsheadref3_List.j0 k l0 a1 true))
theorem hogsheadref3_List.mono_l : ∀ k, (∀ y0 y1 y2, LeO (hogsheadref3_List.j0 k y0 y1 y2) (hogsheadref3_List.j0 (k + 1) y0 y1 y2)) ∧ (∀ y0 y1 y2 y3, LeO (hogsheadref3_List.l0 k y0 y1 y2 y3) (hogsheadref3_List.l0 (k + 1) y0 y1 y2 y3)) ∧ (∀ y0 y1 y2 y3 y4 y5, LeO (hogsheadref3_List.l1 k y0 y1 y2 y3 y4 y5) (hogsheadref3_List.l1 (k + 1) y0 y1 y2 y3 y4 y5))
 | 0 => ⟨fun _ _ _ r h => by simp [hogsheadref3_List.j0] at h, fun _ _ _ _ r h => by simp [hogsheadref3_List.l0] at h, fun _ _ _ _ _ _ r h => by simp [hogsheadref3_List.l1] at h⟩
 | k + 1 => by
  obtain ⟨ih0, ih1, ih2⟩ := hogsheadref3_List.mono_l k; refine ⟨?_, ?_, ?_⟩
  ·intro y0 y1 y2
   unfold hogsheadref3_List.j0
   repeat' with_reducible first | exact ih0 _ _ _ | exact ih1 _ _ _ _ | exact ih2 _ _ _ _ _ _ | exact hogsheadref1_Base.mono _ _ | exact hogsheadref1_Parent.mono _ _ | exact hogsheadref3_Lookup.mono _ _ _ | exact LeO.refl _ | exact LeO.none _ | refine LeO.ite ?_ ?_ | refine LeO.bind ?_ (fun _ => ?_)
  ·intro y0 y1 y2 y3
   unfold hogsheadref3_List.l0
   repeat' with_reducible first | exact ih0 _ _ _ | exact ih1 _ _ _ _ | exact ih2 _ _ _ _ _ _ | exact hogsheadref1_Base.mono _ _ | exact hogsheadref1_Parent.mono _ _ | exact hogsheadref3_Lookup.mono _ _ _ | exact LeO.refl _ | exact LeO.none _ | refine LeO.ite ?_ ?_ | refine LeO.bind ?_ (fun _ => ?_)
  ·intro y0 y1 y2 y3 y4 y5
   unfold hogsheadref3_List.l1
   repeat' with_reducible first | exact ih0 _ _ _ | exact ih1 _ _ _ _ | exact ih2 _ _ _ _ _ _ | exact hogsheadref1_Base.mono _ _ | exact hogsheadref1_Parent.mono _ _ | exact hogsheadref3_Lookup.mono _ _ _ | exact LeO.refl _ | exact LeO.none _ | refine LeO.ite ?_ ?_ | refine LeO.bind ?_ (fun _ => ?_)
theorem hogsheadref3_List.mono : ∀ a0 a1 k, LeO (hogsheadref3_List.f k a0 a1) (hogsheadref3_List.f (k + 1) a0 a1) := by
 intro a0 a1 k; obtain ⟨ih0, ih1, ih2⟩ := hogsheadref3_List.mono_l k; unfold hogsheadref3_List.f
 repeat' with_reducible first | exact ih0 _ _ _ | exact ih1 _ _ _ _ | exact ih2 _ _ _ _ _ _ | exact hogsheadref1_Base.mono _ _ | exact hogsheadref1_Parent.mono _ _ | exact hogsheadref3_Lookup.mono _ _ _ | exact LeO.refl _ | exact LeO.none _ | refine LeO.ite ?_ ?_ | refine LeO.bind ?_ (fun _ => ?_)
def hogsheadref3_List.T14 : Bool × List (List Nat × List Nat) := (true, [([], []), ([], []), ([0, 1], [0, 1]), ([2], [2]), ([], []), ([4], [4]), ([3, 5, 3], [3, 5]), ([], []), ([], []), ([7, 8], [7, 8]), ([6, 9, 6], [6, 9]), ([10, 10, 0, 1, 2, 3, 4, 5, 6, 7, 8, 9, 10], [0, 7, 10])])
def hogsheadref3_List.B14 : List Nat := [0, 0, 3, 7, 0, 16, 63, 0, 0, 384, 1023, 2047]
theorem hogsheadref3_List.tab14 : rtab .any (opsOf Tryd.f21 14) = hogsheadref3_List.T14 := by kernel_rfl
theorem hogsheadref3_List.bits14 : waitsOk hogsheadref3_List.T14.2 hogsheadref3_List.B14 = true := by kernel_rfl
set_option maxHeartbeats 8000000 in
set_option maxRecDepth 100000 in
theorem hogsheadref3_List.calls (k : Nat) (A0 : Option Addr) (c0 : Nat) (l0 : List (S31)) (a1 : ByteArray) (r1 : List ByteArray) (r2 : Bool) (w : World) (hr0 : Kd.C k31 w A0 l0.length l0) (hc0 : l0.length ≤ c0) (h : hogsheadref3_List.f k l0 a1 = some (r1, r2)) :
  Calls Tryd.prog 21 #[.slice A0 l0.length c0, .string a1] w fun e w' => ∃ v0_ : Value, e = .returned (.tuple #[v0_, .bool r2]) ∧ Kd.R Kd.string 9 w' w.heap.size (fun _ => True) v0_ r1 ∧ Below w.heap.size w w' := by
 have hu31 := Tryd.underlying31; have HR0 := am hr0; have HC0 := am hc0; clear hr0 hc0; have HB := am (Below.refl w.heap.size w); have H : ((hogsheadref3_Lookup.f k l0 a1).bind fun bt254 => (if bt254.2.2.2 = true then (hogsheadref3_List.j0 k l0 a1 (bt254.2.1 != 1)) else (hogsheadref3_List.j0 k l0 a1 true))) = some (r1, r2) := h; clear h; replace H := oB H; obtain ⟨⟨t254, t255, t256, t257⟩, A30, H⟩ := H; replace H : (if t257 = true then (hogsheadref3_List.j0 k l0 a1 (t255 != 1)) else (hogsheadref3_List.j0 k l0 a1 true)) = some (r1, r2) := H; have A3 := am A30; clear A30; have HC4 := am H; clear H; go_enter Tryd.func21, Tryd.ntmps21; go_upto_region 2 with (first | ((with_reducible refine gate_callee (f := 20) rfl ?_); refine gL (some 17) Tryd.func20 #[.slice A0 l0.length c0, .string a1] ?_; (with_reducible refine (hogsheadref3_Lookup.calls k _ _ l0 a1 t254 t255 t256 t257 _ ?side1 ?side2 A3.out).mono ?_); (case side1 => exact cz HR0.out); (case side2 => exact HC0.out); rintro e w5 ⟨rfl, hb⟩; refine ⟨_, rfl, ?_⟩; replace HB := bs hb) | ((with_reducible refine gate_dst (N := 6) rfl ?_); refine bx 6 #[.string (⟨#[]⟩ : ByteArray), .int .i64 0, .string (⟨#[]⟩ : ByteArray)] 31 ?_; intro gb258 hg w6 hbox hb; have BK258 := am (hbox); have GW258 := gz hg; have GE258 := gz hg; replace HB := bs hb; clear hb hbox hg; obtain ⟨hcz7_0, hcz7_1, hcz7_2⟩ := cq3 BK258.out; obtain ⟨hfz7_0, hfz7_1, hfz7_2⟩ := fq3 BK258.out))
 (try simp only [Act.put, sA, sB, sC])
 go_cut [26] (fun v26 wc => ∃ (kq : Nat) (x26_3 : Bool), v26 = .bool x26_3 ∧ Aside0 (hogsheadref3_List.j0 kq l0 a1 x26_3 = some (r1, r2)) ∧ Aside0 (kq ≤ k) ∧ Aside0 (wc.heap[gb258]? = some (.cells #[.string t254, .int .i64 t255, .string t256] 31 (0, 0))) ∧ Aside0 (Below w.heap.size w wc))
 case first =>
  have H := HC4.out; clear HC4; by_cases c8 : t257 = true
  ·subst c8
   have H1 : (hogsheadref3_List.j0 k l0 a1 (t255 != 1)) = some (r1, r2) := by rw [if_pos rfl] at H; exact H
   clear H; have H := H1; clear H1; have H' := am H; clear H; obtain ⟨hcz9_0, hcz9_1, hcz9_2⟩ := cq3 BK258.out; obtain ⟨hfz9_0, hfz9_1, hfz9_2⟩ := fq3 BK258.out; go_wp2
   go_meet; case rel => exact ⟨_, ((t255 != 1)), (by first | rfl | (simp; done) | (simp [*]; done)), H', ⟨by first | omega | exact Nat.le_refl _⟩, ⟨by (with_reducible repeat (first | refine kN ?_ _ | refine kD ?_ | refine kA ?_ _)); refine blk_put (cs := #[.string t254, .int .i64 t255, .string (⟨#[]⟩ : ByteArray)]) ?_ 2 _ rfl; (with_reducible repeat (first | refine kN ?_ _ | refine kD ?_ | refine kA ?_ _)); refine blk_put (cs := #[.string t254, .int .i64 0, .string (⟨#[]⟩ : ByteArray)]) ?_ 1 _ rfl; (with_reducible repeat (first | refine kN ?_ _ | refine kD ?_ | refine kA ?_ _)); refine blk_put (cs := #[.string (⟨#[]⟩ : ByteArray), .int .i64 0, .string (⟨#[]⟩ : ByteArray)]) ?_ 0 _ rfl; (with_reducible repeat (first | refine kN ?_ _ | refine kD ?_ | refine kA ?_ _)); exact BK258.out⟩, ⟨bq⟩⟩
  ·replace c8 := Bool.eq_false_iff.mpr c8
   subst c8; have H1 : (hogsheadref3_List.j0 k l0 a1 true) = some (r1, r2) := by rw [if_neg (show ¬ (false = true) by decide)] at H; exact H
   clear H; have H := H1; clear H1; have H' := am H; clear H; go_wp2
   go_meet; case rel => exact ⟨_, (true), (by first | rfl | (simp; done) | (simp [*]; done)), H', ⟨by first | omega | exact Nat.le_refl _⟩, ⟨by (with_reducible repeat (first | refine kN ?_ _ | refine kD ?_ | refine kA ?_ _)); refine blk_put (cs := #[.string t254, .int .i64 t255, .string (⟨#[]⟩ : ByteArray)]) ?_ 2 _ rfl; (with_reducible repeat (first | refine kN ?_ _ | refine kD ?_ | refine kA ?_ _)); refine blk_put (cs := #[.string t254, .int .i64 0, .string (⟨#[]⟩ : ByteArray)]) ?_ 1 _ rfl; (with_reducible repeat (first | refine kN ?_ _ | refine kD ?_ | refine kA ?_ _)); refine blk_put (cs := #[.string (⟨#[]⟩ : ByteArray), .int .i64 0, .string (⟨#[]⟩ : ByteArray)]) ?_ 0 _ rfl; (with_reducible repeat (first | refine kN ?_ _ | refine kD ?_ | refine kA ?_ _)); exact BK258.out⟩, ⟨bq⟩⟩
 case rest =>
  clear HC4; (try clear c2); (try clear p2); (try clear c8); (try clear hcz7_0); (try clear hcz7_1); (try clear hcz7_2); (try clear hcz9_0); (try clear hcz9_1); (try clear hcz9_2); (try clear hfz7_0); (try clear hfz7_1); (try clear hfz7_2); (try clear hfz9_0); (try clear hfz9_1); (try clear hfz9_2); obtain ⟨kq, x26_3, rfl, HA, HJ3, BK258, HB⟩ := hcut; cases kq with
  | zero => exact absurd HA.out (by simp [hogsheadref3_List.j0])
  | succ kj3 =>
   have H := HA.out; clear HA; simp only [hogsheadref3_List.j0] at H
   by_cases c10 : x26_3 = true
   ·subst c10
    have H1 : (some (([] : List ByteArray), false)) = some (r1, r2) := by rw [if_pos rfl] at H; exact H
    clear H; have H := H1; clear H1; simp only [Option.some.injEq, Prod.mk.injEq] at H
    obtain ⟨rfl, rfl⟩ := H; go_wp2
    go_ret2; exact ⟨_, by first | rfl | (simp [eN, eS] <;> rfl) | (simp [*, eN, eS] <;> rfl), by first | exact Kd.R_nil _ _ _ _ _ | exact Kd.N_nil _ _ _ _ _ | exact Kd.V_nil _ _ _ _ _ | exact Kd.Q_nil _ _ _ _ _ | exact Kd.S_nil _ _ _ _ _, bq⟩
   ·replace c10 := Bool.eq_false_iff.mpr c10
    subst c10; have H1 : (hogsheadref3_List.l0 kj3 l0 a1 ([] : List ByteArray) 1) = some (r1, r2) := by rw [if_neg (show ¬ (false = true) by decide)] at H; exact H
    clear H; have H := H1; clear H1; have H' := am H; clear H; go_wp2
    go_loopg [8, 9] kj3 (fun kq v8 v9 w' => ∃ (x8_2 : List ByteArray) (x9_2 : Int), v9 = .int .i64 x9_2 ∧ Aside0 (hogsheadref3_List.l0 kq l0 a1 x8_2 x9_2 = some (r1, r2)) ∧ Aside0 (kq ≤ kj3) ∧ Aside0 (Kd.R Kd.string 9 w' w.heap.size (fun _ => True) v8 x8_2) ∧ Aside0 (w'.heap[gb258]? = some (.cells #[.string t254, .int .i64 t255, .string t256] 31 (0, 0))) ∧ Aside0 (Below w.heap.size w w'))
    case atStart => exact ⟨(([] : List ByteArray)), (1), (by first | rfl | (simp; done) | (simp [*]; done)), H', ⟨Nat.le_refl _⟩, ⟨by first | exact Kd.R_nil _ _ _ _ _ | exact Kd.N_nil _ _ _ _ _ | exact Kd.V_nil _ _ _ _ _ | exact Kd.Q_nil _ _ _ _ _ | exact Kd.S_nil _ _ _ _ _⟩, ⟨bk BK258.out⟩, ⟨bq⟩⟩
    case round =>
     clear H'; (try clear c1); (try clear c2); (try clear p2); (try clear c8); (try clear c10); (try clear hcz7_0); (try clear hcz7_1); (try clear hcz7_2); (try clear hcz9_0); (try clear hcz9_1); (try clear hcz9_2); (try clear hfz7_0); (try clear hfz7_1); (try clear hfz7_2); (try clear hfz9_0); (try clear hfz9_1); (try clear hfz9_2); (try clear p2); obtain ⟨x8_2, x9_2, rfl, HA, HK2, HO_8, BK258, HB⟩ := hrel; cases gk with
     | zero => exact absurd HA.out (by simp [hogsheadref3_List.l0])
     | succ k2 =>
      have H := HA.out; clear HA; simp only [hogsheadref3_List.l0] at H
      by_cases c11 : x9_2 < (l0.length : Int)
      ·rw [if_pos c11] at H
       have c11b0 : decide (x9_2 < (l0.length : Int)) = true := decide_eq_true c11; clear c11; by_cases c12 : 0 ≤ x9_2
       ·rw [if_pos c12] at H
        have c12b0 : decide (0 ≤ x9_2) = true := decide_eq_true c12; clear c12; replace H := oB H; obtain ⟨⟨t260, t261⟩, A130, H⟩ := H; replace H : (if t260.toList = a1.toList then ((hogsheadref1_Base.f k2 ((rd_T31 l0 x9_2).f0)).bind fun t263 => (hogsheadref3_List.l1 k2 l0 a1 x8_2 x9_2 t263 (x8_2.length : Int))) else (hogsheadref3_List.l0 k2 l0 a1 x8_2 (wrap64 (x9_2 + 1)))) = some (r1, r2) := H; have A13 := am A130; clear A130; by_cases c14 : t260.toList = a1.toList
        ·rw [if_pos c14] at H
         have c14b0 : (t260.toList == a1.toList) = true := beq_iff_eq.mpr c14; have c14b1 : (t260.toList != a1.toList) = false := bne_eq_false_iff_eq.mpr c14; clear c14; refine oR H ?_; clear H; intro t263 A15 H; have H' := am H; clear H; have p259 : 0 ≤ (x9_2 : Int) := of_decide_eq_true (by assumption); have q259 : x9_2 < (l0.length : Int) := of_decide_eq_true (by assumption); obtain ⟨ad259, e259, hx259_0, hx259_1, hx259_2⟩ := at_T31 HR0.out x9_2 p259 q259; cases e259; replace hx259_0 := (HB.out.cell (wB w _ hx259_0)).trans hx259_0; replace hx259_1 := (HB.out.cell (wB w _ hx259_1)).trans hx259_1; replace hx259_2 := (HB.out.cell (wB w _ hx259_2)).trans hx259_2; replace p259 := eq_true p259; replace q259 := eq_true q259; go_wp2_with (first | ((with_reducible refine gate_callee (f := 43) rfl ?_); refine gL (some 39) Tryd.func43 #[.string ((rd_T31 l0 x9_2).f0)] ?_; (with_reducible refine (hogsheadref1_Parent.calls k2 ((rd_T31 l0 x9_2).f0) t260 t261 _ A13.out).mono ?_); rintro e w16 ⟨rfl, hb⟩; refine ⟨_, rfl, ?_⟩; replace HO_8 := am (Kd.R_below (rz HO_8.out) hb); replace BK258 := am (blk_below (g := gb258) (o := .cells #[.string t254, .int .i64 t255, .string t256] 31 (0, 0)) (bk BK258.out) hb); replace HB := bw hb; have p262 : 0 ≤ (x9_2 : Int) := of_decide_eq_true (by assumption); have q262 : x9_2 < (l0.length : Int) := of_decide_eq_true (by assumption); obtain ⟨ad262, e262, hx262_0, hx262_1, hx262_2⟩ := at_T31 HR0.out x9_2 p262 q262; obtain rfl : ad259 = ad262 := (by injection e262); replace hx262_0 := (HB.out.cell (wB w _ hx262_0)).trans hx262_0; replace hx262_1 := (HB.out.cell (wB w _ hx262_1)).trans hx262_1; replace hx262_2 := (HB.out.cell (wB w _ hx262_2)).trans hx262_2; replace p262 := eq_true p262; replace q262 := eq_true q262) | ((with_reducible refine gate_callee (f := 44) rfl ?_); refine gL (some 50) Tryd.func44 #[.string ((rd_T31 l0 x9_2).f0)] ?_; (with_reducible refine (hogsheadref1_Base.calls k2 ((rd_T31 l0 x9_2).f0) t263 _ A15.out).mono ?_); rintro e w17 ⟨rfl, hb⟩; refine ⟨_, rfl, ?_⟩; replace HO_8 := am (Kd.R_below (rz HO_8.out) hb); replace BK258 := am (blk_below (g := gb258) (o := .cells #[.string t254, .int .i64 t255, .string t256] 31 (0, 0)) (bk BK258.out) hb); replace HB := bw hb; obtain ⟨Ao18, co18, eo18⟩ := Kd.R_slice HO_8.out; subst eo18))
         go_loopg [13] k2 (fun kq v13 w' => ∃ (x13_3 : Int), v13 = .int .i64 x13_3 ∧ Aside0 (hogsheadref3_List.l1 kq l0 a1 x8_2 x9_2 t263 x13_3 = some (r1, r2)) ∧ Aside0 (kq ≤ k2) ∧ Aside0 (Kd.R Kd.string 9 w' w.heap.size (fun _ => True) (.slice Ao18 x8_2.length co18) x8_2) ∧ Aside0 (w'.heap[gb258]? = some (.cells #[.string t254, .int .i64 t255, .string t256] 31 (0, 0))) ∧ Aside0 (Below w.heap.size w w'))
         case atStart => exact ⟨((x8_2.length : Int)), (by first | rfl | (simp; done) | (simp [*]; done)), H', ⟨Nat.le_refl _⟩, ⟨rz HO_8.out⟩, ⟨bk BK258.out⟩, ⟨bq⟩⟩
         case round =>
          clear H'; (try clear c1); (try clear c2); (try clear p2); (try clear q2); (try clear hx2); (try clear c4); (try clear p6); (try clear c8); (try clear c10); (try clear c11); (try clear c11b0); (try clear c12); (try clear c12b0); (try clear c14); (try clear c14b0); (try clear c14b1); (try clear hcz7_0); (try clear hcz7_1); (try clear hcz7_2); (try clear hcz9_0); (try clear hcz9_1); (try clear hcz9_2); (try clear hfz7_0); (try clear hfz7_1); (try clear hfz7_2); (try clear hfz9_0); (try clear hfz9_1); (try clear hfz9_2); (try clear hx259_0); (try clear hx259_1); (try clear hx259_2); (try clear hx262_0); (try clear hx262_1); (try clear hx262_2); (try clear p2); (try clear p259); (try clear p262); (try clear q259); (try clear q262); obtain ⟨x13_3, rfl, HA, HK3, HO_8, BK258, HB⟩ := hrel; cases gk with
          | zero => exact absurd HA.out (by simp [hogsheadref3_List.l1])
          | succ k3 =>
           have H := HA.out; clear HA; simp only [hogsheadref3_List.l1] at H
           by_cases c19 : x13_3 > 0
           ·rw [if_pos c19] at H
            have c19b0 : decide (0 < x13_3) = true := decide_eq_true c19; clear c19; obtain ⟨ji20, hji20⟩ : ∃ j_ : Int, (wrap64 (x13_3 - 1)) = j_ := ⟨_, rfl⟩; replace H : (if 0 ≤ (ji20) then (if (ji20) < (x8_2.length : Int) then (if (Op.bytesLess t263.toList ((rdOf ByteArray.empty x8_2 (ji20)).toList)) = true then (hogsheadref3_List.l1 k3 l0 a1 x8_2 x9_2 t263 ji20) else (if 0 ≤ x13_3 then (if x13_3 ≤ (x8_2.length : Int) then ((some (x8_2.take (x13_3 : Int).toNat : List ByteArray)).bind fun y265 => (if ([] : List ByteArray).length + y265.length < 8796093022208 then ((some (([] : List ByteArray) ++ y265 : List ByteArray)).bind fun y269 => ((some (([t263] : List ByteArray) : List ByteArray)).bind fun y272 => (if y269.length + y272.length < 8796093022208 then ((some (y269 ++ y272 : List ByteArray)).bind fun y275 => ((some (x8_2.drop (x13_3 : Int).toNat : List ByteArray)).bind fun y278 => (if y275.length + y278.length < 8796093022208 then (hogsheadref3_List.l0 k3 l0 a1 (y275 ++ y278) (wrap64 (x9_2 + 1))) else (none)))) else (none)))) else (none))) else (none)) else (none))) else (none)) else (none)) = some (r1, r2) := by first | (rw [hji20] at H; exact H) | (simp only [hji20] at H ⊢; exact H)
            have hji20w : (IntKind.i64.wrap (x13_3 - 1)) = ji20 := (i64_w _).trans hji20; by_cases c21 : 0 ≤ (ji20)
            ·rw [if_pos c21] at H
             have c21b0 : decide (0 ≤ (ji20)) = true := decide_eq_true c21; clear c21; by_cases c22 : (ji20) < (x8_2.length : Int)
             ·rw [if_pos c22] at H
              have c22b0 : decide ((ji20) < (x8_2.length : Int)) = true := decide_eq_true c22; clear c22; by_cases c23 : (Op.bytesLess t263.toList ((rdOf ByteArray.empty x8_2 (ji20)).toList)) = true
              ·rw [if_pos c23] at H
               have c23b0 : (Op.bytesLess t263.toList ((rdOf ByteArray.empty x8_2 (ji20)).toList)) = true := c23; clear c23; have H' := am H; clear H; have p264 : 0 ≤ ((ji20) : Int) := of_decide_eq_true (by assumption); have q264 : (ji20) < (x8_2.length : Int) := of_decide_eq_true (by assumption); obtain ⟨ad264, e264, hx264_0⟩ := Kd.at_string (Kd.R_reads' HO_8.out).2.2 (ji20) p264 q264; cases e264; replace p264 := eq_true p264; replace q264 := eq_true q264; go_wp2
               go_roundg k3
               case measure => have := HJ3.out; have := HK2.out; have := HK3.out; omega
               case rel => exact ⟨(ji20), (by first | rfl | (simp; done) | (simp only [← hji20] <;> (first | rfl | simp)) | (simp [*]; done)), H', ⟨by have := HJ3.out; have := HK2.out; have := HK3.out; omega⟩, ⟨rz HO_8.out⟩, ⟨bk BK258.out⟩, ⟨bq⟩⟩
              ·rw [if_neg c23] at H
               have c23b0 : (Op.bytesLess t263.toList ((rdOf ByteArray.empty x8_2 (ji20)).toList)) = false := by simpa using c23
               clear c23; by_cases c24 : 0 ≤ x13_3
               ·rw [if_pos c24] at H
                have c24b0 := eq_true c24; have c24b1 : decide (0 ≤ x13_3) = true := decide_eq_true c24; clear c24; by_cases c25 : x13_3 ≤ (x8_2.length : Int)
                ·rw [if_pos c25] at H
                 have c25b0 := eq_true c25; have c25b1 : decide (x13_3 ≤ (x8_2.length : Int)) = true := decide_eq_true c25; clear c25; refine bL H ?_; clear H; intro y265 hy265 H
                 have Ny265 := am hy265; clear hy265; by_cases c26 : ([] : List ByteArray).length + y265.length < 8796093022208
                 ·rw [if_pos c26] at H
                  have LMc26 := am c26; clear c26; refine bL H ?_; clear H; intro y269 hy269 H
                  have Ny269 := am hy269; clear hy269; refine bL H ?_; clear H; intro y272 hy272 H
                  have Ny272 := am hy272; clear hy272; by_cases c27 : y269.length + y272.length < 8796093022208
                  ·rw [if_pos c27] at H
                   have LMc27 := am c27; clear c27; refine bL H ?_; clear H; intro y275 hy275 H
                   have Ny275 := am hy275; clear hy275; have c28b0 := eq_true (of_decide_eq_true (by assumption) : 0 ≤ x13_3); have c29b0 := eq_true (of_decide_eq_true (by assumption) : x13_3 ≤ (x8_2.length : Int)); refine bL H ?_; clear H; intro y278 hy278 H
                   have Ny278 := am hy278; clear hy278; by_cases c30 : y275.length + y278.length < 8796093022208
                   ·rw [if_pos c30] at H
                    have LMc30 := am c30; clear c30; obtain ⟨y282, hy282⟩ : ∃ y_ : List ByteArray, y_ = (y275 ++ y278) := ⟨_, rfl⟩; try rw [← hy282] at H
                    have Ny282 := am hy282; clear hy282; have H' := am H; clear H; have p264 : 0 ≤ ((ji20) : Int) := of_decide_eq_true (by assumption); have q264 : (ji20) < (x8_2.length : Int) := of_decide_eq_true (by assumption); obtain ⟨ad264, e264, hx264_0⟩ := Kd.at_string (Kd.R_reads' HO_8.out).2.2 (ji20) p264 q264; cases e264; replace p264 := eq_true p264; replace q264 := eq_true q264; try go_wp2
                    replace HO_8 := am (rD HO_8.out); replace BK258 := am (kD BK258.out); replace HB := am (bO HB.out); have q32 : (x13_3 : Int) ≤ ((x8_2.length : Int) : Int) := of_decide_eq_true (by assumption); obtain ⟨i032, hi032, _, hsz32, _⟩ := info_parts info9; have hroom32 : x8_2.length ≤ co18 := (Kd.R_reads' HO_8.out).2.1; have hC32 : Kd.C Kd.string _ (some ad264) x8_2.length x8_2 := (Kd.R_reads' HO_8.out).2.2; have hcut32 := cut_to (P := Tryd.prog) 27 9 .i64 Tryd.underlying27 hi032 (some ad264) x8_2.length co18 x13_3 (of_decide_eq_true (by assumption)) q32 hroom32; have hr32 := Kd.C_take (m := (x13_3 : Int).toNat) hC32 (by omega); have hy32 : y265.length = (x13_3 : Int).toNat := (by rw [Ny265.out, lT]; omega); rw [← Ny265.out] at hr32; rw [← hy32] at hcut32; have HR268 := am hr32; have HC268 := am (show y265.length ≤ co18 from by omega); clear hr32 hC32 hroom32 hi032 hsz32; have KY32 := am hy32; clear hy32; have KL32 := am (show (x13_3 : Int).toNat ≤ x8_2.length from by omega); replace q32 := eq_true q32; have q33 : (x13_3 : Int) ≤ ((x8_2.length : Int) : Int) := of_decide_eq_true (by assumption); obtain ⟨i033, hi033, _, hsz33, _⟩ := info_parts info9; have hroom33 : x8_2.length ≤ co18 := (Kd.R_reads' HO_8.out).2.1
                    have hC33 : Kd.C Kd.string _ (some ad264) x8_2.length x8_2 := (Kd.R_reads' HO_8.out).2.2; have q033 : (0 : Int) ≤ (x13_3 : Int) := of_decide_eq_true (by assumption); have hcut33 := cut_from (P := Tryd.prog) 27 9 .i64 Tryd.underlying27 hi033 1 hsz33 (some ad264) x8_2.length co18 x13_3 q033 q33; have hr33 := Kd.C_drop (m := (x13_3 : Int).toNat) (c := co18) hC33 (by omega) hroom33; obtain ⟨A33, hA33⟩ : ∃ A1, A1 = (if co18 = (x13_3 : Int).toNat then (some ad264) else ((some ad264) : Option Addr).map (·.add ((x13_3 : Int).toNat * 1))) := ⟨_, rfl⟩; obtain ⟨c33, hc33⟩ : ∃ c1, c1 = co18 - (x13_3 : Int).toNat := ⟨_, rfl⟩; have hy33 : y278.length = x8_2.length - (x13_3 : Int).toNat := (by rw [Ny278.out, lD] <;> omega); rw [show (x8_2).drop (x13_3 : Int).toNat = y278 from Ny278.out.symm] at hr33; replace hr33 : Kd.C Kd.string _ A33 y278.length y278 := (by rw [hA33]; exact hr33); rw [← hy33, ← hA33, ← hc33] at hcut33; have HR281 := am hr33; have HC281 := am (show y278.length ≤ c33 from by rw [hy33, hc33]; exact Nat.sub_le_sub_right hroom33 _); clear hr33 hC33 hroom33 hi033 hsz33 hc33; have KY33 := am hy33; have KA33 := am hA33; clear hy33 hA33; have KL33 := am (show (x13_3 : Int).toNat ≤ x8_2.length from by omega); replace q33 := eq_true q33; refine start_ (n := 12) (S := fun w' => True) (ds := []) #[fF,fF,fF,fF,fF,fF,fF,fF,fF,fF,fF,fF] (by kernel_rfl) rfl rfl trivial (fun hHeld => ?_); refine with_tabW hogsheadref3_List.tab14 hogsheadref3_List.bits14 (fun HT_ HW_ => ?_)
                    generalize wr.drew = w31 at HO_8 BK258 HB HR268 HR281 hHeld ⊢
                    refine pu 0 (some 66) ?_
                    refine pu 1 (some 67) ?_
                    refine pu 2 (some 68) ?_
                    refine pu 4 (some 70) ?_
                    refine pu 7 (some 73) ?_
                    refine pu 8 (some 74) ?_
                    refine pu 9 (some 75) ?_
                    refine join_ (σ := Value × Value) 3 #[tT,tT,tT,tT,tT,tT,fF,tT,tT,tT,fF,fF] (fun s_ => [(69, s_.1), (71, s_.2)]) (fun s_ w' => (Kd.R Kd.string 9 w' w.heap.size (fun k_ => some k_ ≠ (s_.2 : Value).ownBlock ∧ some k_ ≠ (.slice (some ad264) x8_2.length co18 : Value).ownBlock) s_.1 y269) ∧ (Kd.R Kd.string 9 w' w.heap.size (fun k_ => some k_ ≠ (s_.1 : Value).ownBlock ∧ some k_ ≠ (.slice (some ad264) x8_2.length co18 : Value).ownBlock) s_.2 y272) ∧ (Kd.R Kd.string 9 w' w.heap.size (fun k_ => some k_ ≠ (s_.1 : Value).ownBlock ∧ some k_ ≠ (s_.2 : Value).ownBlock) (.slice (some ad264) x8_2.length co18) x8_2) ∧ (w'.heap[gb258]? = some (.cells #[.string t254, .int .i64 t255, .string t256] 31 (0, 0))) ∧ (Below w.heap.size w w')) ?_ ?_
                    rotate_left
                    ·intro hCont
                     refine two_ (i := 3) (j := 5) (Ni := some 69) (Nj := some 71) #[tT,tT,tT,tT,tT,fF,fF,tT,tT,tT,fF,fF] #[tT,tT,tT,fF,tT,tT,fF,tT,tT,tT,fF,fF] rfl rfl rfl rfl (two_of HT_.out (by kernel_rfl)) (by decide) (by decide) (fun K hK => ?_) (fun K hK => ?_)
                     ·skip
                      refine Kd.R_append_rows_step Kd.string (w0 := w) w.heap.size (by rfl) (.const (.slice none 0 0)) (.tmp 68) 27 9 (.string ⟨#[]⟩) 16 rfl Tryd.underlying27 info9 rfl (by decide) (by omega) (.slice none 0 0) ([] : List ByteArray) y265 _ _ _ (fun k_ => some k_ ≠ (.slice (some ad264) x8_2.length co18 : Value).ownBlock) (fun _ => False) rfl rfl ?aO ?aR (fun _ _ h => h) (fun _ h => h.elim) ?aF ?aB ?aS ?aL ?_
                      (case aR => repeat (first | exact (by repeat (first | (with_reducible exact HR268.out) | (with_reducible refine cA ?_ _) | (with_reducible refine cN ?_ _) | (with_reducible refine cD ?_) | exact HR268.out)) | (with_reducible refine cA ?_ _) | (with_reducible refine cN ?_ _) | (with_reducible refine cD ?_)))
                      (case aB => exact bq)
                      (case aF => exact (fun k_ hk => Kd.fresh' (Kd.R_lt (rz HO_8.out)) k_ hk))
                      (case aO => exact ((Kd.R_nil _ _ _ _ (fun k_ => some k_ ≠ (.slice (some ad264) x8_2.length co18 : Value).ownBlock))))
                      (case aS => exact siq)
                      (case aL => have := LMc26.out; omega)
                      intro v270 w34 ho hb hg hat; rw [← Ny269.out] at ho; have n0_ := am (Kd.R_after (Kd.R_apart_nil (rz HO_8.out)) hg hat); have n1_ := am (blk_grown (g := gb258) (o := .cells #[.string t254, .int .i64 t255, .string t256] 31 (0, 0)) (bk BK258.out) hg (by simp [Value.ownBlock])); have n2_ := am (hb); have n3_ := am ((show Kd.C Kd.string w34 (some ad264) y265.length y265 from by rw [Ny265.out]; exact Kd.C_take (m := (x13_3 : Int).toNat) ((Kd.R_reads' (Kd.R_after (Kd.R_apart_nil (rz HO_8.out)) hg hat)).2.2) KL32.out)); have n4_ := am ((show Kd.C Kd.string w34 A33 y278.length y278 from by rw [Ny278.out, KA33.out]; exact Kd.C_drop (m := (x13_3 : Int).toNat) (c := co18) ((Kd.R_reads' (Kd.R_after (Kd.R_apart_nil (rz HO_8.out)) hg hat)).2.2) KL33.out ((Kd.R_reads' (Kd.R_after (Kd.R_apart_nil (rz HO_8.out)) hg hat)).2.1))); have n5_ := am (ho); clear HO_8; clear BK258; clear HB; clear HR268; clear HR281; have HO_8 := n0_; have BK258 := n1_; have HB := n2_
                      have HR268 := n3_; have HR281 := n4_; have HO271 := n5_; clear n0_ n1_ n2_ n3_ n4_ n5_; clear ho hb hg hat; refine hK.out _ _ trivial (fun hHeld => ?_)
                      clear hK K; refine norm_ (a' := ?_) ?_ ?_
                      rotate_left
                      ·show Act.put _ (some 69) _ = _
                       simp only [Act.put, sA, sB, sC, i64_w, i32_w]
                       rfl
                      refine one_ (i := 5) (N := some 71) #[tT,tT,tT,tT,tT,tT,fF,tT,tT,tT,fF,fF] rfl rfl (one_of HT_.out (by kernel_rfl)) (by decide) (fun K hK => ?_)
                      refine Kd.R_lit_step Kd.string _ 9 ?hg (N := 71) ?hd (xs := ([t263] : List ByteArray)) (inner := [.string t263]) (ok := fun _ => True) (okp := fun _ => True) ?hr ?hp (fun _ hk => hk) trivial (Below.refl _ _) (Nat.le_refl _) (by simp) ?_; (case hd => rfl); (case hg => rfl); (case hr => first | (go_simp; done) | (go_simp; rfl)); (case hp => exact (Reps.one (show Kd.M Kd.string _ _ _ t263 [.string t263] from rfl) (Reps.none _ _)))
                      intro v273 w35 ho36 hb hg_ hnew_; clear hg_ hnew_; (first | rw [← Ny272.out] at ho36 | (simp only [Int.reduceToNat] at ho36; rw [← Ny272.out] at ho36))
                      have n0_ := am (Kd.R_elder' (rz HO_8.out) (Kd.R_base ho36) hb); have n1_ := am (Kd.R_elder' (rz HO271.out) (Kd.R_base ho36) hb); have n2_ := am (Kd.R_lower (Kd.R_new' (Kd.R_new' ho36 (Kd.R_lt (rz HO_8.out))) (Kd.R_lt (rz HO271.out))) siq); have n3_ := am (blk_below (g := gb258) (o := .cells #[.string t254, .int .i64 t255, .string t256] 31 (0, 0)) (bk BK258.out) hb); have n4_ := am (Kd.C_below (by repeat (first | (with_reducible exact HR268.out) | (with_reducible refine cA ?_ _) | (with_reducible refine cN ?_ _) | (with_reducible refine cD ?_) | exact HR268.out)) hb); have n5_ := am (Kd.C_below (by repeat (first | (with_reducible exact HR281.out) | (with_reducible refine cA ?_ _) | (with_reducible refine cN ?_ _) | (with_reducible refine cD ?_) | exact HR281.out)) hb)
                      have n6_ := bw hb; clear HO_8; clear HO271; clear BK258; clear HR268; clear HR281; clear HB; have HO_8 := n0_; have HO271 := n1_; have HO274 := n2_; have BK258 := n3_; have HR268 := n4_; have HR281 := n5_; have HB := n6_; clear n0_ n1_ n2_ n3_ n4_ n5_ n6_; clear hb ho36; refine hK.out _ _ trivial (fun hHeld => ?_)
                      clear hK K; refine norm_ (a' := ?_) ?_ ?_
                      rotate_left
                      ·show Act.put _ (some 71) _ = _
                       simp only [Act.put, sA, sB, sC, i64_w, i32_w]
                       rfl
                      exact norm_ (by simp only [putAll, Act.put, sA, sB, sC]) (hCont (v270, v273) _ ⟨(rz (Kd.R_mono HO271.out (fun _ hk => ⟨hk.2, hk.1⟩))), (rz (Kd.R_mono HO274.out (fun _ hk => ⟨hk.2, hk.1.2⟩))), (rz (Kd.R_mono HO_8.out (fun _ hk => ⟨hk.1.2, hk.2⟩))), (bk BK258.out), bq⟩)
                     ·skip
                      refine Kd.R_lit_step Kd.string _ 9 ?hg (N := 71) ?hd (xs := ([t263] : List ByteArray)) (inner := [.string t263]) (ok := fun _ => True) (okp := fun _ => True) ?hr ?hp (fun _ hk => hk) trivial (Below.refl _ _) (Nat.le_refl _) (by simp) ?_; (case hd => rfl); (case hg => rfl); (case hr => first | (go_simp; done) | (go_simp; rfl)); (case hp => exact (Reps.one (show Kd.M Kd.string _ _ _ t263 [.string t263] from rfl) (Reps.none _ _)))
                      intro v273 w34 ho35 hb hg_ hnew_; clear hg_ hnew_; (first | rw [← Ny272.out] at ho35 | (simp only [Int.reduceToNat] at ho35; rw [← Ny272.out] at ho35))
                      have n0_ := am (Kd.R_elder' (rz HO_8.out) (Kd.R_base ho35) hb); have n1_ := am (Kd.R_lower (Kd.R_new' ho35 (Kd.R_lt (rz HO_8.out))) siq); have n2_ := am (blk_below (g := gb258) (o := .cells #[.string t254, .int .i64 t255, .string t256] 31 (0, 0)) (bk BK258.out) hb); have n3_ := am (Kd.C_below (by repeat (first | (with_reducible exact HR268.out) | (with_reducible refine cA ?_ _) | (with_reducible refine cN ?_ _) | (with_reducible refine cD ?_) | exact HR268.out)) hb); have n4_ := am (Kd.C_below (by repeat (first | (with_reducible exact HR281.out) | (with_reducible refine cA ?_ _) | (with_reducible refine cN ?_ _) | (with_reducible refine cD ?_) | exact HR281.out)) hb); have n5_ := bw hb; clear HO_8; clear BK258; clear HR268
                      clear HR281; clear HB; have HO_8 := n0_; have HO274 := n1_; have BK258 := n2_; have HR268 := n3_; have HR281 := n4_; have HB := n5_; clear n0_ n1_ n2_ n3_ n4_ n5_; clear hb ho35; refine hK.out _ _ trivial (fun hHeld => ?_)
                      clear hK K; refine norm_ (a' := ?_) ?_ ?_
                      rotate_left
                      ·show Act.put _ (some 71) _ = _
                       simp only [Act.put, sA, sB, sC, i64_w, i32_w]
                       rfl
                      refine one_ (i := 3) (N := some 69) #[tT,tT,tT,tT,tT,tT,fF,tT,tT,tT,fF,fF] rfl rfl (one_of HT_.out (by kernel_rfl)) (by decide) (fun K hK => ?_)
                      refine Kd.R_append_rows_step Kd.string (w0 := w) w.heap.size (by rfl) (.const (.slice none 0 0)) (.tmp 68) 27 9 (.string ⟨#[]⟩) 16 rfl Tryd.underlying27 info9 rfl (by decide) (by omega) (.slice none 0 0) ([] : List ByteArray) y265 _ _ _ (fun k_ => some k_ ≠ (.slice (some ad264) x8_2.length co18 : Value).ownBlock ∧ some k_ ≠ (v273 : Value).ownBlock) (fun _ => False) rfl rfl ?aO ?aR (fun _ _ h => h) (fun _ h => h.elim) ?aF ?aB ?aS ?aL ?_
                      (case aR => repeat (first | exact (by repeat (first | (with_reducible exact HR268.out) | (with_reducible refine cA ?_ _) | (with_reducible refine cN ?_ _) | (with_reducible refine cD ?_) | exact HR268.out)) | (with_reducible refine cA ?_ _) | (with_reducible refine cN ?_ _) | (with_reducible refine cD ?_)))
                      (case aB => exact bq)
                      (case aF => exact (fun k_ hk => ⟨Kd.fresh' (Kd.R_lt (rz HO_8.out)) k_ hk, Kd.fresh' (Kd.R_lt (rz HO274.out)) k_ hk⟩))
                      (case aO => exact ((Kd.R_nil _ _ _ _ (fun k_ => some k_ ≠ (.slice (some ad264) x8_2.length co18 : Value).ownBlock ∧ some k_ ≠ (v273 : Value).ownBlock))))
                      (case aS => exact siq)
                      (case aL => have := LMc26.out; omega)
                      intro v270 w36 ho hb hg hat; rw [← Ny269.out] at ho; have n0_ := am (Kd.R_after (Kd.R_apart_nil (rz HO_8.out)) hg hat); have n1_ := am (blk_grown (g := gb258) (o := .cells #[.string t254, .int .i64 t255, .string t256] 31 (0, 0)) (bk BK258.out) hg (by simp [Value.ownBlock])); have n2_ := am (Kd.R_after (Kd.R_apart_nil (rz HO274.out)) hg hat); have n3_ := am (hb); have n4_ := am ((show Kd.C Kd.string w36 (some ad264) y265.length y265 from by rw [Ny265.out]; exact Kd.C_take (m := (x13_3 : Int).toNat) ((Kd.R_reads' (Kd.R_after (Kd.R_apart_nil (rz HO_8.out)) hg hat)).2.2) KL32.out)); have n5_ := am ((show Kd.C Kd.string w36 A33 y278.length y278 from by rw [Ny278.out, KA33.out]; exact Kd.C_drop (m := (x13_3 : Int).toNat) (c := co18) ((Kd.R_reads' (Kd.R_after (Kd.R_apart_nil (rz HO_8.out)) hg hat)).2.2) KL33.out ((Kd.R_reads' (Kd.R_after (Kd.R_apart_nil (rz HO_8.out)) hg hat)).2.1)))
                      have n6_ := am (ho); clear HO_8; clear BK258; clear HO274; clear HB; clear HR268; clear HR281; have HO_8 := n0_; have BK258 := n1_; have HO274 := n2_; have HB := n3_; have HR268 := n4_; have HR281 := n5_; have HO271 := n6_; clear n0_ n1_ n2_ n3_ n4_ n5_ n6_; clear ho hb hg hat; refine hK.out _ _ trivial (fun hHeld => ?_)
                      clear hK K; refine norm_ (a' := ?_) ?_ ?_
                      rotate_left
                      ·show Act.put _ (some 69) _ = _
                       simp only [Act.put, sA, sB, sC, i64_w, i32_w]
                       rfl
                      exact norm_ (by simp only [putAll, Act.put, sA, sB, sC]) (hCont (v270, v273) _ ⟨(rz (Kd.R_mono HO271.out (fun _ hk => ⟨hk.2, hk.1⟩))), (rz (Kd.R_mono HO274.out (fun _ hk => ⟨hk.2, hk.1.2⟩))), (rz (Kd.R_mono HO_8.out (fun _ hk => ⟨hk.2, hk.1.2⟩))), (bk BK258.out), bq⟩)
                    rintro ⟨v270, v273⟩ w37 ⟨h0_, h1_, h2_, h3_, h4_⟩; have n0_ : Aside0 (Kd.R Kd.string 9 w37 w.heap.size (fun k_ => some k_ ≠ (v273 : Value).ownBlock ∧ some k_ ≠ (.slice (some ad264) x8_2.length co18 : Value).ownBlock) v270 y269) := ⟨h0_⟩; have n1_ : Aside0 (Kd.R Kd.string 9 w37 w.heap.size (fun k_ => some k_ ≠ (v270 : Value).ownBlock ∧ some k_ ≠ (.slice (some ad264) x8_2.length co18 : Value).ownBlock) v273 y272) := ⟨h1_⟩; have n2_ : Aside0 (Kd.R Kd.string 9 w37 w.heap.size (fun k_ => some k_ ≠ (v270 : Value).ownBlock ∧ some k_ ≠ (v273 : Value).ownBlock) (.slice (some ad264) x8_2.length co18) x8_2) := ⟨h2_⟩; have n3_ : Aside0 (w37.heap[gb258]? = some (.cells #[.string t254, .int .i64 t255, .string t256] 31 (0, 0))) := ⟨h3_⟩; have n4_ : Aside0 (Below w.heap.size w w37) := ⟨h4_⟩; clear HO_8; clear BK258; clear HB; clear h0_ h1_ h2_ h3_ h4_; have HO271 := n0_; have HO274 := n1_; have HO_8 := n2_; have BK258 := n3_; have HB := n4_; clear n0_ n1_ n2_ n3_ n4_; have hHeld := trivial; have n_ := am (show Kd.C Kd.string w37 (some ad264) y265.length y265 from by rw [Ny265.out]; exact Kd.C_take (m := (x13_3 : Int).toNat) ((Kd.R_reads' HO_8.out).2.2) KL32.out); (try clear HR268); have HR268 := n_; clear n_; have n_ := am (show Kd.C Kd.string w37 A33 y278.length y278 from by rw [Ny278.out, KA33.out]; exact Kd.C_drop (m := (x13_3 : Int).toNat) (c := co18) ((Kd.R_reads' HO_8.out).2.2) KL33.out ((Kd.R_reads' HO_8.out).2.1)); (try clear HR281); have HR281 := n_
                    clear n_; obtain ⟨Ao39, co39, eo39⟩ := Kd.R_slice HO274.out; (first | subst eo39 | (injection eo39 with f1_ f2_ f3_; have f4_ := f1_.symm; have f5_ := f3_.symm; clear f1_ f2_ f3_; subst f4_; subst f5_))
                    refine norm_ (a' := ?_) ?_ ?_
                    rotate_left
                    ·simp only [putAll, Act.put, sA, sB, sC]
                     rfl
                    refine one_ (i := 6) (N := some 72) #[tT,tT,tT,tT,tT,tT,tT,tT,tT,tT,fF,fF] rfl rfl (one_of HT_.out (by kernel_rfl)) (by decide) (fun K hK => ?_)
                    refine Kd.R_append_rows_step Kd.string (w0 := w) w.heap.size (by rfl) (.tmp 69) (.tmp 71) 27 9 (.string ⟨#[]⟩) 16 rfl Tryd.underlying27 info9 rfl (by decide) (by omega) v270 y269 y272 _ _ _ (fun k_ => some k_ ≠ (.slice (some ad264) x8_2.length co18 : Value).ownBlock ∧ some k_ ≠ (.slice Ao39 y272.length co39 : Value).ownBlock) (fun _ => False) rfl rfl ?aO ?aR (fun _ _ h => h) (fun _ h => h.elim) ?aF ?aB ?aS ?aL ?_
                    (case aR => exact cz (Kd.R_reads' HO274.out).2.2)
                    (case aB => exact bq)
                    (case aF => exact (fun k_ hk => ⟨Kd.fresh' (Kd.R_lt (rz HO_8.out)) k_ hk, Kd.fresh' (Kd.R_lt (rz HO274.out)) k_ hk⟩))
                    (case aO => exact (rz (Kd.R_mono HO271.out (fun _ hk => ⟨hk.2, hk.1⟩))))
                    (case aS => exact siq)
                    (case aL => have := LMc27.out; omega)
                    intro v276 w38 ho hb hg hat; rw [← Ny275.out] at ho; have n0_ := am (Kd.R_after (ok := (fun k_ => some k_ ≠ (.slice Ao39 y272.length co39 : Value).ownBlock)) (rz (Kd.R_mono HO_8.out (fun _ hk => ⟨hk.2, hk.1⟩))) hg hat); have n1_ := am (blk_grown (g := gb258) (o := .cells #[.string t254, .int .i64 t255, .string t256] 31 (0, 0)) (bk BK258.out) hg (Kd.R_ne HO271.out BK258.out (by decide))); have n2_ := am (Kd.R_after (ok := (fun k_ => some k_ ≠ (.slice (some ad264) x8_2.length co18 : Value).ownBlock)) (rz (Kd.R_mono HO274.out (fun _ hk => ⟨hk.2, hk.1⟩))) hg hat); have n3_ := am (hb); have n4_ := am ((show Kd.C Kd.string w38 (some ad264) y265.length y265 from by rw [Ny265.out]; exact Kd.C_take (m := (x13_3 : Int).toNat) ((Kd.R_reads' (Kd.R_after (ok := (fun k_ => some k_ ≠ (.slice Ao39 y272.length co39 : Value).ownBlock)) (rz (Kd.R_mono HO_8.out (fun _ hk => ⟨hk.2, hk.1⟩))) hg hat)).2.2) KL32.out)); have n5_ := am ((show Kd.C Kd.string w38 A33 y278.length y278 from by rw [Ny278.out, KA33.out]; exact Kd.C_drop (m := (x13_3 : Int).toNat) (c := co18) ((Kd.R_reads' (Kd.R_after (ok := (fun k_ => some k_ ≠ (.slice Ao39 y272.length co39 : Value).ownBlock)) (rz (Kd.R_mono HO_8.out (fun _ hk => ⟨hk.2, hk.1⟩))) hg hat)).2.2) KL33.out ((Kd.R_reads' (Kd.R_after (ok := (fun k_ => some k_ ≠ (.slice Ao39 y272.length co39 : Value).ownBlock)) (rz (Kd.R_mono HO_8.out (fun _ hk => ⟨hk.2, hk.1⟩))) hg hat)).2.1)))
                    have n6_ := am (ho); clear HO_8; clear BK258; clear HO274; clear HB; clear HR268; clear HR281; clear HO271; have HO_8 := n0_; have BK258 := n1_; have HO274 := n2_; have HB := n3_; have HR268 := n4_; have HR281 := n5_; have HO277 := n6_; clear n0_ n1_ n2_ n3_ n4_ n5_ n6_; clear ho hb hg hat; refine hK.out _ _ trivial (fun hHeld => ?_)
                    clear hK K; refine norm_ (a' := ?_) ?_ ?_
                    rotate_left
                    ·show Act.put _ (some 72) _ = _
                     simp only [Act.put, sA, sB, sC, i64_w, i32_w]
                     rfl
                    refine one_ (i := 10) (N := some 76) #[tT,tT,tT,tT,tT,tT,tT,tT,tT,tT,tT,fF] rfl rfl (one_of HT_.out (by kernel_rfl)) (by decide) (fun K hK => ?_)
                    refine Kd.R_append_rows_step Kd.string (w0 := w) w.heap.size (by rfl) (.tmp 72) (.tmp 75) 27 9 (.string ⟨#[]⟩) 16 rfl Tryd.underlying27 info9 rfl (by decide) (by omega) v276 y275 y278 _ _ _ (fun k_ => some k_ ≠ (.slice (some ad264) x8_2.length co18 : Value).ownBlock ∧ some k_ ≠ (.slice Ao39 y272.length co39 : Value).ownBlock) (fun _ => False) rfl rfl ?aO ?aR (fun _ _ h => h) (fun _ h => h.elim) ?aF ?aB ?aS ?aL ?_
                    (case aR => repeat (first | exact (by repeat (first | (with_reducible exact HR281.out) | (with_reducible refine cA ?_ _) | (with_reducible refine cN ?_ _) | (with_reducible refine cD ?_) | exact HR281.out)) | (with_reducible refine cA ?_ _) | (with_reducible refine cN ?_ _) | (with_reducible refine cD ?_)))
                    (case aB => exact bq)
                    (case aF => exact (fun k_ hk => ⟨Kd.fresh' (Kd.R_lt (rz HO_8.out)) k_ hk, Kd.fresh' (Kd.R_lt (rz HO274.out)) k_ hk⟩))
                    (case aO => exact (rz HO277.out))
                    (case aS => exact siq)
                    (case aL => have := LMc30.out; omega)
                    intro v283 w40 ho hb hg hat; rw [← Ny282.out] at ho; have n0_ := am (Kd.R_after (ok := (fun k_ => some k_ ≠ (.slice Ao39 y272.length co39 : Value).ownBlock)) (rz HO_8.out) hg hat); have n1_ := am (blk_grown (g := gb258) (o := .cells #[.string t254, .int .i64 t255, .string t256] 31 (0, 0)) (bk BK258.out) hg (Kd.R_ne HO277.out BK258.out (by decide))); have n2_ := am (Kd.R_after (ok := (fun k_ => some k_ ≠ (.slice (some ad264) x8_2.length co18 : Value).ownBlock)) (rz HO274.out) hg hat); have n3_ := am (hb); have n4_ := am ((show Kd.C Kd.string w40 (some ad264) y265.length y265 from by rw [Ny265.out]; exact Kd.C_take (m := (x13_3 : Int).toNat) ((Kd.R_reads' (Kd.R_after (ok := (fun k_ => some k_ ≠ (.slice Ao39 y272.length co39 : Value).ownBlock)) (rz HO_8.out) hg hat)).2.2) KL32.out)); have n5_ := am ((show Kd.C Kd.string w40 A33 y278.length y278 from by rw [Ny278.out, KA33.out]; exact Kd.C_drop (m := (x13_3 : Int).toNat) (c := co18) ((Kd.R_reads' (Kd.R_after (ok := (fun k_ => some k_ ≠ (.slice Ao39 y272.length co39 : Value).ownBlock)) (rz HO_8.out) hg hat)).2.2) KL33.out ((Kd.R_reads' (Kd.R_after (ok := (fun k_ => some k_ ≠ (.slice Ao39 y272.length co39 : Value).ownBlock)) (rz HO_8.out) hg hat)).2.1)))
                    have n6_ := am (ho); clear HO_8; clear BK258; clear HO274; clear HB; clear HR268; clear HR281; clear HO277; have HO_8 := n0_; have BK258 := n1_; have HO274 := n2_; have HB := n3_; have HR268 := n4_; have HR281 := n5_; have HO284 := n6_; clear n0_ n1_ n2_ n3_ n4_ n5_ n6_; clear ho hb hg hat; refine hK.out _ _ trivial (fun hHeld => ?_)
                    clear hK K; refine norm_ (a' := ?_) ?_ ?_
                    rotate_left
                    ·show Act.put _ (some 76) _ = _
                     simp only [Act.put, sA, sB, sC, i64_w, i32_w]
                     rfl
                    refine pu 11 (some 8) ?_
                    refine done_ (done_of HT_.out (by kernel_rfl)) ?_
                    try go_wp2
                    go_roundg k3
                    case measure => have := HJ3.out; have := HK2.out; have := HK3.out; omega
                    case rel => exact ⟨(y282), (wrap64 (x9_2 + 1)), (by first | rfl | (simp; done) | (simp [*]; done)), H', ⟨by have := HJ3.out; have := HK2.out; have := HK3.out; omega⟩, ⟨rz (Kd.R_mono HO284.out (fun _ hk => trivial))⟩, ⟨bk BK258.out⟩, ⟨bq⟩⟩
                   ·rw [if_neg c30] at H
                    exact absurd H (by simp)
                  ·rw [if_neg c27] at H
                   exact absurd H (by simp)
                 ·rw [if_neg c26] at H
                  exact absurd H (by simp)
                ·rw [if_neg c25] at H
                 exact absurd H (by simp)
               ·rw [if_neg c24] at H
                exact absurd H (by simp)
             ·rw [if_neg c22] at H
              exact absurd H (by simp)
            ·rw [if_neg c21] at H
             exact absurd H (by simp)
           ·rw [if_neg c19] at H
            have c19b0 : decide (0 < x13_3) = false := decide_eq_false c19; clear c19; by_cases c41 : 0 ≤ x13_3
            ·rw [if_pos c41] at H
             have c41b0 := eq_true c41; have c41b1 : decide (0 ≤ x13_3) = true := decide_eq_true c41; clear c41; by_cases c42 : x13_3 ≤ (x8_2.length : Int)
             ·rw [if_pos c42] at H
              have c42b0 := eq_true c42; have c42b1 : decide (x13_3 ≤ (x8_2.length : Int)) = true := decide_eq_true c42; clear c42; refine bL H ?_; clear H; intro y285 hy285 H
              have Ny285 := am hy285; clear hy285; by_cases c43 : ([] : List ByteArray).length + y285.length < 8796093022208
              ·rw [if_pos c43] at H
               have LMc43 := am c43; clear c43; refine bL H ?_; clear H; intro y289 hy289 H
               have Ny289 := am hy289; clear hy289; refine bL H ?_; clear H; intro y292 hy292 H
               have Ny292 := am hy292; clear hy292; by_cases c44 : y289.length + y292.length < 8796093022208
               ·rw [if_pos c44] at H
                have LMc44 := am c44; clear c44; refine bL H ?_; clear H; intro y295 hy295 H
                have Ny295 := am hy295; clear hy295; have c45b0 := eq_true (of_decide_eq_true (by assumption) : 0 ≤ x13_3); have c46b0 := eq_true (of_decide_eq_true (by assumption) : x13_3 ≤ (x8_2.length : Int)); refine bL H ?_; clear H; intro y298 hy298 H
                have Ny298 := am hy298; clear hy298; by_cases c47 : y295.length + y298.length < 8796093022208
                ·rw [if_pos c47] at H
                 have LMc47 := am c47; clear c47; obtain ⟨y302, hy302⟩ : ∃ y_ : List ByteArray, y_ = (y295 ++ y298) := ⟨_, rfl⟩; try rw [← hy302] at H
                 have Ny302 := am hy302; clear hy302; have H' := am H; clear H; try go_wp2
                 replace HO_8 := am (rD HO_8.out); replace BK258 := am (kD BK258.out); replace HB := am (bO HB.out); have q49 : (x13_3 : Int) ≤ ((x8_2.length : Int) : Int) := of_decide_eq_true (by assumption); obtain ⟨i049, hi049, _, hsz49, _⟩ := info_parts info9; have hroom49 : x8_2.length ≤ co18 := (Kd.R_reads' HO_8.out).2.1; have hC49 : Kd.C Kd.string _ Ao18 x8_2.length x8_2 := (Kd.R_reads' HO_8.out).2.2; have hcut49 := cut_to (P := Tryd.prog) 27 9 .i64 Tryd.underlying27 hi049 Ao18 x8_2.length co18 x13_3 (of_decide_eq_true (by assumption)) q49 hroom49; have hr49 := Kd.C_take (m := (x13_3 : Int).toNat) hC49 (by omega); have hy49 : y285.length = (x13_3 : Int).toNat := (by rw [Ny285.out, lT]; omega); rw [← Ny285.out] at hr49; rw [← hy49] at hcut49; have HR288 := am hr49; have HC288 := am (show y285.length ≤ co18 from by omega); clear hr49 hC49 hroom49 hi049 hsz49; have KY49 := am hy49; clear hy49; have KL49 := am (show (x13_3 : Int).toNat ≤ x8_2.length from by omega); replace q49 := eq_true q49; have q50 : (x13_3 : Int) ≤ ((x8_2.length : Int) : Int) := of_decide_eq_true (by assumption); obtain ⟨i050, hi050, _, hsz50, _⟩ := info_parts info9; have hroom50 : x8_2.length ≤ co18 := (Kd.R_reads' HO_8.out).2.1
                 have hC50 : Kd.C Kd.string _ Ao18 x8_2.length x8_2 := (Kd.R_reads' HO_8.out).2.2; have q050 : (0 : Int) ≤ (x13_3 : Int) := of_decide_eq_true (by assumption); have hcut50 := cut_from (P := Tryd.prog) 27 9 .i64 Tryd.underlying27 hi050 1 hsz50 Ao18 x8_2.length co18 x13_3 q050 q50; have hr50 := Kd.C_drop (m := (x13_3 : Int).toNat) (c := co18) hC50 (by omega) hroom50; obtain ⟨A50, hA50⟩ : ∃ A1, A1 = (if co18 = (x13_3 : Int).toNat then Ao18 else (Ao18 : Option Addr).map (·.add ((x13_3 : Int).toNat * 1))) := ⟨_, rfl⟩; obtain ⟨c50, hc50⟩ : ∃ c1, c1 = co18 - (x13_3 : Int).toNat := ⟨_, rfl⟩; have hy50 : y298.length = x8_2.length - (x13_3 : Int).toNat := (by rw [Ny298.out, lD] <;> omega); rw [show (x8_2).drop (x13_3 : Int).toNat = y298 from Ny298.out.symm] at hr50; replace hr50 : Kd.C Kd.string _ A50 y298.length y298 := (by rw [hA50]; exact hr50); rw [← hy50, ← hA50, ← hc50] at hcut50; have HR301 := am hr50; have HC301 := am (show y298.length ≤ c50 from by rw [hy50, hc50]; exact Nat.sub_le_sub_right hroom50 _); clear hr50 hC50 hroom50 hi050 hsz50 hc50; have KY50 := am hy50; have KA50 := am hA50; clear hy50 hA50; have KL50 := am (show (x13_3 : Int).toNat ≤ x8_2.length from by omega); replace q50 := eq_true q50; refine start_ (n := 12) (S := fun w' => True) (ds := []) #[fF,fF,fF,fF,fF,fF,fF,fF,fF,fF,fF,fF] (by kernel_rfl) rfl rfl trivial (fun hHeld => ?_); refine with_tabW hogsheadref3_List.tab14 hogsheadref3_List.bits14 (fun HT_ HW_ => ?_)
                 generalize wr.drew = w48 at HO_8 BK258 HB HR288 HR301 hHeld ⊢
                 refine pu 0 (some 66) ?_
                 refine pu 1 (some 67) ?_
                 refine pu 2 (some 68) ?_
                 refine pu 4 (some 70) ?_
                 refine pu 7 (some 73) ?_
                 refine pu 8 (some 74) ?_
                 refine pu 9 (some 75) ?_
                 refine join_ (σ := Value × Value) 3 #[tT,tT,tT,tT,tT,tT,fF,tT,tT,tT,fF,fF] (fun s_ => [(69, s_.1), (71, s_.2)]) (fun s_ w' => (Kd.R Kd.string 9 w' w.heap.size (fun k_ => some k_ ≠ (s_.2 : Value).ownBlock ∧ some k_ ≠ (.slice Ao18 x8_2.length co18 : Value).ownBlock) s_.1 y289) ∧ (Kd.R Kd.string 9 w' w.heap.size (fun k_ => some k_ ≠ (s_.1 : Value).ownBlock ∧ some k_ ≠ (.slice Ao18 x8_2.length co18 : Value).ownBlock) s_.2 y292) ∧ (Kd.R Kd.string 9 w' w.heap.size (fun k_ => some k_ ≠ (s_.1 : Value).ownBlock ∧ some k_ ≠ (s_.2 : Value).ownBlock) (.slice Ao18 x8_2.length co18) x8_2) ∧ (w'.heap[gb258]? = some (.cells #[.string t254, .int .i64 t255, .string t256] 31 (0, 0))) ∧ (Below w.heap.size w w')) ?_ ?_
                 rotate_left
                 ·intro hCont
                  refine two_ (i := 3) (j := 5) (Ni := some 69) (Nj := some 71) #[tT,tT,tT,tT,tT,fF,fF,tT,tT,tT,fF,fF] #[tT,tT,tT,fF,tT,tT,fF,tT,tT,tT,fF,fF] rfl rfl rfl rfl (two_of HT_.out (by kernel_rfl)) (by decide) (by decide) (fun K hK => ?_) (fun K hK => ?_)
                  ·skip
                   refine Kd.R_append_rows_step Kd.string (w0 := w) w.heap.size (by rfl) (.const (.slice none 0 0)) (.tmp 68) 27 9 (.string ⟨#[]⟩) 16 rfl Tryd.underlying27 info9 rfl (by decide) (by omega) (.slice none 0 0) ([] : List ByteArray) y285 _ _ _ (fun k_ => some k_ ≠ (.slice Ao18 x8_2.length co18 : Value).ownBlock) (fun _ => False) rfl rfl ?aO ?aR (fun _ _ h => h) (fun _ h => h.elim) ?aF ?aB ?aS ?aL ?_
                   (case aR => repeat (first | exact (by repeat (first | (with_reducible exact HR288.out) | (with_reducible refine cA ?_ _) | (with_reducible refine cN ?_ _) | (with_reducible refine cD ?_) | exact HR288.out)) | (with_reducible refine cA ?_ _) | (with_reducible refine cN ?_ _) | (with_reducible refine cD ?_)))
                   (case aB => exact bq)
                   (case aF => exact (fun k_ hk => Kd.fresh' (Kd.R_lt (rz HO_8.out)) k_ hk))
                   (case aO => exact ((Kd.R_nil _ _ _ _ (fun k_ => some k_ ≠ (.slice Ao18 x8_2.length co18 : Value).ownBlock))))
                   (case aS => exact siq)
                   (case aL => have := LMc43.out; omega)
                   intro v290 w51 ho hb hg hat; rw [← Ny289.out] at ho; have n0_ := am (Kd.R_after (Kd.R_apart_nil (rz HO_8.out)) hg hat); have n1_ := am (blk_grown (g := gb258) (o := .cells #[.string t254, .int .i64 t255, .string t256] 31 (0, 0)) (bk BK258.out) hg (by simp [Value.ownBlock])); have n2_ := am (hb); have n3_ := am ((show Kd.C Kd.string w51 Ao18 y285.length y285 from by rw [Ny285.out]; exact Kd.C_take (m := (x13_3 : Int).toNat) ((Kd.R_reads' (Kd.R_after (Kd.R_apart_nil (rz HO_8.out)) hg hat)).2.2) KL49.out)); have n4_ := am ((show Kd.C Kd.string w51 A50 y298.length y298 from by rw [Ny298.out, KA50.out]; exact Kd.C_drop (m := (x13_3 : Int).toNat) (c := co18) ((Kd.R_reads' (Kd.R_after (Kd.R_apart_nil (rz HO_8.out)) hg hat)).2.2) KL50.out ((Kd.R_reads' (Kd.R_after (Kd.R_apart_nil (rz HO_8.out)) hg hat)).2.1))); have n5_ := am (ho); clear HO_8; clear BK258; clear HB; clear HR288; clear HR301; have HO_8 := n0_; have BK258 := n1_; have HB := n2_; have HR288 := n3_
                   have HR301 := n4_; have HO291 := n5_; clear n0_ n1_ n2_ n3_ n4_ n5_; clear ho hb hg hat; refine hK.out _ _ trivial (fun hHeld => ?_)
                   clear hK K; refine norm_ (a' := ?_) ?_ ?_
                   rotate_left
                   ·show Act.put _ (some 69) _ = _
                    simp only [Act.put, sA, sB, sC, i64_w, i32_w]
                    rfl
                   refine one_ (i := 5) (N := some 71) #[tT,tT,tT,tT,tT,tT,fF,tT,tT,tT,fF,fF] rfl rfl (one_of HT_.out (by kernel_rfl)) (by decide) (fun K hK => ?_)
                   refine Kd.R_lit_step Kd.string _ 9 ?hg (N := 71) ?hd (xs := ([t263] : List ByteArray)) (inner := [.string t263]) (ok := fun _ => True) (okp := fun _ => True) ?hr ?hp (fun _ hk => hk) trivial (Below.refl _ _) (Nat.le_refl _) (by simp) ?_; (case hd => rfl); (case hg => rfl); (case hr => first | (go_simp; done) | (go_simp; rfl)); (case hp => exact (Reps.one (show Kd.M Kd.string _ _ _ t263 [.string t263] from rfl) (Reps.none _ _)))
                   intro v293 w52 ho53 hb hg_ hnew_; clear hg_ hnew_; (first | rw [← Ny292.out] at ho53 | (simp only [Int.reduceToNat] at ho53; rw [← Ny292.out] at ho53))
                   have n0_ := am (Kd.R_elder' (rz HO_8.out) (Kd.R_base ho53) hb); have n1_ := am (Kd.R_elder' (rz HO291.out) (Kd.R_base ho53) hb); have n2_ := am (Kd.R_lower (Kd.R_new' (Kd.R_new' ho53 (Kd.R_lt (rz HO_8.out))) (Kd.R_lt (rz HO291.out))) siq); have n3_ := am (blk_below (g := gb258) (o := .cells #[.string t254, .int .i64 t255, .string t256] 31 (0, 0)) (bk BK258.out) hb); have n4_ := am (Kd.C_below (by repeat (first | (with_reducible exact HR288.out) | (with_reducible refine cA ?_ _) | (with_reducible refine cN ?_ _) | (with_reducible refine cD ?_) | exact HR288.out)) hb); have n5_ := am (Kd.C_below (by repeat (first | (with_reducible exact HR301.out) | (with_reducible refine cA ?_ _) | (with_reducible refine cN ?_ _) | (with_reducible refine cD ?_) | exact HR301.out)) hb)
                   have n6_ := bw hb; clear HO_8; clear HO291; clear BK258; clear HR288; clear HR301; clear HB; have HO_8 := n0_; have HO291 := n1_; have HO294 := n2_; have BK258 := n3_; have HR288 := n4_; have HR301 := n5_; have HB := n6_; clear n0_ n1_ n2_ n3_ n4_ n5_ n6_; clear hb ho53; refine hK.out _ _ trivial (fun hHeld => ?_)
                   clear hK K; refine norm_ (a' := ?_) ?_ ?_
                   rotate_left
                   ·show Act.put _ (some 71) _ = _
                    simp only [Act.put, sA, sB, sC, i64_w, i32_w]
                    rfl
                   exact norm_ (by simp only [putAll, Act.put, sA, sB, sC]) (hCont (v290, v293) _ ⟨(rz (Kd.R_mono HO291.out (fun _ hk => ⟨hk.2, hk.1⟩))), (rz (Kd.R_mono HO294.out (fun _ hk => ⟨hk.2, hk.1.2⟩))), (rz (Kd.R_mono HO_8.out (fun _ hk => ⟨hk.1.2, hk.2⟩))), (bk BK258.out), bq⟩)
                  ·skip
                   refine Kd.R_lit_step Kd.string _ 9 ?hg (N := 71) ?hd (xs := ([t263] : List ByteArray)) (inner := [.string t263]) (ok := fun _ => True) (okp := fun _ => True) ?hr ?hp (fun _ hk => hk) trivial (Below.refl _ _) (Nat.le_refl _) (by simp) ?_; (case hd => rfl); (case hg => rfl); (case hr => first | (go_simp; done) | (go_simp; rfl)); (case hp => exact (Reps.one (show Kd.M Kd.string _ _ _ t263 [.string t263] from rfl) (Reps.none _ _)))
                   intro v293 w51 ho52 hb hg_ hnew_; clear hg_ hnew_; (first | rw [← Ny292.out] at ho52 | (simp only [Int.reduceToNat] at ho52; rw [← Ny292.out] at ho52))
                   have n0_ := am (Kd.R_elder' (rz HO_8.out) (Kd.R_base ho52) hb); have n1_ := am (Kd.R_lower (Kd.R_new' ho52 (Kd.R_lt (rz HO_8.out))) siq); have n2_ := am (blk_below (g := gb258) (o := .cells #[.string t254, .int .i64 t255, .string t256] 31 (0, 0)) (bk BK258.out) hb); have n3_ := am (Kd.C_below (by repeat (first | (with_reducible exact HR288.out) | (with_reducible refine cA ?_ _) | (with_reducible refine cN ?_ _) | (with_reducible refine cD ?_) | exact HR288.out)) hb); have n4_ := am (Kd.C_below (by repeat (first | (with_reducible exact HR301.out) | (with_reducible refine cA ?_ _) | (with_reducible refine cN ?_ _) | (with_reducible refine cD ?_) | exact HR301.out)) hb); have n5_ := bw hb; clear HO_8; clear BK258; clear HR288; clear HR301
                   clear HB; have HO_8 := n0_; have HO294 := n1_; have BK258 := n2_; have HR288 := n3_; have HR301 := n4_; have HB := n5_; clear n0_ n1_ n2_ n3_ n4_ n5_; clear hb ho52; refine hK.out _ _ trivial (fun hHeld => ?_)
                   clear hK K; refine norm_ (a' := ?_) ?_ ?_
                   rotate_left
                   ·show Act.put _ (some 71) _ = _
                    simp only [Act.put, sA, sB, sC, i64_w, i32_w]
                    rfl
                   refine one_ (i := 3) (N := some 69) #[tT,tT,tT,tT,tT,tT,fF,tT,tT,tT,fF,fF] rfl rfl (one_of HT_.out (by kernel_rfl)) (by decide) (fun K hK => ?_)
                   refine Kd.R_append_rows_step Kd.string (w0 := w) w.heap.size (by rfl) (.const (.slice none 0 0)) (.tmp 68) 27 9 (.string ⟨#[]⟩) 16 rfl Tryd.underlying27 info9 rfl (by decide) (by omega) (.slice none 0 0) ([] : List ByteArray) y285 _ _ _ (fun k_ => some k_ ≠ (.slice Ao18 x8_2.length co18 : Value).ownBlock ∧ some k_ ≠ (v293 : Value).ownBlock) (fun _ => False) rfl rfl ?aO ?aR (fun _ _ h => h) (fun _ h => h.elim) ?aF ?aB ?aS ?aL ?_
                   (case aR => repeat (first | exact (by repeat (first | (with_reducible exact HR288.out) | (with_reducible refine cA ?_ _) | (with_reducible refine cN ?_ _) | (with_reducible refine cD ?_) | exact HR288.out)) | (with_reducible refine cA ?_ _) | (with_reducible refine cN ?_ _) | (with_reducible refine cD ?_)))
                   (case aB => exact bq)
                   (case aF => exact (fun k_ hk => ⟨Kd.fresh' (Kd.R_lt (rz HO_8.out)) k_ hk, Kd.fresh' (Kd.R_lt (rz HO294.out)) k_ hk⟩))
                   (case aO => exact ((Kd.R_nil _ _ _ _ (fun k_ => some k_ ≠ (.slice Ao18 x8_2.length co18 : Value).ownBlock ∧ some k_ ≠ (v293 : Value).ownBlock))))
                   (case aS => exact siq)
                   (case aL => have := LMc43.out; omega)
                   intro v290 w53 ho hb hg hat; rw [← Ny289.out] at ho; have n0_ := am (Kd.R_after (Kd.R_apart_nil (rz HO_8.out)) hg hat); have n1_ := am (blk_grown (g := gb258) (o := .cells #[.string t254, .int .i64 t255, .string t256] 31 (0, 0)) (bk BK258.out) hg (by simp [Value.ownBlock])); have n2_ := am (Kd.R_after (Kd.R_apart_nil (rz HO294.out)) hg hat); have n3_ := am (hb); have n4_ := am ((show Kd.C Kd.string w53 Ao18 y285.length y285 from by rw [Ny285.out]; exact Kd.C_take (m := (x13_3 : Int).toNat) ((Kd.R_reads' (Kd.R_after (Kd.R_apart_nil (rz HO_8.out)) hg hat)).2.2) KL49.out)); have n5_ := am ((show Kd.C Kd.string w53 A50 y298.length y298 from by rw [Ny298.out, KA50.out]; exact Kd.C_drop (m := (x13_3 : Int).toNat) (c := co18) ((Kd.R_reads' (Kd.R_after (Kd.R_apart_nil (rz HO_8.out)) hg hat)).2.2) KL50.out ((Kd.R_reads' (Kd.R_after (Kd.R_apart_nil (rz HO_8.out)) hg hat)).2.1)))
                   have n6_ := am (ho); clear HO_8; clear BK258; clear HO294; clear HB; clear HR288; clear HR301; have HO_8 := n0_; have BK258 := n1_; have HO294 := n2_; have HB := n3_; have HR288 := n4_; have HR301 := n5_; have HO291 := n6_; clear n0_ n1_ n2_ n3_ n4_ n5_ n6_; clear ho hb hg hat; refine hK.out _ _ trivial (fun hHeld => ?_)
                   clear hK K; refine norm_ (a' := ?_) ?_ ?_
                   rotate_left
                   ·show Act.put _ (some 69) _ = _
                    simp only [Act.put, sA, sB, sC, i64_w, i32_w]
                    rfl
                   exact norm_ (by simp only [putAll, Act.put, sA, sB, sC]) (hCont (v290, v293) _ ⟨(rz (Kd.R_mono HO291.out (fun _ hk => ⟨hk.2, hk.1⟩))), (rz (Kd.R_mono HO294.out (fun _ hk => ⟨hk.2, hk.1.2⟩))), (rz (Kd.R_mono HO_8.out (fun _ hk => ⟨hk.2, hk.1.2⟩))), (bk BK258.out), bq⟩)
                 rintro ⟨v290, v293⟩ w54 ⟨h0_, h1_, h2_, h3_, h4_⟩; have n0_ : Aside0 (Kd.R Kd.string 9 w54 w.heap.size (fun k_ => some k_ ≠ (v293 : Value).ownBlock ∧ some k_ ≠ (.slice Ao18 x8_2.length co18 : Value).ownBlock) v290 y289) := ⟨h0_⟩; have n1_ : Aside0 (Kd.R Kd.string 9 w54 w.heap.size (fun k_ => some k_ ≠ (v290 : Value).ownBlock ∧ some k_ ≠ (.slice Ao18 x8_2.length co18 : Value).ownBlock) v293 y292) := ⟨h1_⟩; have n2_ : Aside0 (Kd.R Kd.string 9 w54 w.heap.size (fun k_ => some k_ ≠ (v290 : Value).ownBlock ∧ some k_ ≠ (v293 : Value).ownBlock) (.slice Ao18 x8_2.length co18) x8_2) := ⟨h2_⟩; have n3_ : Aside0 (w54.heap[gb258]? = some (.cells #[.string t254, .int .i64 t255, .string t256] 31 (0, 0))) := ⟨h3_⟩; have n4_ : Aside0 (Below w.heap.size w w54) := ⟨h4_⟩; clear HO_8; clear BK258; clear HB; clear h0_ h1_ h2_ h3_ h4_; have HO291 := n0_; have HO294 := n1_; have HO_8 := n2_; have BK258 := n3_; have HB := n4_; clear n0_ n1_ n2_ n3_ n4_; have hHeld := trivial; have n_ := am (show Kd.C Kd.string w54 Ao18 y285.length y285 from by rw [Ny285.out]; exact Kd.C_take (m := (x13_3 : Int).toNat) ((Kd.R_reads' HO_8.out).2.2) KL49.out); (try clear HR288); have HR288 := n_; clear n_; have n_ := am (show Kd.C Kd.string w54 A50 y298.length y298 from by rw [Ny298.out, KA50.out]; exact Kd.C_drop (m := (x13_3 : Int).toNat) (c := co18) ((Kd.R_reads' HO_8.out).2.2) KL50.out ((Kd.R_reads' HO_8.out).2.1)); (try clear HR301); have HR301 := n_; clear n_; obtain ⟨Ao56, co56, eo56⟩ := Kd.R_slice HO294.out
                 (first | subst eo56 | (injection eo56 with f1_ f2_ f3_; have f4_ := f1_.symm; have f5_ := f3_.symm; clear f1_ f2_ f3_; subst f4_; subst f5_))
                 refine norm_ (a' := ?_) ?_ ?_
                 rotate_left
                 ·simp only [putAll, Act.put, sA, sB, sC]
                  rfl
                 refine one_ (i := 6) (N := some 72) #[tT,tT,tT,tT,tT,tT,tT,tT,tT,tT,fF,fF] rfl rfl (one_of HT_.out (by kernel_rfl)) (by decide) (fun K hK => ?_)
                 refine Kd.R_append_rows_step Kd.string (w0 := w) w.heap.size (by rfl) (.tmp 69) (.tmp 71) 27 9 (.string ⟨#[]⟩) 16 rfl Tryd.underlying27 info9 rfl (by decide) (by omega) v290 y289 y292 _ _ _ (fun k_ => some k_ ≠ (.slice Ao18 x8_2.length co18 : Value).ownBlock ∧ some k_ ≠ (.slice Ao56 y292.length co56 : Value).ownBlock) (fun _ => False) rfl rfl ?aO ?aR (fun _ _ h => h) (fun _ h => h.elim) ?aF ?aB ?aS ?aL ?_
                 (case aR => exact cz (Kd.R_reads' HO294.out).2.2)
                 (case aB => exact bq)
                 (case aF => exact (fun k_ hk => ⟨Kd.fresh' (Kd.R_lt (rz HO_8.out)) k_ hk, Kd.fresh' (Kd.R_lt (rz HO294.out)) k_ hk⟩))
                 (case aO => exact (rz (Kd.R_mono HO291.out (fun _ hk => ⟨hk.2, hk.1⟩))))
                 (case aS => exact siq)
                 (case aL => have := LMc44.out; omega)
                 intro v296 w55 ho hb hg hat; rw [← Ny295.out] at ho; have n0_ := am (Kd.R_after (ok := (fun k_ => some k_ ≠ (.slice Ao56 y292.length co56 : Value).ownBlock)) (rz (Kd.R_mono HO_8.out (fun _ hk => ⟨hk.2, hk.1⟩))) hg hat); have n1_ := am (blk_grown (g := gb258) (o := .cells #[.string t254, .int .i64 t255, .string t256] 31 (0, 0)) (bk BK258.out) hg (Kd.R_ne HO291.out BK258.out (by decide))); have n2_ := am (Kd.R_after (ok := (fun k_ => some k_ ≠ (.slice Ao18 x8_2.length co18 : Value).ownBlock)) (rz (Kd.R_mono HO294.out (fun _ hk => ⟨hk.2, hk.1⟩))) hg hat); have n3_ := am (hb); have n4_ := am ((show Kd.C Kd.string w55 Ao18 y285.length y285 from by rw [Ny285.out]; exact Kd.C_take (m := (x13_3 : Int).toNat) ((Kd.R_reads' (Kd.R_after (ok := (fun k_ => some k_ ≠ (.slice Ao56 y292.length co56 : Value).ownBlock)) (rz (Kd.R_mono HO_8.out (fun _ hk => ⟨hk.2, hk.1⟩))) hg hat)).2.2) KL49.out)); have n5_ := am ((show Kd.C Kd.string w55 A50 y298.length y298 from by rw [Ny298.out, KA50.out]; exact Kd.C_drop (m := (x13_3 : Int).toNat) (c := co18) ((Kd.R_reads' (Kd.R_after (ok := (fun k_ => some k_ ≠ (.slice Ao56 y292.length co56 : Value).ownBlock)) (rz (Kd.R_mono HO_8.out (fun _ hk => ⟨hk.2, hk.1⟩))) hg hat)).2.2) KL50.out ((Kd.R_reads' (Kd.R_after (ok := (fun k_ => some k_ ≠ (.slice Ao56 y292.length co56 : Value).ownBlock)) (rz (Kd.R_mono HO_8.out (fun _ hk => ⟨hk.2, hk.1⟩))) hg hat)).2.1)))
                 have n6_ := am (ho); clear HO_8; clear BK258; clear HO294; clear HB; clear HR288; clear HR301; clear HO291; have HO_8 := n0_; have BK258 := n1_; have HO294 := n2_; have HB := n3_; have HR288 := n4_; have HR301 := n5_; have HO297 := n6_; clear n0_ n1_ n2_ n3_ n4_ n5_ n6_; clear ho hb hg hat; refine hK.out _ _ trivial (fun hHeld => ?_)
                 clear hK K; refine norm_ (a' := ?_) ?_ ?_
                 rotate_left
                 ·show Act.put _ (some 72) _ = _
                  simp only [Act.put, sA, sB, sC, i64_w, i32_w]
                  rfl
                 refine one_ (i := 10) (N := some 76) #[tT,tT,tT,tT,tT,tT,tT,tT,tT,tT,tT,fF] rfl rfl (one_of HT_.out (by kernel_rfl)) (by decide) (fun K hK => ?_)
                 refine Kd.R_append_rows_step Kd.string (w0 := w) w.heap.size (by rfl) (.tmp 72) (.tmp 75) 27 9 (.string ⟨#[]⟩) 16 rfl Tryd.underlying27 info9 rfl (by decide) (by omega) v296 y295 y298 _ _ _ (fun k_ => some k_ ≠ (.slice Ao18 x8_2.length co18 : Value).ownBlock ∧ some k_ ≠ (.slice Ao56 y292.length co56 : Value).ownBlock) (fun _ => False) rfl rfl ?aO ?aR (fun _ _ h => h) (fun _ h => h.elim) ?aF ?aB ?aS ?aL ?_
                 (case aR => repeat (first | exact (by repeat (first | (with_reducible exact HR301.out) | (with_reducible refine cA ?_ _) | (with_reducible refine cN ?_ _) | (with_reducible refine cD ?_) | exact HR301.out)) | (with_reducible refine cA ?_ _) | (with_reducible refine cN ?_ _) | (with_reducible refine cD ?_)))
                 (case aB => exact bq)
                 (case aF => exact (fun k_ hk => ⟨Kd.fresh' (Kd.R_lt (rz HO_8.out)) k_ hk, Kd.fresh' (Kd.R_lt (rz HO294.out)) k_ hk⟩))
                 (case aO => exact (rz HO297.out))
                 (case aS => exact siq)
                 (case aL => have := LMc47.out; omega)
                 intro v303 w57 ho hb hg hat; rw [← Ny302.out] at ho; have n0_ := am (Kd.R_after (ok := (fun k_ => some k_ ≠ (.slice Ao56 y292.length co56 : Value).ownBlock)) (rz HO_8.out) hg hat); have n1_ := am (blk_grown (g := gb258) (o := .cells #[.string t254, .int .i64 t255, .string t256] 31 (0, 0)) (bk BK258.out) hg (Kd.R_ne HO297.out BK258.out (by decide))); have n2_ := am (Kd.R_after (ok := (fun k_ => some k_ ≠ (.slice Ao18 x8_2.length co18 : Value).ownBlock)) (rz HO294.out) hg hat); have n3_ := am (hb); have n4_ := am ((show Kd.C Kd.string w57 Ao18 y285.length y285 from by rw [Ny285.out]; exact Kd.C_take (m := (x13_3 : Int).toNat) ((Kd.R_reads' (Kd.R_after (ok := (fun k_ => some k_ ≠ (.slice Ao56 y292.length co56 : Value).ownBlock)) (rz HO_8.out) hg hat)).2.2) KL49.out)); have n5_ := am ((show Kd.C Kd.string w57 A50 y298.length y298 from by rw [Ny298.out, KA50.out]; exact Kd.C_drop (m := (x13_3 : Int).toNat) (c := co18) ((Kd.R_reads' (Kd.R_after (ok := (fun k_ => some k_ ≠ (.slice Ao56 y292.length co56 : Value).ownBlock)) (rz HO_8.out) hg hat)).2.2) KL50.out ((Kd.R_reads' (Kd.R_after (ok := (fun k_ => some k_ ≠ (.slice Ao56 y292.length co56 : Value).ownBlock)) (rz HO_8.out) hg hat)).2.1)))
                 have n6_ := am (ho); clear HO_8; clear BK258; clear HO294; clear HB; clear HR288; clear HR301; clear HO297; have HO_8 := n0_; have BK258 := n1_; have HO294 := n2_; have HB := n3_; have HR288 := n4_; have HR301 := n5_; have HO304 := n6_; clear n0_ n1_ n2_ n3_ n4_ n5_ n6_; clear ho hb hg hat; refine hK.out _ _ trivial (fun hHeld => ?_)
                 clear hK K; refine norm_ (a' := ?_) ?_ ?_
                 rotate_left
                 ·show Act.put _ (some 76) _ = _
                  simp only [Act.put, sA, sB, sC, i64_w, i32_w]
                  rfl
                 refine pu 11 (some 8) ?_
                 refine done_ (done_of HT_.out (by kernel_rfl)) ?_
                 try go_wp2
                 go_roundg k3
                 case measure => have := HJ3.out; have := HK2.out; have := HK3.out; omega
                 case rel => exact ⟨(y302), (wrap64 (x9_2 + 1)), (by first | rfl | (simp; done) | (simp [*]; done)), H', ⟨by have := HJ3.out; have := HK2.out; have := HK3.out; omega⟩, ⟨rz (Kd.R_mono HO304.out (fun _ hk => trivial))⟩, ⟨bk BK258.out⟩, ⟨bq⟩⟩
                ·rw [if_neg c47] at H
                 exact absurd H (by simp)
               ·rw [if_neg c44] at H
                exact absurd H (by simp)
              ·rw [if_neg c43] at H
               exact absurd H (by simp)
             ·rw [if_neg c42] at H
              exact absurd H (by simp)
            ·rw [if_neg c41] at H
             exact absurd H (by simp)
        ·rw [if_neg c14] at H
         have c14b0 : (t260.toList == a1.toList) = false := beq_eq_false_iff_ne.mpr c14; have c14b1 : (t260.toList != a1.toList) = true := bne_iff_ne.mpr c14; have H' := am H; clear H; have p259 : 0 ≤ (x9_2 : Int) := of_decide_eq_true (by assumption); have q259 : x9_2 < (l0.length : Int) := of_decide_eq_true (by assumption); obtain ⟨ad259, e259, hx259_0, hx259_1, hx259_2⟩ := at_T31 HR0.out x9_2 p259 q259; cases e259; replace hx259_0 := (HB.out.cell (wB w _ hx259_0)).trans hx259_0; replace hx259_1 := (HB.out.cell (wB w _ hx259_1)).trans hx259_1; replace hx259_2 := (HB.out.cell (wB w _ hx259_2)).trans hx259_2; replace p259 := eq_true p259; replace q259 := eq_true q259; go_wp2_with (first | ((with_reducible refine gate_callee (f := 43) rfl ?_); refine gL (some 39) Tryd.func43 #[.string ((rd_T31 l0 x9_2).f0)] ?_; (with_reducible refine (hogsheadref1_Parent.calls k2 ((rd_T31 l0 x9_2).f0) t260 t261 _ A13.out).mono ?_); rintro e w58 ⟨rfl, hb⟩; refine ⟨_, rfl, ?_⟩; replace HO_8 := am (Kd.R_below (rz HO_8.out) hb); replace BK258 := am (blk_below (g := gb258) (o := .cells #[.string t254, .int .i64 t255, .string t256] 31 (0, 0)) (bk BK258.out) hb); replace HB := bw hb))
         go_roundg k2
         case measure => have := HJ3.out; have := HK2.out; omega
         case rel => exact ⟨(x8_2), (wrap64 (x9_2 + 1)), (by first | rfl | (simp; done) | (simp [*]; done)), H', ⟨by have := HJ3.out; have := HK2.out; omega⟩, ⟨rz HO_8.out⟩, ⟨bk BK258.out⟩, ⟨bq⟩⟩
       ·rw [if_neg c12] at H
        exact absurd H (by simp)
      ·rw [if_neg c11] at H
       have c11b0 : decide (x9_2 < (l0.length : Int)) = false := decide_eq_false c11; clear c11; simp only [Option.some.injEq, Prod.mk.injEq] at H
       obtain ⟨rfl, rfl⟩ := H; go_wp2
       go_ret2; exact ⟨_, by first | rfl | (simp [eN, eS] <;> rfl) | (simp [*, eN, eS] <;> rfl), by (with_reducible repeat (first | apply rA | apply rN | apply rD)); exact HO_8.out, bq⟩

end Go.Proofs.YtkloomnkpfaijaaDoor.P
