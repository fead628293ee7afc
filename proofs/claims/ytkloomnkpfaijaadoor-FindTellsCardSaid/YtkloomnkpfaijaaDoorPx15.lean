/- Laid by a program of this session (wip/pr), after the printer of the kit: the functions that a statement reaches as plain Lean functions, and that the calls of the machine come to them. No condition. -/
import Derived.Test.YtkloomnkpfaijaaDoorPx0
import Derived.Test.YtkloomnkpfaijaaDoorPx10
import Derived.Test.YtkloomnkpfaijaaDoorPx14
namespace Go.Proofs.YtkloomnkpfaijaaDoor.P
open Go.RowKit Go.Proofs.YtkloomnkpfaijaaDoorX Go.Proofs.YtkloomnkpfaijaaDoorW.PrintWords Go.Proofs.YtkloomnkpfaijaaDoorW.PrintLast Go.Proofs.YtkloomnkpfaijaaDoorW.PrintMore
attribute [local go_sem] max2_int min2_int max_two min_two
set_option linter.unusedVariables false
set_option linter.unusedSimpArgs false

/-! ### hogsheadref3_Lookup: function 20 -/
def hogsheadref3_Lookup.l0 : Nat → List (S31) → ByteArray → Int → Option (ByteArray × Int × ByteArray × Bool)
 | 0, _, _, _ => none
 | k + 1, x0, x1, x6 => if x6 < (x0.length : Int) then (if 0 ≤ x6 then (if ((rd_T31 x0 x6).f0).toList = x1.toList then (some ((rd_T31 x0 x6).f0, (rd_T31 x0 x6).f1, (rd_T31 x0 x6).f2, true)) else (hogsheadref3_Lookup.l0 k x0 x1 (wrap64 (x6 + 1)))) else (none)) else (some ((⟨#[]⟩ : ByteArray), 0, (⟨#[]⟩ : ByteArray), false))
def hogsheadref3_Lookup.f (k : Nat) (l0 : List (S31)) (a1 : ByteArray) : Option (ByteArray × Int × ByteArray × Bool) := (hogsheadref2_May.f k l0).bind fun t247 => (if t247 = true then (hogsheadref3_Lookup.l0 k l0 a1 0) else (some ((⟨#[]⟩ : ByteArray), 0, (⟨#[]⟩ : ByteArray), false)))
theorem hogsheadref3_Lookup.mono_l : ∀ k, (∀ y0 y1 y2, LeO (hogsheadref3_Lookup.l0 k y0 y1 y2) (hogsheadref3_Lookup.l0 (k + 1) y0 y1 y2))
 | 0 => fun _ _ _ r h => by simp [hogsheadref3_Lookup.l0] at h
 | k + 1 => by
  have ih0 := hogsheadref3_Lookup.mono_l k
  ·intro y0 y1 y2
   unfold hogsheadref3_Lookup.l0
   repeat' with_reducible first | exact ih0 _ _ _ | exact hogsheadref2_May.mono _ _ | exact LeO.refl _ | exact LeO.none _ | refine LeO.ite ?_ ?_ | refine LeO.bind ?_ (fun _ => ?_)
theorem hogsheadref3_Lookup.mono : ∀ a0 a1 k, LeO (hogsheadref3_Lookup.f k a0 a1) (hogsheadref3_Lookup.f (k + 1) a0 a1) := by
 intro a0 a1 k; have ih0 := hogsheadref3_Lookup.mono_l k; unfold hogsheadref3_Lookup.f
 repeat' with_reducible first | exact ih0 _ _ _ | exact hogsheadref2_May.mono _ _ | exact LeO.refl _ | exact LeO.none _ | refine LeO.ite ?_ ?_ | refine LeO.bind ?_ (fun _ => ?_)
set_option maxHeartbeats 8000000 in
set_option maxRecDepth 100000 in
theorem hogsheadref3_Lookup.calls (k : Nat) (A0 : Option Addr) (c0 : Nat) (l0 : List (S31)) (a1 : ByteArray) (r1 : ByteArray) (r2 : Int) (r3 : ByteArray) (r4 : Bool) (w : World) (hr0 : Kd.C k31 w A0 l0.length l0) (hc0 : l0.length ≤ c0) (h : hogsheadref3_Lookup.f k l0 a1 = some (r1, r2, r3, r4)) :
  Calls Tryd.prog 20 #[.slice A0 l0.length c0, .string a1] w fun e w' => e = .returned (.tuple #[.agg #[.string r1, .int .i64 r2, .string r3], .bool r4]) ∧ Below w.heap.size w w' := by
 have hu31 := Tryd.underlying31; have HR0 := am hr0; have HC0 := am hc0; clear hr0 hc0; have HB := am (Below.refl w.heap.size w); have H : ((hogsheadref2_May.f k l0).bind fun t247 => (if t247 = true then (hogsheadref3_Lookup.l0 k l0 a1 0) else (some ((⟨#[]⟩ : ByteArray), 0, (⟨#[]⟩ : ByteArray), false)))) = some (r1, r2, r3, r4) := h; clear h; refine oR H ?_; clear H; intro t247 A3 H; by_cases c4 : t247 = true
 ·subst c4
  have H1 : (hogsheadref3_Lookup.l0 k l0 a1 0) = some (r1, r2, r3, r4) := by rw [if_pos rfl] at H; exact H
  clear H; have H := H1; clear H1; have H' := am H; clear H; go_enter Tryd.func20, Tryd.ntmps20; go_wp2_with (first | ((with_reducible refine gate_dst (N := 4) rfl ?_); refine bx 4 #[.string (⟨#[]⟩ : ByteArray), .int .i64 0, .string (⟨#[]⟩ : ByteArray)] 31 ?_; intro gb246 hg w5 hbox hb; have BK246 := am (hbox); have GW246 := gz hg; have GE246 := gz hg; replace HB := bs hb; clear hb hbox hg) | ((with_reducible refine gate_callee (f := 42) rfl ?_); refine gL (some 8) Tryd.func42 #[.slice A0 l0.length c0] ?_; (with_reducible refine (hogsheadref2_May.calls k _ _ l0 true _ ?side1 ?side2 A3.out).mono ?_); (case side1 => exact cz (Kd.C_below HR0.out HB.out)); (case side2 => exact HC0.out); rintro e w6 ⟨rfl, hb⟩; refine ⟨_, rfl, ?_⟩; replace BK246 := am (blk_below (g := gb246) (o := .cells #[.string (⟨#[]⟩ : ByteArray), .int .i64 0, .string (⟨#[]⟩ : ByteArray)] 31 (0, 0)) (bk BK246.out) hb); replace HB := bw hb))
  go_loopg [6] k (fun kq v6 w' => ∃ (x6_1 : Int) (x247000_1 : ByteArray) (x247001_1 : Int) (x247002_1 : ByteArray), v6 = .int .i64 x6_1 ∧ Aside0 (hogsheadref3_Lookup.l0 kq l0 a1 x6_1 = some (r1, r2, r3, r4)) ∧ Aside0 (kq ≤ k) ∧ Aside0 (w'.heap[gb246]? = some (.cells #[.string x247000_1, .int .i64 x247001_1, .string x247002_1] 31 (0, 0))) ∧ Aside0 (Below w.heap.size w w'))
  case atStart => exact ⟨(0), ((⟨#[]⟩ : ByteArray)), (0), ((⟨#[]⟩ : ByteArray)), (by first | rfl | (simp; done) | (simp [*]; done)), H', ⟨Nat.le_refl _⟩, ⟨bk BK246.out⟩, ⟨bq⟩⟩
  case round =>
   clear H'; (try clear c2); (try clear p2); (try clear c4); obtain ⟨x6_1, x247000_1, x247001_1, x247002_1, rfl, HA, HK1, BK246, HB⟩ := hrel; cases gk with
   | zero => exact absurd HA.out (by simp [hogsheadref3_Lookup.l0])
   | succ k1 =>
    have H := HA.out; clear HA; simp only [hogsheadref3_Lookup.l0] at H
    by_cases c7 : x6_1 < (l0.length : Int)
    ·rw [if_pos c7] at H
     have c7b0 : decide (x6_1 < (l0.length : Int)) = true := decide_eq_true c7; clear c7; by_cases c8 : 0 ≤ x6_1
     ·rw [if_pos c8] at H
      have c8b0 : decide (0 ≤ x6_1) = true := decide_eq_true c8; clear c8; by_cases c9 : ((rd_T31 l0 x6_1).f0).toList = a1.toList
      ·rw [if_pos c9] at H
       have c9b0 : (((rd_T31 l0 x6_1).f0).toList == a1.toList) = true := beq_iff_eq.mpr c9; have c9b1 : (((rd_T31 l0 x6_1).f0).toList != a1.toList) = false := bne_eq_false_iff_eq.mpr c9; clear c9; simp only [Option.some.injEq, Prod.mk.injEq] at H
       obtain ⟨rfl, rfl, rfl, rfl⟩ := H; have p248 : 0 ≤ (x6_1 : Int) := of_decide_eq_true (by assumption); have q248 : x6_1 < (l0.length : Int) := of_decide_eq_true (by assumption); obtain ⟨ad248, e248, hx248_0, hx248_1, hx248_2⟩ := at_T31 HR0.out x6_1 p248 q248; cases e248; replace hx248_0 := (HB.out.cell (wB w _ hx248_0)).trans hx248_0; replace hx248_1 := (HB.out.cell (wB w _ hx248_1)).trans hx248_1; replace hx248_2 := (HB.out.cell (wB w _ hx248_2)).trans hx248_2; replace p248 := eq_true p248; replace q248 := eq_true q248; have p249 : 0 ≤ (x6_1 : Int) := of_decide_eq_true (by assumption); have q249 : x6_1 < (l0.length : Int) := of_decide_eq_true (by assumption); obtain ⟨ad249, e249, hx249_0, hx249_1, hx249_2⟩ := at_T31 HR0.out x6_1 p249 q249; obtain rfl : ad248 = ad249 := (by injection e249); replace hx249_0 := (HB.out.cell (wB w _ hx249_0)).trans hx249_0; replace hx249_1 := (HB.out.cell (wB w _ hx249_1)).trans hx249_1; replace hx249_2 := (HB.out.cell (wB w _ hx249_2)).trans hx249_2; replace p249 := eq_true p249; replace q249 := eq_true q249; have hcz10_0 : wr.cell? ⟨gb246, 0, none⟩ = some (.string x247000_1) := (blk_cell BK246.out 0).trans rfl; have hcz10_1 : wr.cell? ⟨gb246, 1, none⟩ = some (.int .i64 x247001_1) := (blk_cell BK246.out 1).trans rfl
       have hcz10_2 : wr.cell? ⟨gb246, 2, none⟩ = some (.string x247002_1) := (blk_cell BK246.out 2).trans rfl; obtain ⟨hfz10_0, hfz10_1, hfz10_2⟩ := fq3 BK246.out; go_wp2
       refine bodyPost_ret (results_ct rfl _ _ gb246 31 #[.string ((rd_T31 l0 x6_1).f0), .int .i64 ((rd_T31 l0 x6_1).f1), .string ((rd_T31 l0 x6_1).f2)] (0, 0) _ rfl (by (with_reducible repeat (first | refine kN ?_ _ | refine kD ?_ | refine kA ?_ _)); refine blk_put (cs := #[.string ((rd_T31 l0 x6_1).f0), .int .i64 ((rd_T31 l0 x6_1).f1), .string x247002_1]) ?_ 2 _ rfl; (with_reducible repeat (first | refine kN ?_ _ | refine kD ?_ | refine kA ?_ _)); refine blk_put (cs := #[.string ((rd_T31 l0 x6_1).f0), .int .i64 x247001_1, .string x247002_1]) ?_ 1 _ rfl; (with_reducible repeat (first | refine kN ?_ _ | refine kD ?_ | refine kA ?_ _)); refine blk_put (cs := #[.string x247000_1, .int .i64 x247001_1, .string x247002_1]) ?_ 0 _ rfl; (with_reducible repeat (first | refine kN ?_ _ | refine kD ?_ | refine kA ?_ _)); exact BK246.out) Tryd.underlying31 rfl (by kernel_rfl)) rfl ?_
       exact ⟨ez, bq⟩
      ·rw [if_neg c9] at H
       have c9b0 : (((rd_T31 l0 x6_1).f0).toList == a1.toList) = false := beq_eq_false_iff_ne.mpr c9; have c9b1 : (((rd_T31 l0 x6_1).f0).toList != a1.toList) = true := bne_iff_ne.mpr c9; have H' := am H; clear H; have p248 : 0 ≤ (x6_1 : Int) := of_decide_eq_true (by assumption); have q248 : x6_1 < (l0.length : Int) := of_decide_eq_true (by assumption); obtain ⟨ad248, e248, hx248_0, hx248_1, hx248_2⟩ := at_T31 HR0.out x6_1 p248 q248; cases e248; replace hx248_0 := (HB.out.cell (wB w _ hx248_0)).trans hx248_0; replace hx248_1 := (HB.out.cell (wB w _ hx248_1)).trans hx248_1; replace hx248_2 := (HB.out.cell (wB w _ hx248_2)).trans hx248_2; replace p248 := eq_true p248; replace q248 := eq_true q248; go_wp2
       go_roundg k1
       case measure => have := HK1.out; omega
       case rel => exact ⟨(wrap64 (x6_1 + 1)), (x247000_1), (x247001_1), (x247002_1), (by first | rfl | (simp; done) | (simp [*]; done)), H', ⟨by have := HK1.out; omega⟩, ⟨bk BK246.out⟩, ⟨bq⟩⟩
     ·rw [if_neg c8] at H
      exact absurd H (by simp)
    ·rw [if_neg c7] at H
     have c7b0 : decide (x6_1 < (l0.length : Int)) = false := decide_eq_false c7; clear c7; simp only [Option.some.injEq, Prod.mk.injEq] at H
     obtain ⟨rfl, rfl, rfl, rfl⟩ := H; obtain ⟨hcz11_0, hcz11_1, hcz11_2⟩ := cq3 BK246.out; obtain ⟨hfz11_0, hfz11_1, hfz11_2⟩ := fq3 BK246.out; go_wp2
     refine bodyPost_ret (results_ct rfl _ _ gb246 31 #[.string (⟨#[]⟩ : ByteArray), .int .i64 0, .string (⟨#[]⟩ : ByteArray)] (0, 0) _ rfl (by (with_reducible repeat (first | refine kN ?_ _ | refine kD ?_ | refine kA ?_ _)); refine blk_put (cs := #[.string (⟨#[]⟩ : ByteArray), .int .i64 0, .string x247002_1]) ?_ 2 _ rfl; (with_reducible repeat (first | refine kN ?_ _ | refine kD ?_ | refine kA ?_ _)); refine blk_put (cs := #[.string (⟨#[]⟩ : ByteArray), .int .i64 x247001_1, .string x247002_1]) ?_ 1 _ rfl; (with_reducible repeat (first | refine kN ?_ _ | refine kD ?_ | refine kA ?_ _)); refine blk_put (cs := #[.string x247000_1, .int .i64 x247001_1, .string x247002_1]) ?_ 0 _ rfl; (with_reducible repeat (first | refine kN ?_ _ | refine kD ?_ | refine kA ?_ _)); exact BK246.out) Tryd.underlying31 rfl (by kernel_rfl)) rfl ?_
     exact ⟨ez, bq⟩
 ·replace c4 := Bool.eq_false_iff.mpr c4
  subst c4; have H1 : (some ((⟨#[]⟩ : ByteArray), 0, (⟨#[]⟩ : ByteArray), false)) = some (r1, r2, r3, r4) := by rw [if_neg (show ¬ (false = true) by decide)] at H; exact H
  clear H; have H := H1; clear H1; simp only [Option.some.injEq, Prod.mk.injEq] at H
  obtain ⟨rfl, rfl, rfl, rfl⟩ := H; go_enter Tryd.func20, Tryd.ntmps20; go_wp2_with (first | ((with_reducible refine gate_dst (N := 4) rfl ?_); refine bx 4 #[.string (⟨#[]⟩ : ByteArray), .int .i64 0, .string (⟨#[]⟩ : ByteArray)] 31 ?_; intro gb246 hg w12 hbox hb; have BK246 := am (hbox); have GW246 := gz hg; have GE246 := gz hg; replace HB := bs hb; clear hb hbox hg) | ((with_reducible refine gate_callee (f := 42) rfl ?_); refine gL (some 8) Tryd.func42 #[.slice A0 l0.length c0] ?_; (with_reducible refine (hogsheadref2_May.calls k _ _ l0 false _ ?side1 ?side2 A3.out).mono ?_); (case side1 => exact cz (Kd.C_below HR0.out HB.out)); (case side2 => exact HC0.out); rintro e w13 ⟨rfl, hb⟩; refine ⟨_, rfl, ?_⟩; replace BK246 := am (blk_below (g := gb246) (o := .cells #[.string (⟨#[]⟩ : ByteArray), .int .i64 0, .string (⟨#[]⟩ : ByteArray)] 31 (0, 0)) (bk BK246.out) hb); replace HB := bw hb; obtain ⟨hcz14_0, hcz14_1, hcz14_2⟩ := cq3 BK246.out; obtain ⟨hfz14_0, hfz14_1, hfz14_2⟩ := fq3 BK246.out))
  refine bodyPost_ret (results_ct rfl _ _ gb246 31 #[.string (⟨#[]⟩ : ByteArray), .int .i64 0, .string (⟨#[]⟩ : ByteArray)] (0, 0) _ rfl (by (with_reducible repeat (first | refine kN ?_ _ | refine kD ?_ | refine kA ?_ _)); refine blk_put (cs := #[.string (⟨#[]⟩ : ByteArray), .int .i64 0, .string (⟨#[]⟩ : ByteArray)]) ?_ 2 _ rfl; (with_reducible repeat (first | refine kN ?_ _ | refine kD ?_ | refine kA ?_ _)); refine blk_put (cs := #[.string (⟨#[]⟩ : ByteArray), .int .i64 0, .string (⟨#[]⟩ : ByteArray)]) ?_ 1 _ rfl; (with_reducible repeat (first | refine kN ?_ _ | refine kD ?_ | refine kA ?_ _)); refine blk_put (cs := #[.string (⟨#[]⟩ : ByteArray), .int .i64 0, .string (⟨#[]⟩ : ByteArray)]) ?_ 0 _ rfl; (with_reducible repeat (first | refine kN ?_ _ | refine kD ?_ | refine kA ?_ _)); exact BK246.out) Tryd.underlying31 rfl (by kernel_rfl)) rfl ?_
  exact ⟨ez, bq⟩

/-! ### hogsheadref1_Base: function 44 -/
def hogsheadref1_Base.f (k : Nat) (a0 : ByteArray) : Option (ByteArray) := (hogsheadref1_Split.f k a0).bind fun t250 => (if (t250.length : Int) = 0 then (some (⟨#[]⟩ : ByteArray)) else (if 0 ≤ (wrap64 ((t250.length : Int) - 1)) then (if (wrap64 ((t250.length : Int) - 1)) < (t250.length : Int) then (some (rdOf ByteArray.empty t250 (wrap64 ((t250.length : Int) - 1)))) else (none)) else (none)))
theorem hogsheadref1_Base.mono : ∀ a0 k, LeO (hogsheadref1_Base.f k a0) (hogsheadref1_Base.f (k + 1) a0) := by
 intro a0 k; unfold hogsheadref1_Base.f
 repeat' with_reducible first | exact hogsheadref1_Split.mono _ _ | exact LeO.refl _ | exact LeO.none _ | refine LeO.ite ?_ ?_ | refine LeO.bind ?_ (fun _ => ?_)
set_option maxHeartbeats 8000000 in
set_option maxRecDepth 100000 in
theorem hogsheadref1_Base.calls (k : Nat) (a0 : ByteArray) (r : ByteArray) (w : World) (h : hogsheadref1_Base.f k a0 = some r) :
  Calls Tryd.prog 44 #[.string a0] w fun e w' => e = .returned (.string r) ∧ Below w.heap.size w w' := by
 have HB := am (Below.refl w.heap.size w); have H : ((hogsheadref1_Split.f k a0).bind fun t250 => (if (t250.length : Int) = 0 then (some (⟨#[]⟩ : ByteArray)) else (if 0 ≤ (wrap64 ((t250.length : Int) - 1)) then (if (wrap64 ((t250.length : Int) - 1)) < (t250.length : Int) then (some (rdOf ByteArray.empty t250 (wrap64 ((t250.length : Int) - 1)))) else (none)) else (none)))) = some r := h; clear h; refine oR H ?_; clear H; intro t250 A2 H; by_cases c3 : (t250.length : Int) = 0
 ·rw [if_pos c3] at H
  have c3b0 : ((t250.length : Int) == 0) = true := beq_iff_eq.mpr c3; have c3b1 : ((t250.length : Int) != 0) = false := bne_eq_false_iff_eq.mpr c3; clear c3; obtain rfl := Option.some.inj H; go_enter Tryd.func44, Tryd.ntmps44; go_wp2_with (first | ((with_reducible refine gate_callee (f := 64) rfl ?_); refine gL (some 5) Tryd.func64 #[.string a0] ?_; (with_reducible refine (hogsheadref1_Split.calls k a0 t250 _ A2.out).mono ?_); rintro e w4 ⟨v251, rfl, ho0, hb⟩; refine ⟨_, rfl, ?_⟩; have HO252 := am (Kd.R_lower ho0 siz); replace HB := bs hb; (try clear ho0); obtain ⟨Ao5, co5, eo5⟩ := Kd.R_slice HO252.out; subst eo5))
  go_ret; exact ⟨ez, bz⟩
 ·rw [if_neg c3] at H
  have c3b0 : ((t250.length : Int) == 0) = false := beq_eq_false_iff_ne.mpr c3; have c3b1 : ((t250.length : Int) != 0) = true := bne_iff_ne.mpr c3; have c3b2 : ¬ (t250 = []) := fun h_ => c3 (by rw [h_]; rfl)
  obtain ⟨ji6, hji6⟩ : ∃ j_ : Int, (wrap64 ((t250.length : Int) - 1)) = j_ := ⟨_, rfl⟩; replace H : (if 0 ≤ (ji6) then (if (ji6) < (t250.length : Int) then (some (rdOf ByteArray.empty t250 (ji6))) else (none)) else (none)) = some r := by first | (rw [hji6] at H; exact H) | (simp only [hji6] at H ⊢; exact H)
  (try rw [hji6] at A2)
  have hji6w : (IntKind.i64.wrap ((t250.length : Int) - 1)) = ji6 := (i64_w _).trans hji6; by_cases c7 : 0 ≤ (ji6)
  ·rw [if_pos c7] at H
   have c7b0 : decide (0 ≤ (ji6)) = true := decide_eq_true c7; clear c7; by_cases c8 : (ji6) < (t250.length : Int)
   ·rw [if_pos c8] at H
    have c8b0 : decide ((ji6) < (t250.length : Int)) = true := decide_eq_true c8; clear c8; obtain rfl := Option.some.inj H; go_enter Tryd.func44, Tryd.ntmps44; go_wp2_with (first | ((with_reducible refine gate_callee (f := 64) rfl ?_); refine gL (some 5) Tryd.func64 #[.string a0] ?_; (with_reducible refine (hogsheadref1_Split.calls k a0 t250 _ A2.out).mono ?_); rintro e w9 ⟨v251, rfl, ho0, hb⟩; refine ⟨_, rfl, ?_⟩; have HO252 := am (Kd.R_lower ho0 siz); replace HB := bs hb; (try clear ho0); obtain ⟨Ao10, co10, eo10⟩ := Kd.R_slice HO252.out; subst eo10; have p253 : 0 ≤ ((ji6) : Int) := of_decide_eq_true (by assumption); have q253 : (ji6) < (t250.length : Int) := of_decide_eq_true (by assumption); obtain ⟨ad253, e253, hx253_0⟩ := Kd.at_string (Kd.R_reads' HO252.out).2.2 (ji6) p253 q253; cases e253; replace p253 := eq_true p253; replace q253 := eq_true q253))
    go_ret; exact ⟨by first | rfl | (simp [eN, eS] <;> rfl) | (simp only [← hji6]; first | rfl | (simp [eN, eS] <;> rfl)) | (simp [*, eN, eS] <;> rfl), bz⟩
   ·rw [if_neg c8] at H
    exact absurd H (by simp)
  ·rw [if_neg c7] at H
   exact absurd H (by simp)

end Go.Proofs.YtkloomnkpfaijaaDoor.P
