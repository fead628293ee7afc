/- Laid by a program of this session (wip/pr), after the printer of the kit: the functions that a statement reaches as plain Lean functions, and that the calls of the machine come to them. No condition. -/
import Derived.Test.YtkloomnkpfaijaaDoorPx0
import Derived.Test.YtkloomnkpfaijaaDoorPx3
import Derived.Test.YtkloomnkpfaijaaDoorPx4
import Derived.Test.YtkloomnkpfaijaaDoorPx5
namespace Go.Proofs.YtkloomnkpfaijaaDoor.P
open Go.RowKit Go.Proofs.YtkloomnkpfaijaaDoorX Go.Proofs.YtkloomnkpfaijaaDoorW.PrintWords Go.Proofs.YtkloomnkpfaijaaDoorW.PrintLast Go.Proofs.YtkloomnkpfaijaaDoorW.PrintMore
attribute [local go_sem] max2_int min2_int max_two min_two
set_option linter.unusedVariables false
set_option linter.unusedSimpArgs false

/-! ### find_Lookup: function 15 -/
def find_Lookup.f (k : Nat) (l0 : List (S31)) (a1 : ByteArray) : Option (ByteArray × Int × ByteArray × Bool) := (find_at.f k l0 a1).bind fun t127 => (if t127 < 0 then (some ((⟨#[]⟩ : ByteArray), 0, (⟨#[]⟩ : ByteArray), false)) else (if 0 ≤ t127 then (if t127 < (l0.length : Int) then (some ((rd_T31 l0 t127).f0, (rd_T31 l0 t127).f1, (rd_T31 l0 t127).f2, true)) else (none)) else (none)))
theorem find_Lookup.mono : ∀ a0 a1 k, LeO (find_Lookup.f k a0 a1) (find_Lookup.f (k + 1) a0 a1) := by
 intro a0 a1 k; unfold find_Lookup.f
 repeat' with_reducible first | exact find_at.mono _ _ _ | exact LeO.refl _ | exact LeO.none _ | refine LeO.ite ?_ ?_ | refine LeO.bind ?_ (fun _ => ?_)
set_option maxHeartbeats 8000000 in
set_option maxRecDepth 100000 in
theorem find_Lookup.calls (k : Nat) (A0 : Option Addr) (c0 : Nat) (l0 : List (S31)) (a1 : ByteArray) (r1 : ByteArray) (r2 : Int) (r3 : ByteArray) (r4 : Bool) (w : World) (hr0 : Kd.C k31 w A0 l0.length l0) (hc0 : l0.length ≤ c0) (h : find_Lookup.f k l0 a1 = some (r1, r2, r3, r4)) :
  Calls Tryd.prog 15 #[.slice A0 l0.length c0, .string a1] w fun e w' => e = .returned (.tuple #[.agg #[.string r1, .int .i64 r2, .string r3], .bool r4]) ∧ Below w.heap.size w w' := by
 have hu31 := Tryd.underlying31; have HR0 := am hr0; have HC0 := am hc0; clear hr0 hc0; have HB := am (Below.refl w.heap.size w); have H : ((find_at.f k l0 a1).bind fun t127 => (if t127 < 0 then (some ((⟨#[]⟩ : ByteArray), 0, (⟨#[]⟩ : ByteArray), false)) else (if 0 ≤ t127 then (if t127 < (l0.length : Int) then (some ((rd_T31 l0 t127).f0, (rd_T31 l0 t127).f1, (rd_T31 l0 t127).f2, true)) else (none)) else (none)))) = some (r1, r2, r3, r4) := h; clear h; refine oR H ?_; clear H; intro t127 A3 H; by_cases c4 : t127 < 0
 ·rw [if_pos c4] at H
  have c4b0 : decide (t127 < 0) = true := decide_eq_true c4; clear c4; simp only [Option.some.injEq, Prod.mk.injEq] at H
  obtain ⟨rfl, rfl, rfl, rfl⟩ := H; go_enter Tryd.func15, Tryd.ntmps15; go_wp2_with (first | ((with_reducible refine gate_dst (N := 4) rfl ?_); refine bx 4 #[.string (⟨#[]⟩ : ByteArray), .int .i64 0, .string (⟨#[]⟩ : ByteArray)] 31 ?_; intro gb126 hg w5 hbox hb; have BK126 := am (hbox); have GW126 := gz hg; have GE126 := gz hg; replace HB := bs hb; clear hb hbox hg) | ((with_reducible refine gate_callee (f := 38) rfl ?_); refine gL (some 9) Tryd.func38 #[.slice A0 l0.length c0, .string a1] ?_; (with_reducible refine (find_at.calls k _ _ l0 a1 t127 _ ?side1 ?side2 A3.out).mono ?_); (case side1 => exact cz (Kd.C_below HR0.out HB.out)); (case side2 => exact HC0.out); rintro e w6 ⟨rfl, hb⟩; refine ⟨_, rfl, ?_⟩; replace BK126 := am (blk_below (g := gb126) (o := .cells #[.string (⟨#[]⟩ : ByteArray), .int .i64 0, .string (⟨#[]⟩ : ByteArray)] 31 (0, 0)) (bk BK126.out) hb); replace HB := bw hb; obtain ⟨hcz7_0, hcz7_1, hcz7_2⟩ := cq3 BK126.out; obtain ⟨hfz7_0, hfz7_1, hfz7_2⟩ := fq3 BK126.out))
  refine bodyPost_ret (results_ct rfl _ _ gb126 31 #[.string (⟨#[]⟩ : ByteArray), .int .i64 0, .string (⟨#[]⟩ : ByteArray)] (0, 0) _ rfl (by (with_reducible repeat (first | refine kN ?_ _ | refine kD ?_ | refine kA ?_ _)); refine blk_put (cs := #[.string (⟨#[]⟩ : ByteArray), .int .i64 0, .string (⟨#[]⟩ : ByteArray)]) ?_ 2 _ rfl; (with_reducible repeat (first | refine kN ?_ _ | refine kD ?_ | refine kA ?_ _)); refine blk_put (cs := #[.string (⟨#[]⟩ : ByteArray), .int .i64 0, .string (⟨#[]⟩ : ByteArray)]) ?_ 1 _ rfl; (with_reducible repeat (first | refine kN ?_ _ | refine kD ?_ | refine kA ?_ _)); refine blk_put (cs := #[.string (⟨#[]⟩ : ByteArray), .int .i64 0, .string (⟨#[]⟩ : ByteArray)]) ?_ 0 _ rfl; (with_reducible repeat (first | refine kN ?_ _ | refine kD ?_ | refine kA ?_ _)); exact BK126.out) Tryd.underlying31 rfl (by kernel_rfl)) rfl ?_
  exact ⟨ez, bq⟩
 ·rw [if_neg c4] at H
  have c4b0 : decide (t127 < 0) = false := decide_eq_false c4; clear c4; by_cases c8 : 0 ≤ t127
  ·rw [if_pos c8] at H
   have c8b0 : decide (0 ≤ t127) = true := decide_eq_true c8; clear c8; by_cases c9 : t127 < (l0.length : Int)
   ·rw [if_pos c9] at H
    have c9b0 : decide (t127 < (l0.length : Int)) = true := decide_eq_true c9; clear c9; simp only [Option.some.injEq, Prod.mk.injEq] at H
    obtain ⟨rfl, rfl, rfl, rfl⟩ := H; go_enter Tryd.func15, Tryd.ntmps15; go_wp2_with (first | ((with_reducible refine gate_dst (N := 4) rfl ?_); refine bx 4 #[.string (⟨#[]⟩ : ByteArray), .int .i64 0, .string (⟨#[]⟩ : ByteArray)] 31 ?_; intro gb126 hg w10 hbox hb; have BK126 := am (hbox); have GW126 := gz hg; have GE126 := gz hg; replace HB := bs hb; clear hb hbox hg) | ((with_reducible refine gate_callee (f := 38) rfl ?_); refine gL (some 9) Tryd.func38 #[.slice A0 l0.length c0, .string a1] ?_; (with_reducible refine (find_at.calls k _ _ l0 a1 t127 _ ?side1 ?side2 A3.out).mono ?_); (case side1 => exact cz (Kd.C_below HR0.out HB.out)); (case side2 => exact HC0.out); rintro e w11 ⟨rfl, hb⟩; refine ⟨_, rfl, ?_⟩; replace BK126 := am (blk_below (g := gb126) (o := .cells #[.string (⟨#[]⟩ : ByteArray), .int .i64 0, .string (⟨#[]⟩ : ByteArray)] 31 (0, 0)) (bk BK126.out) hb); replace HB := bw hb; have p128 : 0 ≤ (t127 : Int) := of_decide_eq_true (by assumption); have q128 : t127 < (l0.length : Int) := of_decide_eq_true (by assumption); obtain ⟨ad128, e128, hx128_0, hx128_1, hx128_2⟩ := at_T31 HR0.out t127 p128 q128; cases e128; replace hx128_0 := (HB.out.cell (wB w _ hx128_0)).trans hx128_0; replace hx128_1 := (HB.out.cell (wB w _ hx128_1)).trans hx128_1; replace hx128_2 := (HB.out.cell (wB w _ hx128_2)).trans hx128_2; replace p128 := eq_true p128; replace q128 := eq_true q128; obtain ⟨hcz12_0, hcz12_1, hcz12_2⟩ := cq3 BK126.out; obtain ⟨hfz12_0, hfz12_1, hfz12_2⟩ := fq3 BK126.out))
    refine bodyPost_ret (results_ct rfl _ _ gb126 31 #[.string ((rd_T31 l0 t127).f0), .int .i64 ((rd_T31 l0 t127).f1), .string ((rd_T31 l0 t127).f2)] (0, 0) _ rfl (by (with_reducible repeat (first | refine kN ?_ _ | refine kD ?_ | refine kA ?_ _)); refine blk_put (cs := #[.string ((rd_T31 l0 t127).f0), .int .i64 ((rd_T31 l0 t127).f1), .string (⟨#[]⟩ : ByteArray)]) ?_ 2 _ rfl; (with_reducible repeat (first | refine kN ?_ _ | refine kD ?_ | refine kA ?_ _)); refine blk_put (cs := #[.string ((rd_T31 l0 t127).f0), .int .i64 0, .string (⟨#[]⟩ : ByteArray)]) ?_ 1 _ rfl; (with_reducible repeat (first | refine kN ?_ _ | refine kD ?_ | refine kA ?_ _)); refine blk_put (cs := #[.string (⟨#[]⟩ : ByteArray), .int .i64 0, .string (⟨#[]⟩ : ByteArray)]) ?_ 0 _ rfl; (with_reducible repeat (first | refine kN ?_ _ | refine kD ?_ | refine kA ?_ _)); exact BK126.out) Tryd.underlying31 rfl (by kernel_rfl)) rfl ?_
    exact ⟨ez, bq⟩
   ·rw [if_neg c9] at H
    exact absurd H (by simp)
  ·rw [if_neg c8] at H
   exact absurd H (by simp)

/-! ### path_Base: function 32 -/
def path_Base.f (k : Nat) (a0 : ByteArray) : Option (ByteArray) := (path_May.f k a0).bind fun t129 => (if t129 = true then ((strings_LastIndexByte.f k a0 47).bind fun t130 => (if 0 ≤ (wrap64 (t130 + 1)) then (if (wrap64 (t130 + 1)) ≤ (a0.size : Int) then (some (a0.extract ((wrap64 (t130 + 1)) : Int).toNat a0.size)) else (none)) else (none))) else (some (⟨#[]⟩ : ByteArray)))
theorem path_Base.mono : ∀ a0 k, LeO (path_Base.f k a0) (path_Base.f (k + 1) a0) := by
 intro a0 k; unfold path_Base.f
 repeat' with_reducible first | exact path_May.mono _ _ | exact strings_LastIndexByte.mono _ _ _ | exact LeO.refl _ | exact LeO.none _ | refine LeO.ite ?_ ?_ | refine LeO.bind ?_ (fun _ => ?_)
set_option maxHeartbeats 8000000 in
set_option maxRecDepth 100000 in
theorem path_Base.calls (k : Nat) (a0 : ByteArray) (r : ByteArray) (w : World) (h : path_Base.f k a0 = some r) :
  Calls Tryd.prog 32 #[.string a0] w fun e w' => e = .returned (.string r) ∧ Below w.heap.size w w' := by
 have HB := am (Below.refl w.heap.size w); have H : ((path_May.f k a0).bind fun t129 => (if t129 = true then ((strings_LastIndexByte.f k a0 47).bind fun t130 => (if 0 ≤ (wrap64 (t130 + 1)) then (if (wrap64 (t130 + 1)) ≤ (a0.size : Int) then (some (a0.extract ((wrap64 (t130 + 1)) : Int).toNat a0.size)) else (none)) else (none))) else (some (⟨#[]⟩ : ByteArray)))) = some r := h; clear h; refine oR H ?_; clear H; intro t129 A2 H; by_cases c3 : t129 = true
 ·subst c3
  have H1 : ((strings_LastIndexByte.f k a0 47).bind fun t130 => (if 0 ≤ (wrap64 (t130 + 1)) then (if (wrap64 (t130 + 1)) ≤ (a0.size : Int) then (some (a0.extract ((wrap64 (t130 + 1)) : Int).toNat a0.size)) else (none)) else (none))) = some r := by rw [if_pos rfl] at H; exact H
  clear H; have H := H1; clear H1; refine oR H ?_; clear H; intro t130 A4 H; obtain ⟨ji5, hji5⟩ : ∃ j_ : Int, (wrap64 (t130 + 1)) = j_ := ⟨_, rfl⟩; replace H : (if 0 ≤ (ji5) then (if (ji5) ≤ (a0.size : Int) then (some (a0.extract ((ji5) : Int).toNat a0.size)) else (none)) else (none)) = some r := by first | (rw [hji5] at H; exact H) | (simp only [hji5] at H ⊢; exact H)
  (try rw [hji5] at A2)
  (try rw [hji5] at A4)
  have hji5w : (IntKind.i64.wrap (t130 + 1)) = ji5 := (i64_w _).trans hji5; by_cases c6 : 0 ≤ (ji5)
  ·rw [if_pos c6] at H
   have c6b0 := eq_true c6; have c6b1 : decide (0 ≤ (ji5)) = true := decide_eq_true c6; clear c6; by_cases c7 : (ji5) ≤ (a0.size : Int)
   ·rw [if_pos c7] at H
    have c7b0 := eq_true c7; have c7b1 : decide ((ji5) ≤ (a0.size : Int)) = true := decide_eq_true c7; clear c7; obtain rfl := Option.some.inj H; go_enter Tryd.func32, Tryd.ntmps32; go_wp2_with (first | ((with_reducible refine gate_callee (f := 33) rfl ?_); refine gL (some 4) Tryd.func33 #[.string a0] ?_; (with_reducible refine (path_May.calls k a0 true _ A2.out).mono ?_); rintro e w8 ⟨rfl, hb⟩; refine ⟨_, rfl, ?_⟩; replace HB := bs hb) | ((with_reducible refine gate_callee (f := 34) rfl ?_); refine gL (some 8) Tryd.func34 #[.string a0, .int .u8 47] ?_; (with_reducible refine (strings_LastIndexByte.calls k a0 47 t130 _ A4.out).mono ?_); rintro e w' ⟨rfl, ⟨nd, rfl⟩⟩; refine ⟨_, rfl, ?_⟩))
    go_ret; exact ⟨by first | rfl | (simp [eN, eS] <;> rfl) | (simp only [← hji5]; first | rfl | (simp [eN, eS] <;> rfl)) | (simp [*, eN, eS] <;> rfl), bz⟩
   ·rw [if_neg c7] at H
    exact absurd H (by simp)
  ·rw [if_neg c6] at H
   exact absurd H (by simp)
 ·replace c3 := Bool.eq_false_iff.mpr c3
  subst c3; have H1 : (some (⟨#[]⟩ : ByteArray)) = some r := by rw [if_neg (show ¬ (false = true) by decide)] at H; exact H
  clear H; have H := H1; clear H1; obtain rfl := Option.some.inj H; go_enter Tryd.func32, Tryd.ntmps32; go_wp2_with (first | ((with_reducible refine gate_callee (f := 33) rfl ?_); refine gL (some 4) Tryd.func33 #[.string a0] ?_; (with_reducible refine (path_May.calls k a0 false _ A2.out).mono ?_); rintro e w9 ⟨rfl, hb⟩; refine ⟨_, rfl, ?_⟩; replace HB := bs hb))
  go_ret; exact ⟨ez, bz⟩

/-! ### find_List: function 11 -/
mutual
def find_List.j0 : Nat → List (S31) → ByteArray → Bool → Option (List ByteArray × Bool)
 | 0, _, _, _ => none
 | k + 1, x0, x1, x23 => if x23 = true then (some (([] : List ByteArray), false)) else ((find_FilterChild.f k x0 x1).bind fun t136 => (find_List.l0 k ([] : List ByteArray) t136 (t136.length : Int) 0))
def find_List.l0 : Nat → List ByteArray → List (S31) → Int → Int → Option (List ByteArray × Bool)
 | 0, _, _, _, _ => none
 | k + 1, x8, x27, x28, x29 => if x29 < x28 then (if 0 ≤ x29 then (if x29 < (x27.length : Int) then ((path_Base.f k ((rd_T31 x27 x29).f0)).bind fun t141 => (if x8.length < 8796093022208 then (find_List.l0 k (x8 ++ [t141]) x27 x28 (wrap64 (x29 + 1))) else (none))) else (none)) else (none)) else (some (x8, true))
end
def find_List.f (k : Nat) (l0 : List (S31)) (a1 : ByteArray) : Option (List ByteArray × Bool) := (find_Lookup.f k l0 a1).bind fun bt131 => (if bt131.2.2.2 = true then (find_List.j0 k l0 a1 (bt131.2.1 != 1)) else (find_List.j0 k l0 a1 true))
theorem find_List.mono_l : ∀ k, (∀ y0 y1 y2, LeO (find_List.j0 k y0 y1 y2) (find_List.j0 (k + 1) y0 y1 y2)) ∧ (∀ y0 y1 y2 y3, LeO (find_List.l0 k y0 y1 y2 y3) (find_List.l0 (k + 1) y0 y1 y2 y3))
 | 0 => ⟨fun _ _ _ r h => by simp [find_List.j0] at h, fun _ _ _ _ r h => by simp [find_List.l0] at h⟩
 | k + 1 => by
  obtain ⟨ih0, ih1⟩ := find_List.mono_l k; refine ⟨?_, ?_⟩
  ·intro y0 y1 y2
   unfold find_List.j0
   repeat' with_reducible first | exact ih0 _ _ _ | exact ih1 _ _ _ _ | exact find_Lookup.mono _ _ _ | exact find_FilterChild.mono _ _ _ | exact path_Base.mono _ _ | exact LeO.refl _ | exact LeO.none _ | refine LeO.ite ?_ ?_ | refine LeO.bind ?_ (fun _ => ?_)
  ·intro y0 y1 y2 y3
   unfold find_List.l0
   repeat' with_reducible first | exact ih0 _ _ _ | exact ih1 _ _ _ _ | exact find_Lookup.mono _ _ _ | exact find_FilterChild.mono _ _ _ | exact path_Base.mono _ _ | exact LeO.refl _ | exact LeO.none _ | refine LeO.ite ?_ ?_ | refine LeO.bind ?_ (fun _ => ?_)
theorem find_List.mono : ∀ a0 a1 k, LeO (find_List.f k a0 a1) (find_List.f (k + 1) a0 a1) := by
 intro a0 a1 k; obtain ⟨ih0, ih1⟩ := find_List.mono_l k; unfold find_List.f
 repeat' with_reducible first | exact ih0 _ _ _ | exact ih1 _ _ _ _ | exact find_Lookup.mono _ _ _ | exact find_FilterChild.mono _ _ _ | exact path_Base.mono _ _ | exact LeO.refl _ | exact LeO.none _ | refine LeO.ite ?_ ?_ | refine LeO.bind ?_ (fun _ => ?_)
set_option maxHeartbeats 8000000 in
set_option maxRecDepth 100000 in
theorem find_List.calls (k : Nat) (A0 : Option Addr) (c0 : Nat) (l0 : List (S31)) (a1 : ByteArray) (r1 : List ByteArray) (r2 : Bool) (w : World) (hr0 : Kd.C k31 w A0 l0.length l0) (hc0 : l0.length ≤ c0) (h : find_List.f k l0 a1 = some (r1, r2)) :
  Calls Tryd.prog 11 #[.slice A0 l0.length c0, .string a1] w fun e w' => ∃ v0_ : Value, e = .returned (.tuple #[v0_, .bool r2]) ∧ Kd.R Kd.string 9 w' w.heap.size (fun _ => True) v0_ r1 ∧ Below w.heap.size w w' := by
 have hu31 := Tryd.underlying31; have HR0 := am hr0; have HC0 := am hc0; clear hr0 hc0; have HB := am (Below.refl w.heap.size w); have H : ((find_Lookup.f k l0 a1).bind fun bt131 => (if bt131.2.2.2 = true then (find_List.j0 k l0 a1 (bt131.2.1 != 1)) else (find_List.j0 k l0 a1 true))) = some (r1, r2) := h; clear h; replace H := oB H; obtain ⟨⟨t131, t132, t133, t134⟩, A30, H⟩ := H; replace H : (if t134 = true then (find_List.j0 k l0 a1 (t132 != 1)) else (find_List.j0 k l0 a1 true)) = some (r1, r2) := H; have A3 := am A30; clear A30; have HC4 := am H; clear H; go_enter Tryd.func11, Tryd.ntmps11; go_upto_region 2 with (first | ((with_reducible refine gate_callee (f := 15) rfl ?_); refine gL (some 14) Tryd.func15 #[.slice A0 l0.length c0, .string a1] ?_; (with_reducible refine (find_Lookup.calls k _ _ l0 a1 t131 t132 t133 t134 _ ?side1 ?side2 A3.out).mono ?_); (case side1 => exact cz HR0.out); (case side2 => exact HC0.out); rintro e w5 ⟨rfl, hb⟩; refine ⟨_, rfl, ?_⟩; replace HB := bs hb) | ((with_reducible refine gate_dst (N := 6) rfl ?_); refine bx 6 #[.string (⟨#[]⟩ : ByteArray), .int .i64 0, .string (⟨#[]⟩ : ByteArray)] 31 ?_; intro gb135 hg w6 hbox hb; have BK135 := am (hbox); have GW135 := gz hg; have GE135 := gz hg; replace HB := bs hb; clear hb hbox hg; obtain ⟨hcz7_0, hcz7_1, hcz7_2⟩ := cq3 BK135.out; obtain ⟨hfz7_0, hfz7_1, hfz7_2⟩ := fq3 BK135.out))
 (try simp only [Act.put, sA, sB, sC])
 go_cut [23] (fun v23 wc => ∃ (kq : Nat) (x23_3 : Bool), v23 = .bool x23_3 ∧ Aside0 (find_List.j0 kq l0 a1 x23_3 = some (r1, r2)) ∧ Aside0 (kq ≤ k) ∧ Aside0 (wc.heap[gb135]? = some (.cells #[.string t131, .int .i64 t132, .string t133] 31 (0, 0))) ∧ Aside0 (Below w.heap.size w wc))
 case first =>
  have H := HC4.out; clear HC4; by_cases c8 : t134 = true
  ·subst c8
   have H1 : (find_List.j0 k l0 a1 (t132 != 1)) = some (r1, r2) := by rw [if_pos rfl] at H; exact H
   clear H; have H := H1; clear H1; have H' := am H; clear H; obtain ⟨hcz9_0, hcz9_1, hcz9_2⟩ := cq3 BK135.out; obtain ⟨hfz9_0, hfz9_1, hfz9_2⟩ := fq3 BK135.out; go_wp2
   go_meet; case rel => exact ⟨_, ((t132 != 1)), (by first | rfl | (simp; done) | (simp [*]; done)), H', ⟨by first | omega | exact Nat.le_refl _⟩, ⟨by (with_reducible repeat (first | refine kN ?_ _ | refine kD ?_ | refine kA ?_ _)); refine blk_put (cs := #[.string t131, .int .i64 t132, .string (⟨#[]⟩ : ByteArray)]) ?_ 2 _ rfl; (with_reducible repeat (first | refine kN ?_ _ | refine kD ?_ | refine kA ?_ _)); refine blk_put (cs := #[.string t131, .int .i64 0, .string (⟨#[]⟩ : ByteArray)]) ?_ 1 _ rfl; (with_reducible repeat (first | refine kN ?_ _ | refine kD ?_ | refine kA ?_ _)); refine blk_put (cs := #[.string (⟨#[]⟩ : ByteArray), .int .i64 0, .string (⟨#[]⟩ : ByteArray)]) ?_ 0 _ rfl; (with_reducible repeat (first | refine kN ?_ _ | refine kD ?_ | refine kA ?_ _)); exact BK135.out⟩, ⟨bq⟩⟩
  ·replace c8 := Bool.eq_false_iff.mpr c8
   subst c8; have H1 : (find_List.j0 k l0 a1 true) = some (r1, r2) := by rw [if_neg (show ¬ (false = true) by decide)] at H; exact H
   clear H; have H := H1; clear H1; have H' := am H; clear H; go_wp2
   go_meet; case rel => exact ⟨_, (true), (by first | rfl | (simp; done) | (simp [*]; done)), H', ⟨by first | omega | exact Nat.le_refl _⟩, ⟨by (with_reducible repeat (first | refine kN ?_ _ | refine kD ?_ | refine kA ?_ _)); refine blk_put (cs := #[.string t131, .int .i64 t132, .string (⟨#[]⟩ : ByteArray)]) ?_ 2 _ rfl; (with_reducible repeat (first | refine kN ?_ _ | refine kD ?_ | refine kA ?_ _)); refine blk_put (cs := #[.string t131, .int .i64 0, .string (⟨#[]⟩ : ByteArray)]) ?_ 1 _ rfl; (with_reducible repeat (first | refine kN ?_ _ | refine kD ?_ | refine kA ?_ _)); refine blk_put (cs := #[.string (⟨#[]⟩ : ByteArray), .int .i64 0, .string (⟨#[]⟩ : ByteArray)]) ?_ 0 _ rfl; (with_reducible repeat (first | refine kN ?_ _ | refine kD ?_ | refine kA ?_ _)); exact BK135.out⟩, ⟨bq⟩⟩
 case rest =>
  clear HC4; (try clear c1); (try clear p2); (try clear c8); (try clear hcz7_0); (try clear hcz7_1); (try clear hcz7_2); (try clear hcz9_0); (try clear hcz9_1); (try clear hcz9_2); (try clear hfz7_0); (try clear hfz7_1); (try clear hfz7_2); (try clear hfz9_0); (try clear hfz9_1); (try clear hfz9_2); obtain ⟨kq, x23_3, rfl, HA, HJ3, BK135, HB⟩ := hcut; cases kq with
  | zero => exact absurd HA.out (by simp [find_List.j0])
  | succ kj3 =>
   have H := HA.out; clear HA; simp only [find_List.j0] at H
   by_cases c10 : x23_3 = true
   ·subst c10
    have H1 : (some (([] : List ByteArray), false)) = some (r1, r2) := by rw [if_pos rfl] at H; exact H
    clear H; have H := H1; clear H1; simp only [Option.some.injEq, Prod.mk.injEq] at H
    obtain ⟨rfl, rfl⟩ := H; go_wp2
    go_ret2; exact ⟨_, by first | rfl | (simp [eN, eS] <;> rfl) | (simp [*, eN, eS] <;> rfl), by first | exact Kd.R_nil _ _ _ _ _ | exact Kd.N_nil _ _ _ _ _ | exact Kd.V_nil _ _ _ _ _ | exact Kd.Q_nil _ _ _ _ _ | exact Kd.S_nil _ _ _ _ _, bq⟩
   ·replace c10 := Bool.eq_false_iff.mpr c10
    subst c10; have H1 : ((find_FilterChild.f kj3 l0 a1).bind fun t136 => (find_List.l0 kj3 ([] : List ByteArray) t136 (t136.length : Int) 0)) = some (r1, r2) := by rw [if_neg (show ¬ (false = true) by decide)] at H; exact H
    clear H; have H := H1; clear H1; refine oR H ?_; clear H; intro t136 A11 H; have H' := am H; clear H; go_wp2_with (first | ((with_reducible refine gate_callee (f := 30) rfl ?_); refine gL (some 27) Tryd.func30 #[.slice A0 l0.length c0, .func (.func 31) #[.string a1] #[]] ?_; (with_reducible refine (find_FilterChild.calls kj3 _ _ l0 a1 t136 _ ?side1 ?side2 A11.out).mono ?_); (case side1 => exact cz (Kd.C_below HR0.out HB.out)); (case side2 => exact HC0.out); rintro e w12 ⟨v137, rfl, ho0, hb⟩; refine ⟨_, rfl, ?_⟩; have HO138 := am (Kd.R_lower (Kd.R_newB ho0 (g := gb135) (o := .cells #[.string t131, .int .i64 t132, .string t133] 31 (0, 0)) (bk BK135.out)) siq); replace BK135 := am (blk_below (g := gb135) (o := .cells #[.string t131, .int .i64 t132, .string t133] 31 (0, 0)) (bk BK135.out) hb); replace HB := bw hb; (try clear ho0); obtain ⟨Ao13, co13, eo13⟩ := Kd.R_slice HO138.out; subst eo13))
    go_loopg [8, 29] kj3 (fun kq v8 v29 w' => ∃ (x8_2 : List ByteArray) (x29_2 : Int), v29 = .int .i64 x29_2 ∧ Aside0 (find_List.l0 kq x8_2 t136 (t136.length : Int) x29_2 = some (r1, r2)) ∧ Aside0 (kq ≤ kj3) ∧ Aside0 (Kd.R Kd.string 9 w' w.heap.size (fun _ => True) v8 x8_2) ∧ Aside0 (Kd.R k31 31 w' w.heap.size (fun k_ => k_ ≠ gb135) (.slice Ao13 t136.length co13) t136) ∧ Aside0 (w'.heap[gb135]? = some (.cells #[.string t131, .int .i64 t132, .string t133] 31 (0, 0))) ∧ Aside0 (Below w.heap.size w w'))
    case atStart => exact ⟨(([] : List ByteArray)), (0), (by first | rfl | (simp; done) | (simp [*]; done)), H', ⟨Nat.le_refl _⟩, ⟨by first | exact Kd.R_nil _ _ _ _ _ | exact Kd.N_nil _ _ _ _ _ | exact Kd.V_nil _ _ _ _ _ | exact Kd.Q_nil _ _ _ _ _ | exact Kd.S_nil _ _ _ _ _⟩, ⟨rz (Kd.R_mono HO138.out (fun _ hk => hk.2))⟩, ⟨bk BK135.out⟩, ⟨bq⟩⟩
    case round =>
     clear H'; (try clear c1); (try clear p2); (try clear c6); (try clear c8); (try clear c10); (try clear c11); (try clear hcz7_0); (try clear hcz7_1); (try clear hcz7_2); (try clear hcz9_0); (try clear hcz9_1); (try clear hcz9_2); (try clear hfz7_0); (try clear hfz7_1); (try clear hfz7_2); (try clear hfz9_0); (try clear hfz9_1); (try clear hfz9_2); (try clear p2); obtain ⟨x8_2, x29_2, rfl, HA, HK2, HO_8, HO_27, BK135, HB⟩ := hrel; cases gk with
     | zero => exact absurd HA.out (by simp [find_List.l0])
     | succ k2 =>
      have H := HA.out; clear HA; simp only [find_List.l0] at H
      by_cases c14 : x29_2 < (t136.length : Int)
      ·rw [if_pos c14] at H
       have c14b0 : decide (x29_2 < (t136.length : Int)) = true := decide_eq_true c14; clear c14; by_cases c15 : 0 ≤ x29_2
       ·rw [if_pos c15] at H
        have c15b0 : decide (0 ≤ x29_2) = true := decide_eq_true c15; clear c15; by_cases c16 : x29_2 < (t136.length : Int)
        ·rw [if_pos c16] at H
         have c16b0 : decide (x29_2 < (t136.length : Int)) = true := decide_eq_true c16; clear c16; refine oR H ?_; clear H; intro t141 A17 H; by_cases c18 : x8_2.length < 8796093022208
         ·rw [if_pos c18] at H
          have LMc18 := am c18; clear c18; obtain ⟨y142, hy142⟩ : ∃ y_ : List ByteArray, y_ = (x8_2 ++ [t141]) := ⟨_, rfl⟩; try rw [← hy142] at H
          have Ny142 := am hy142; clear hy142; have H' := am H; clear H; have p139 : 0 ≤ (x29_2 : Int) := of_decide_eq_true (by assumption); have q139 : x29_2 < (t136.length : Int) := of_decide_eq_true (by assumption); obtain ⟨ad139, e139, hx139_0, hx139_1, hx139_2⟩ := at_T31 (Kd.R_reads' HO_27.out).2.2 x29_2 p139 q139; cases e139; replace p139 := eq_true p139; replace q139 := eq_true q139; go_wp2_with (first | ((with_reducible refine gate_dst (N := 10) rfl ?_); refine bx 10 #[.string (⟨#[]⟩ : ByteArray), .int .i64 0, .string (⟨#[]⟩ : ByteArray)] 31 ?_; intro gb140 hg w19 hbox hb; replace HO_8 := am (Kd.R_below (rz HO_8.out) hb); replace HO_27 := am (Kd.R_below (Kd.R_elderB (rz HO_27.out) gb140 (Nat.le_of_eq hg.symm)) hb); have BK140 := am (hbox); have GW140 := gq hg; have GE140 := gq hg; replace HB := bw hb; have NB135_140 := am ((by rw [hg]; exact Nat.ne_of_lt (blk_lt (g := gb135) (o := .cells #[.string t131, .int .i64 t132, .string t133] 31 (0, 0)) (bk BK135.out)) : gb135 ≠ gb140)); have NB140_135 := am ((by rw [hg]; exact Nat.ne_of_gt (blk_lt (g := gb135) (o := .cells #[.string t131, .int .i64 t132, .string t133] 31 (0, 0)) (bk BK135.out)) : gb140 ≠ gb135)); replace BK135 := am (blk_below (g := gb135) (o := .cells #[.string t131, .int .i64 t132, .string t133] 31 (0, 0)) (bk BK135.out) hb); clear hb hbox hg; have hnb20 := NB140_135.out; have hnc20 := NB135_140.out; obtain ⟨hcz21_0, hcz21_1, hcz21_2⟩ := cq3 BK140.out; obtain ⟨hfz21_0, hfz21_1, hfz21_2⟩ := fq3 BK140.out) | ((with_reducible refine gate_callee (f := 32) rfl ?_); refine gL (some 36) Tryd.func32 #[.string ((rd_T31 t136 x29_2).f0)] ?_; (with_reducible refine (path_Base.calls k2 ((rd_T31 t136 x29_2).f0) t141 _ A17.out).mono ?_); rintro e w22 ⟨rfl, hb⟩; refine ⟨_, rfl, ?_⟩; replace HO_8 := am (Kd.R_below (rz (Kd.R_mono (Kd.R_far (p := ⟨gb140, 2, none⟩) (Kd.R_far (p := ⟨gb140, 1, none⟩) (Kd.R_far (p := ⟨gb140, 0, none⟩) (Kd.R_types HO_8.out BK140.out (by decide)) (fun _ hk => hk.2) (.string ((rd_T31 t136 x29_2).f0))) (fun _ hk => hk.2) (.int .i64 ((rd_T31 t136 x29_2).f1))) (fun _ hk => hk.2) (.string ((rd_T31 t136 x29_2).f2))) (fun _ h_ => h_.1))) hb); replace HO_27 := am (Kd.R_below (rz (Kd.R_mono (Kd.R_far (p := ⟨gb140, 2, none⟩) (Kd.R_far (p := ⟨gb140, 1, none⟩) (Kd.R_far (p := ⟨gb140, 0, none⟩) (Kd.R_mono HO_27.out (fun k_ hk => (⟨hk, hk.2⟩ : _ ∧ k_ ≠ gb140))) (fun _ hk => hk.2) (.string ((rd_T31 t136 x29_2).f0))) (fun _ hk => hk.2) (.int .i64 ((rd_T31 t136 x29_2).f1))) (fun _ hk => hk.2) (.string ((rd_T31 t136 x29_2).f2))) (fun _ h_ => h_.1))) hb); replace BK135 := am (blk_below (g := gb135) (o := .cells #[.string t131, .int .i64 t132, .string t133] 31 (0, 0)) (by (with_reducible repeat (first | refine kN ?_ _ | refine kD ?_ | refine kA ?_ _)); refine blk_far ?_ NB135_140.out _; (with_reducible repeat (first | refine kN ?_ _ | refine kD ?_ | refine kA ?_ _)); refine blk_far ?_ NB135_140.out _; (with_reducible repeat (first | refine kN ?_ _ | refine kD ?_ | refine kA ?_ _)); refine blk_far ?_ NB135_140.out _; (with_reducible repeat (first | refine kN ?_ _ | refine kD ?_ | refine kA ?_ _)); exact BK135.out) hb); replace BK140 := am (blk_below (g := gb140) (o := .cells #[.string ((rd_T31 t136 x29_2).f0), .int .i64 ((rd_T31 t136 x29_2).f1), .string ((rd_T31 t136 x29_2).f2)] 31 (0, 0)) (by (with_reducible repeat (first | refine kN ?_ _ | refine kD ?_ | refine kA ?_ _)); refine blk_put (cs := #[.string ((rd_T31 t136 x29_2).f0), .int .i64 ((rd_T31 t136 x29_2).f1), .string (⟨#[]⟩ : ByteArray)]) ?_ 2 _ rfl; (with_reducible repeat (first | refine kN ?_ _ | refine kD ?_ | refine kA ?_ _)); refine blk_put (cs := #[.string ((rd_T31 t136 x29_2).f0), .int .i64 0, .string (⟨#[]⟩ : ByteArray)]) ?_ 1 _ rfl; (with_reducible repeat (first | refine kN ?_ _ | refine kD ?_ | refine kA ?_ _)); refine blk_put (cs := #[.string (⟨#[]⟩ : ByteArray), .int .i64 0, .string (⟨#[]⟩ : ByteArray)]) ?_ 0 _ rfl; (with_reducible repeat (first | refine kN ?_ _ | refine kD ?_ | refine kA ?_ _)); exact BK140.out) hb); replace HB := bw hb) | ((with_reducible refine gate_builtin (b := .append) (xs := #[.tmp 33, .tmp 37]) rfl ?_); at_builtin; refine Kd.R_append Kd.string (w0 := w) w.heap.size rfl (.tmp 33) (.tmp 37) 27 9 (.string ⟨#[]⟩) 16 rfl Tryd.underlying27 info9 rfl (by decide) (by omega) u8 x8_2 t141 [.string t141] (fun _ => True) (fun _ => False) rfl rfl ?aP (fun _ hk => hk.elim) ?aF ?aO ?aB ?aS ?aL ?_; (case aP => exact rfl); (case aB => exact bq); (case aF => exact (fun _ _ => trivial)); (case aO => exact (rz HO_8.out)); (case aS => exact siq); (case aL => have := LMc18.out; omega); intro v143 w23 ho hb hg hat; rw [← Ny142.out] at ho; have n0_ := am (Kd.R_over' (rz HO_27.out) (Kd.R_typed (rz HO_8.out)) (by decide) hg); have n1_ := am (blk_grown (g := gb135) (o := .cells #[.string t131, .int .i64 t132, .string t133] 31 (0, 0)) (bk BK135.out) hg (Kd.R_ne HO_8.out BK135.out (by decide))); have n2_ := am (blk_grown (g := gb140) (o := .cells #[.string ((rd_T31 t136 x29_2).f0), .int .i64 ((rd_T31 t136 x29_2).f1), .string ((rd_T31 t136 x29_2).f2)] 31 (0, 0)) (bk BK140.out) hg (Kd.R_ne HO_8.out BK140.out (by decide))); have n3_ := am (hb); have n4_ := am (ho); clear HO_27; clear BK135; clear BK140; clear HB; clear HO_8; have HO_27 := n0_; have BK135 := n1_; have BK140 := n2_; have HB := n3_; have HO144 := n4_; clear n0_ n1_ n2_ n3_ n4_; clear ho hb hg hat))
          go_roundg k2
          case measure => have := HJ3.out; have := HK2.out; omega
          case rel => exact ⟨(y142), (wrap64 (x29_2 + 1)), (by first | rfl | (simp; done) | (simp [*]; done)), H', ⟨by have := HJ3.out; have := HK2.out; omega⟩, ⟨rz HO144.out⟩, ⟨rz (Kd.R_mono HO_27.out (fun _ hk => hk.1))⟩, ⟨bk BK135.out⟩, ⟨bq⟩⟩
         ·rw [if_neg c18] at H
          exact absurd H (by simp)
        ·rw [if_neg c16] at H
         exact absurd H (by simp)
       ·rw [if_neg c15] at H
        exact absurd H (by simp)
      ·rw [if_neg c14] at H
       have c14b0 : decide (x29_2 < (t136.length : Int)) = false := decide_eq_false c14; clear c14; simp only [Option.some.injEq, Prod.mk.injEq] at H
       obtain ⟨rfl, rfl⟩ := H; go_wp2
       go_ret2; exact ⟨_, by first | rfl | (simp [eN, eS] <;> rfl) | (simp [*, eN, eS] <;> rfl), by (with_reducible repeat (first | apply rA | apply rN | apply rD)); exact HO_8.out, bq⟩

end Go.Proofs.YtkloomnkpfaijaaDoor.P
