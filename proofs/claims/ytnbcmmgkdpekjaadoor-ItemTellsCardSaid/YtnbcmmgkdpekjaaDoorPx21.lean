/- Laid by a program of this session (wip/pr), after the printer of the kit: the functions that a statement reaches as plain Lean functions, and that the calls of the machine come to them. No condition. -/
import Derived.Test.YtnbcmmgkdpekjaaDoorPx0
import Derived.Test.YtnbcmmgkdpekjaaDoorPx14
import Derived.Test.YtnbcmmgkdpekjaaDoorPx15
import Derived.Test.YtnbcmmgkdpekjaaDoorPx18
import Derived.Test.YtnbcmmgkdpekjaaDoorPx20
namespace Go.Proofs.YtnbcmmgkdpekjaaDoor.P
open Go.RowKit Go.Proofs.YtnbcmmgkdpekjaaDoorX Go.Proofs.YtnbcmmgkdpekjaaDoorW.PrintWords Go.Proofs.YtnbcmmgkdpekjaaDoorW.PrintLast Go.Proofs.YtnbcmmgkdpekjaaDoorW.PrintMore
attribute [local go_sem] max2_int min2_int max_two min_two
set_option linter.unusedVariables false
set_option linter.unusedSimpArgs false

/-! ### hogsheadref7_Own: function 35 -/
mutual
def hogsheadref7_Own.j0 : Nat → List (S45) → Bool → Option (Bool)
 | 0, _, _ => none
 | k + 1, x0, x11 => if x11 = true then (some false) else (hogsheadref7_Own.l0 k x0 0)
def hogsheadref7_Own.l0 : Nat → List (S45) → Int → Option (Bool)
 | 0, _, _ => none
 | k + 1, x0, x3 => if x3 < (x0.length : Int) then (if 0 ≤ x3 then (if (((rd_T45 x0 x3).f0).size : Int) > 120 then (some false) else ((hogsheadref1_Split.f k ((rd_T45 x0 x3).f0)).bind fun t294 => (if (t294.length : Int) > 8 then (some false) else (hogsheadref7_Own.l0 k x0 (wrap64 (x3 + 1)))))) else (none)) else (some true)
end
def hogsheadref7_Own.f (k : Nat) (l0 : List (S45)) : Option (Bool) := if (l0.length : Int) > 24 then (hogsheadref7_Own.j0 k l0 true) else ((hogsheadref2_May.f k l0).bind fun t291 => (hogsheadref7_Own.j0 k l0 (!t291)))
theorem hogsheadref7_Own.mono_l : ∀ k, (∀ y0 y1, LeO (hogsheadref7_Own.j0 k y0 y1) (hogsheadref7_Own.j0 (k + 1) y0 y1)) ∧ (∀ y0 y1, LeO (hogsheadref7_Own.l0 k y0 y1) (hogsheadref7_Own.l0 (k + 1) y0 y1))
 | 0 => ⟨fun _ _ r h => by simp [hogsheadref7_Own.j0] at h, fun _ _ r h => by simp [hogsheadref7_Own.l0] at h⟩
 | k + 1 => by
  obtain ⟨ih0, ih1⟩ := hogsheadref7_Own.mono_l k; refine ⟨?_, ?_⟩
  ·intro y0 y1
   unfold hogsheadref7_Own.j0
   repeat' with_reducible first | exact ih0 _ _ | exact ih1 _ _ | exact hogsheadref1_Split.mono _ _ | exact hogsheadref2_May.mono _ _ | exact LeO.refl _ | exact LeO.none _ | refine LeO.ite ?_ ?_ | refine LeO.bind ?_ (fun _ => ?_)
  ·intro y0 y1
   unfold hogsheadref7_Own.l0
   repeat' with_reducible first | exact ih0 _ _ | exact ih1 _ _ | exact hogsheadref1_Split.mono _ _ | exact hogsheadref2_May.mono _ _ | exact LeO.refl _ | exact LeO.none _ | refine LeO.ite ?_ ?_ | refine LeO.bind ?_ (fun _ => ?_)
theorem hogsheadref7_Own.mono : ∀ a0 k, LeO (hogsheadref7_Own.f k a0) (hogsheadref7_Own.f (k + 1) a0) := by
 intro a0 k; obtain ⟨ih0, ih1⟩ := hogsheadref7_Own.mono_l k; unfold hogsheadref7_Own.f
 repeat' with_reducible first | exact ih0 _ _ | exact ih1 _ _ | exact hogsheadref1_Split.mono _ _ | exact hogsheadref2_May.mono _ _ | exact LeO.refl _ | exact LeO.none _ | refine LeO.ite ?_ ?_ | refine LeO.bind ?_ (fun _ => ?_)
set_option maxHeartbeats 8000000 in
set_option maxRecDepth 100000 in
theorem hogsheadref7_Own.calls (k : Nat) (A0 : Option Addr) (c0 : Nat) (l0 : List (S45)) (r : Bool) (w : World) (hr0 : Kd.C k45 w A0 l0.length l0) (hc0 : l0.length ≤ c0) (h : hogsheadref7_Own.f k l0 = some r) :
  Calls Tryd.prog 35 #[.slice A0 l0.length c0] w fun e w' => e = .returned (.bool r) ∧ Below w.heap.size w w' := by
 have HR0 := am hr0; have HC0 := am hc0; clear hr0 hc0; have HB := am (Below.refl w.heap.size w); have H : (if (l0.length : Int) > 24 then (hogsheadref7_Own.j0 k l0 true) else ((hogsheadref2_May.f k l0).bind fun t291 => (hogsheadref7_Own.j0 k l0 (!t291)))) = some r := h; clear h; have HC2 := am H; clear H; go_enter Tryd.func35, Tryd.ntmps35; go_upto_region 1 with (fail)
 go_cut [11] (fun v11 wc => ∃ (kq : Nat) (x11_1 : Bool), v11 = .bool x11_1 ∧ Aside0 (hogsheadref7_Own.j0 kq l0 x11_1 = some r) ∧ Aside0 (kq ≤ k) ∧ Aside0 (Below w.heap.size w wc))
 case first =>
  have H := HC2.out; clear HC2; by_cases c3 : (l0.length : Int) > 24
  ·rw [if_pos c3] at H
   have c3b0 : decide (24 < (l0.length : Int)) = true := decide_eq_true c3; have c3b1 : decide (24 < l0.length) = true := decide_eq_true (by omega); clear c3; (first | rw [c3b0] | (simp only [i64_w, i32_w]; rw [c3b0]) | skip)
   have H' := am H; clear H; go_wp2
   go_meet; case rel => exact ⟨_, (true), (by first | rfl | (simp; done) | (simp [*]; done)), H', ⟨by first | omega | exact Nat.le_refl _⟩, ⟨bz⟩⟩
  ·rw [if_neg c3] at H
   have c3b0 : decide (24 < (l0.length : Int)) = false := decide_eq_false c3; have c3b1 : decide (24 < l0.length) = false := decide_eq_false (by omega); clear c3; (first | rw [c3b0] | (simp only [i64_w, i32_w]; rw [c3b0]) | skip)
   refine oR H ?_; clear H; intro t291 A4 H; have H' := am H; clear H; go_wp2_with (first | (go_at_call 46; (with_reducible refine (hogsheadref2_May.calls k _ _ l0 t291 _ ?side1 ?side2 A4.out).mono ?_); (case side1 => exact cz (Kd.C_below HR0.out HB.out)); (case side2 => exact HC0.out); rintro e w5 ⟨rfl, hb⟩; replace HB := bs hb))
   go_meet; case rel => exact ⟨_, (!t291), (by first | rfl | (simp; done) | (simp [*]; done)), H', ⟨by first | omega | exact Nat.le_refl _⟩, ⟨bz⟩⟩
 case rest =>
  clear HC2; (try clear p2); (try clear c3); (try clear c3b0); (try clear c3b1); obtain ⟨kq, x11_1, rfl, HA, HJ1, HB⟩ := hcut; cases kq with
  | zero => exact absurd HA.out (by simp [hogsheadref7_Own.j0])
  | succ kj1 =>
   have H := HA.out; clear HA; simp only [hogsheadref7_Own.j0] at H
   by_cases c6 : x11_1 = true
   ·subst c6
    have H1 : (some false) = some r := by rw [if_pos rfl] at H; exact H
    clear H; have H := H1; clear H1; obtain rfl := Option.some.inj H; go_wp2
    go_ret; exact ⟨ez, bz⟩
   ·replace c6 := Bool.eq_false_iff.mpr c6
    subst c6; have H1 : (hogsheadref7_Own.l0 kj1 l0 0) = some r := by rw [if_neg (show ¬ (false = true) by decide)] at H; exact H
    clear H; have H := H1; clear H1; have H' := am H; clear H; go_wp2
    go_loopg [3] kj1 (fun kq v3 w' => ∃ (x3_2 : Int), v3 = .int .i64 x3_2 ∧ Aside0 (hogsheadref7_Own.l0 kq l0 x3_2 = some r) ∧ Aside0 (kq ≤ kj1) ∧ Aside0 (Below w.heap.size w w'))
    case atStart => exact ⟨(0), (by first | rfl | (simp; done) | (simp [*]; done)), H', ⟨Nat.le_refl _⟩, ⟨bz⟩⟩
    case round =>
     clear H'; (try clear p2); (try clear c3); (try clear c3b0); (try clear c3b1); (try clear c6); (try clear p2); obtain ⟨x3_2, rfl, HA, HK2, HB⟩ := hrel; cases gk with
     | zero => exact absurd HA.out (by simp [hogsheadref7_Own.l0])
     | succ k2 =>
      have H := HA.out; clear HA; simp only [hogsheadref7_Own.l0] at H
      by_cases c7 : x3_2 < (l0.length : Int)
      ·rw [if_pos c7] at H
       have c7b0 : decide (x3_2 < (l0.length : Int)) = true := decide_eq_true c7; clear c7; by_cases c8 : 0 ≤ x3_2
       ·rw [if_pos c8] at H
        have c8b0 : decide (0 ≤ x3_2) = true := decide_eq_true c8; clear c8; by_cases c9 : (((rd_T45 l0 x3_2).f0).size : Int) > 120
        ·rw [if_pos c9] at H
         have c9b0 : decide (120 < (((rd_T45 l0 x3_2).f0).size : Int)) = true := decide_eq_true c9; have c9b1 : decide (120 < ((rd_T45 l0 x3_2).f0).size) = true := decide_eq_true (by omega); clear c9; obtain rfl := Option.some.inj H; have p292 : 0 ≤ (x3_2 : Int) := of_decide_eq_true (by assumption); have q292 : x3_2 < (l0.length : Int) := of_decide_eq_true (by assumption); obtain ⟨ad292, e292, hx292_0, hx292_1, hx292_2⟩ := at_T45 HR0.out x3_2 p292 q292; cases e292; replace hx292_0 := (HB.out.cell (wB w _ hx292_0)).trans hx292_0; replace hx292_1 := (HB.out.cell (wB w _ hx292_1)).trans hx292_1; replace hx292_2 := (HB.out.cell (wB w _ hx292_2)).trans hx292_2; replace p292 := eq_true p292; replace q292 := eq_true q292; go_wp2
         go_ret; exact ⟨ez, bz⟩
        ·rw [if_neg c9] at H
         have c9b0 : decide (120 < (((rd_T45 l0 x3_2).f0).size : Int)) = false := decide_eq_false c9; have c9b1 : decide (120 < ((rd_T45 l0 x3_2).f0).size) = false := decide_eq_false (by omega); clear c9; refine oR H ?_; clear H; intro t294 A10 H; by_cases c11 : (t294.length : Int) > 8
         ·rw [if_pos c11] at H
          have c11b0 : decide (8 < (t294.length : Int)) = true := decide_eq_true c11; have c11b1 : decide (8 < t294.length) = true := decide_eq_true (by omega); clear c11; obtain rfl := Option.some.inj H; have p292 : 0 ≤ (x3_2 : Int) := of_decide_eq_true (by assumption); have q292 : x3_2 < (l0.length : Int) := of_decide_eq_true (by assumption); obtain ⟨ad292, e292, hx292_0, hx292_1, hx292_2⟩ := at_T45 HR0.out x3_2 p292 q292; cases e292; replace hx292_0 := (HB.out.cell (wB w _ hx292_0)).trans hx292_0; replace hx292_1 := (HB.out.cell (wB w _ hx292_1)).trans hx292_1; replace hx292_2 := (HB.out.cell (wB w _ hx292_2)).trans hx292_2; replace p292 := eq_true p292; replace q292 := eq_true q292; have p293 : 0 ≤ (x3_2 : Int) := of_decide_eq_true (by assumption); have q293 : x3_2 < (l0.length : Int) := of_decide_eq_true (by assumption); obtain ⟨ad293, e293, hx293_0, hx293_1, hx293_2⟩ := at_T45 HR0.out x3_2 p293 q293; obtain rfl : ad292 = ad293 := (by injection e293); replace hx293_0 := (HB.out.cell (wB w _ hx293_0)).trans hx293_0; replace hx293_1 := (HB.out.cell (wB w _ hx293_1)).trans hx293_1; replace hx293_2 := (HB.out.cell (wB w _ hx293_2)).trans hx293_2; replace p293 := eq_true p293; replace q293 := eq_true q293
          go_wp2_with (first | (go_at_call 47; (with_reducible refine (hogsheadref1_Split.calls k2 ((rd_T45 l0 x3_2).f0) t294 _ A10.out).mono ?_); rintro e w12 ⟨v295, rfl, ho0, hb⟩; have HO296 := am (Kd.R_lower ho0 siz); replace HB := bs hb; (try clear ho0); obtain ⟨Ao13, co13, eo13⟩ := Kd.R_slice HO296.out; subst eo13))
          go_ret; exact ⟨ez, bz⟩
         ·rw [if_neg c11] at H
          have c11b0 : decide (8 < (t294.length : Int)) = false := decide_eq_false c11; have c11b1 : decide (8 < t294.length) = false := decide_eq_false (by omega); clear c11; have H' := am H; clear H; have p292 : 0 ≤ (x3_2 : Int) := of_decide_eq_true (by assumption); have q292 : x3_2 < (l0.length : Int) := of_decide_eq_true (by assumption); obtain ⟨ad292, e292, hx292_0, hx292_1, hx292_2⟩ := at_T45 HR0.out x3_2 p292 q292; cases e292; replace hx292_0 := (HB.out.cell (wB w _ hx292_0)).trans hx292_0; replace hx292_1 := (HB.out.cell (wB w _ hx292_1)).trans hx292_1; replace hx292_2 := (HB.out.cell (wB w _ hx292_2)).trans hx292_2; replace p292 := eq_true p292; replace q292 := eq_true q292; have p293 : 0 ≤ (x3_2 : Int) := of_decide_eq_true (by assumption); have q293 : x3_2 < (l0.length : Int) := of_decide_eq_true (by assumption); obtain ⟨ad293, e293, hx293_0, hx293_1, hx293_2⟩ := at_T45 HR0.out x3_2 p293 q293; obtain rfl : ad292 = ad293 := (by injection e293); replace hx293_0 := (HB.out.cell (wB w _ hx293_0)).trans hx293_0; replace hx293_1 := (HB.out.cell (wB w _ hx293_1)).trans hx293_1; replace hx293_2 := (HB.out.cell (wB w _ hx293_2)).trans hx293_2; replace p293 := eq_true p293; replace q293 := eq_true q293
          go_wp2_with (first | (go_at_call 47; (with_reducible refine (hogsheadref1_Split.calls k2 ((rd_T45 l0 x3_2).f0) t294 _ A10.out).mono ?_); rintro e w14 ⟨v295, rfl, ho0, hb⟩; have HO296 := am (Kd.R_lower ho0 siz); replace HB := bs hb; (try clear ho0); obtain ⟨Ao15, co15, eo15⟩ := Kd.R_slice HO296.out; subst eo15))
          go_roundg k2
          case measure => have := HJ1.out; have := HK2.out; omega
          case rel => exact ⟨(wrap64 (x3_2 + 1)), (by first | rfl | (simp; done) | (simp [*]; done)), H', ⟨by have := HJ1.out; have := HK2.out; omega⟩, ⟨bz⟩⟩
       ·rw [if_neg c8] at H
        exact absurd H (by simp)
      ·rw [if_neg c7] at H
       have c7b0 : decide (x3_2 < (l0.length : Int)) = false := decide_eq_false c7; clear c7; obtain rfl := Option.some.inj H; go_wp2
       go_ret; exact ⟨ez, bz⟩

/-! ### hogsheadref7_May: function 19 -/
def hogsheadref7_May.f (k : Nat) (a0_0 : ByteArray) (l0_1 : List ByteArray) (l0_2 : List (S45)) : Option (Bool) := (hogsheadref7_Name.f k a0_0).bind fun t298 => (if t298 = true then ((hogsheadref7_Names.f k l0_1).bind fun t299 => (if t299 = true then ((hogsheadref7_Own.f k l0_2).bind fun t300 => (some t300)) else (some false))) else (some false))
theorem hogsheadref7_May.mono : ∀ a0 a1 a2 k, LeO (hogsheadref7_May.f k a0 a1 a2) (hogsheadref7_May.f (k + 1) a0 a1 a2) := by
 intro a0 a1 a2 k; unfold hogsheadref7_May.f
 repeat' with_reducible first | exact hogsheadref7_Name.mono _ _ | exact hogsheadref7_Names.mono _ _ | exact hogsheadref7_Own.mono _ _ | exact LeO.refl _ | exact LeO.none _ | refine LeO.ite ?_ ?_ | refine LeO.bind ?_ (fun _ => ?_)
set_option maxHeartbeats 8000000 in
set_option maxRecDepth 100000 in
theorem hogsheadref7_May.calls (k : Nat) (a0_0 : ByteArray) (A0_1 : Option Addr) (c0_1 : Nat) (l0_1 : List ByteArray) (A0_2 : Option Addr) (c0_2 : Nat) (l0_2 : List (S45)) (r : Bool) (w : World) (hr0_1 : Kd.C Kd.string w A0_1 l0_1.length l0_1) (hc0_1 : l0_1.length ≤ c0_1) (hr0_2 : Kd.C k45 w A0_2 l0_2.length l0_2) (hc0_2 : l0_2.length ≤ c0_2) (h : hogsheadref7_May.f k a0_0 l0_1 l0_2 = some r) :
  Calls Tryd.prog 19 #[.agg #[.string a0_0, .slice A0_1 l0_1.length c0_1, .slice A0_2 l0_2.length c0_2]] w fun e w' => e = .returned (.bool r) ∧ Below w.heap.size w w' := by
 have hu34 := Tryd.underlying34; have HR0_1 := am hr0_1; have HC0_1 := am hc0_1; clear hr0_1 hc0_1; have HR0_2 := am hr0_2; have HC0_2 := am hc0_2; clear hr0_2 hc0_2; have HB := am (Below.refl w.heap.size w); have H : ((hogsheadref7_Name.f k a0_0).bind fun t298 => (if t298 = true then ((hogsheadref7_Names.f k l0_1).bind fun t299 => (if t299 = true then ((hogsheadref7_Own.f k l0_2).bind fun t300 => (some t300)) else (some false))) else (some false))) = some r := h; clear h; refine oR H ?_; clear H; intro t298 A2 H; by_cases c3 : t298 = true
 ·subst c3
  have H1 : ((hogsheadref7_Names.f k l0_1).bind fun t299 => (if t299 = true then ((hogsheadref7_Own.f k l0_2).bind fun t300 => (some t300)) else (some false))) = some r := by rw [if_pos rfl] at H; exact H
  clear H; have H := H1; clear H1; refine oR H ?_; clear H; intro t299 A4 H; by_cases c5 : t299 = true
  ·subst c5
   have H1 : ((hogsheadref7_Own.f k l0_2).bind fun t300 => (some t300)) = some r := by rw [if_pos rfl] at H; exact H
   clear H; have H := H1; clear H1; refine oR H ?_; clear H; intro t300 A6 H; obtain rfl := Option.some.inj H; go_enter Tryd.func19, Tryd.ntmps19; go_wp2_with (first | ((with_reducible refine gate_dst (N := 1) rfl ?_); refine bx 1 #[.string a0_0, .slice A0_1 l0_1.length c0_1, .slice A0_2 l0_2.length c0_2] 34 ?_; intro gb297 hg w7 hbox hb; have BK297 := am (hbox); have GW297 := gz hg; have GE297 := gz hg; replace HB := bs hb; clear hb hbox hg; obtain ⟨hcz8_0, hcz8_1, hcz8_2⟩ := cq3 BK297.out; obtain ⟨hfz8_0, hfz8_1, hfz8_2⟩ := fq3 BK297.out) | ((with_reducible refine gate_callee (f := 16) rfl ?_); refine gL (some 5) Tryd.func16 #[.string a0_0] ?_; (with_reducible refine (hogsheadref7_Name.calls k a0_0 true _ A2.out).mono ?_); rintro e w' ⟨rfl, ⟨nd, rfl⟩⟩; refine ⟨_, rfl, ?_⟩) | (go_at_call 34; (with_reducible refine (hogsheadref7_Names.calls k _ _ l0_1 true _ ?side1 ?side2 A4.out).mono ?_); (case side1 => exact cz (Kd.C_below HR0_1.out bq)); (case side2 => exact HC0_1.out); rintro e w' ⟨rfl, ⟨nd, rfl⟩⟩) | (go_at_call 35; (with_reducible refine (hogsheadref7_Own.calls k _ _ l0_2 t300 _ ?side1 ?side2 A6.out).mono ?_); (case side1 => exact cz (Kd.C_below HR0_2.out bq)); (case side2 => exact HC0_2.out); rintro e w9 ⟨rfl, hb⟩; replace BK297 := am (blk_below (g := gb297) (o := .cells #[.string a0_0, .slice A0_1 l0_1.length c0_1, .slice A0_2 l0_2.length c0_2] 34 (0, 0)) (bk BK297.out) hb); replace HB := bw hb))
   go_ret; exact ⟨ez, bq⟩
  ·replace c5 := Bool.eq_false_iff.mpr c5
   subst c5; have H1 : (some false) = some r := by rw [if_neg (show ¬ (false = true) by decide)] at H; exact H
   clear H; have H := H1; clear H1; obtain rfl := Option.some.inj H; go_enter Tryd.func19, Tryd.ntmps19; go_wp2_with (first | ((with_reducible refine gate_dst (N := 1) rfl ?_); refine bx 1 #[.string a0_0, .slice A0_1 l0_1.length c0_1, .slice A0_2 l0_2.length c0_2] 34 ?_; intro gb297 hg w10 hbox hb; have BK297 := am (hbox); have GW297 := gz hg; have GE297 := gz hg; replace HB := bs hb; clear hb hbox hg; obtain ⟨hcz11_0, hcz11_1, hcz11_2⟩ := cq3 BK297.out; obtain ⟨hfz11_0, hfz11_1, hfz11_2⟩ := fq3 BK297.out) | ((with_reducible refine gate_callee (f := 16) rfl ?_); refine gL (some 5) Tryd.func16 #[.string a0_0] ?_; (with_reducible refine (hogsheadref7_Name.calls k a0_0 true _ A2.out).mono ?_); rintro e w' ⟨rfl, ⟨nd, rfl⟩⟩; refine ⟨_, rfl, ?_⟩) | (go_at_call 34; (with_reducible refine (hogsheadref7_Names.calls k _ _ l0_1 false _ ?side1 ?side2 A4.out).mono ?_); (case side1 => exact cz (Kd.C_below HR0_1.out bq)); (case side2 => exact HC0_1.out); rintro e w' ⟨rfl, ⟨nd, rfl⟩⟩))
   go_ret; exact ⟨ez, bq⟩
 ·replace c3 := Bool.eq_false_iff.mpr c3
  subst c3; have H1 : (some false) = some r := by rw [if_neg (show ¬ (false = true) by decide)] at H; exact H
  clear H; have H := H1; clear H1; obtain rfl := Option.some.inj H; go_enter Tryd.func19, Tryd.ntmps19; go_wp2_with (first | ((with_reducible refine gate_dst (N := 1) rfl ?_); refine bx 1 #[.string a0_0, .slice A0_1 l0_1.length c0_1, .slice A0_2 l0_2.length c0_2] 34 ?_; intro gb297 hg w12 hbox hb; have BK297 := am (hbox); have GW297 := gz hg; have GE297 := gz hg; replace HB := bs hb; clear hb hbox hg; obtain ⟨hcz13_0, hcz13_1, hcz13_2⟩ := cq3 BK297.out; obtain ⟨hfz13_0, hfz13_1, hfz13_2⟩ := fq3 BK297.out) | ((with_reducible refine gate_callee (f := 16) rfl ?_); refine gL (some 5) Tryd.func16 #[.string a0_0] ?_; (with_reducible refine (hogsheadref7_Name.calls k a0_0 false _ A2.out).mono ?_); rintro e w' ⟨rfl, ⟨nd, rfl⟩⟩; refine ⟨_, rfl, ?_⟩))
  go_ret; exact ⟨ez, bq⟩

end Go.Proofs.YtnbcmmgkdpekjaaDoor.P
