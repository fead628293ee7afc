/- Laid by a program of this session (wip/pr), after the printer of the kit: the functions that a statement reaches as plain Lean functions, and that the calls of the machine come to them. No condition. -/
import Derived.Test.YtiamdmlbhmgnjaaDoorPx0
import Derived.Test.YtiamdmlbhmgnjaaDoorPx16
namespace Go.Proofs.YtiamdmlbhmgnjaaDoor.P
open Go.RowKit Go.Proofs.YtiamdmlbhmgnjaaDoorX Go.Proofs.YtiamdmlbhmgnjaaDoorW.PrintWords Go.Proofs.YtiamdmlbhmgnjaaDoorW.PrintLast Go.Proofs.YtiamdmlbhmgnjaaDoorW.PrintMore
attribute [local go_sem] max2_int min2_int max_two min_two
set_option linter.unusedVariables false
set_option linter.unusedSimpArgs false

/-! ### hogsheadref2_Good: function 38 -/
mutual
def hogsheadref2_Good.j0 : Nat → Bool → ByteArray → Int → ByteArray → Option (Bool)
 | 0, _, _, _, _ => none
 | k + 1, x13, x262000, x262001, x262002 => if x13 = true then (some false) else (if x262001 = 1 then (some (x262002.toList == ([] : List UInt8))) else (if x262001 = 2 then (hogsheadref2_Good.j1 k x262001 (x262001 == 2) x262000 x262001 x262002) else (hogsheadref2_Good.j1 k x262001 (x262001 == 3) x262000 x262001 x262002)))
def hogsheadref2_Good.j1 : Nat → Int → Bool → ByteArray → Int → ByteArray → Option (Bool)
 | 0, _, _, _, _, _ => none
 | k + 1, x15, x21, x262000, x262001, x262002 => if x21 = true then (some true) else (if x15 = 4 then (hogsheadref2_Good.l0 k 0 x262000 x262001 x262002) else (some false))
def hogsheadref2_Good.l0 : Nat → Int → ByteArray → Int → ByteArray → Option (Bool)
 | 0, _, _, _, _ => none
 | k + 1, x3, x262000, x262001, x262002 => if x3 < (x262002.size : Int) then (if 0 ≤ x3 then (if (bt x262002 x3) = 0 then (some false) else (hogsheadref2_Good.l0 k (wrap64 (x3 + 1)) x262000 x262001 x262002)) else (none)) else (some (x262002.toList != ([] : List UInt8)))
end
def hogsheadref2_Good.f (k : Nat) (a0_0 : ByteArray) (a0_1 : Int) (a0_2 : ByteArray) : Option (Bool) := (hogsheadref1_May.f k a0_0).bind fun t262 => (if t262 = true then (hogsheadref2_Good.j0 k (decide ((a0_2.size : Int) > 400)) a0_0 a0_1 a0_2) else (hogsheadref2_Good.j0 k true a0_0 a0_1 a0_2))
theorem hogsheadref2_Good.mono_l : ∀ k, (∀ y0 y1 y2 y3, LeO (hogsheadref2_Good.j0 k y0 y1 y2 y3) (hogsheadref2_Good.j0 (k + 1) y0 y1 y2 y3)) ∧ (∀ y0 y1 y2 y3 y4, LeO (hogsheadref2_Good.j1 k y0 y1 y2 y3 y4) (hogsheadref2_Good.j1 (k + 1) y0 y1 y2 y3 y4)) ∧ (∀ y0 y1 y2 y3, LeO (hogsheadref2_Good.l0 k y0 y1 y2 y3) (hogsheadref2_Good.l0 (k + 1) y0 y1 y2 y3))
 | 0 => ⟨fun _ _ _ _ r h => by simp [hogsheadref2_Good.j0] at h, fun _ _ _ _ _ r h => by simp [hogsheadref2_Good.j1] at h, fun _ _ _ _ r h => by simp [hogsheadref2_Good.l0] at h⟩
 | k + 1 => by
  obtain ⟨ih0, ih1, ih2⟩ := hogsheadref2_Good.mono_l k; refine ⟨?_, ?_, ?_⟩
  ·intro y0 y1 y2 y3
   unfold hogsheadref2_Good.j0
   repeat' with_reducible first | exact ih0 _ _ _ _ | exact ih1 _ _ _ _ _ | exact ih2 _ _ _ _ | exact hogsheadref1_May.mono _ _ | exact LeO.refl _ | exact LeO.none _ | refine LeO.ite ?_ ?_ | refine LeO.bind ?_ (fun _ => ?_)
  ·intro y0 y1 y2 y3 y4
   unfold hogsheadref2_Good.j1
   repeat' with_reducible first | exact ih0 _ _ _ _ | exact ih1 _ _ _ _ _ | exact ih2 _ _ _ _ | exact hogsheadref1_May.mono _ _ | exact LeO.refl _ | exact LeO.none _ | refine LeO.ite ?_ ?_ | refine LeO.bind ?_ (fun _ => ?_)
  ·intro y0 y1 y2 y3
   unfold hogsheadref2_Good.l0
   repeat' with_reducible first | exact ih0 _ _ _ _ | exact ih1 _ _ _ _ _ | exact ih2 _ _ _ _ | exact hogsheadref1_May.mono _ _ | exact LeO.refl _ | exact LeO.none _ | refine LeO.ite ?_ ?_ | refine LeO.bind ?_ (fun _ => ?_)
theorem hogsheadref2_Good.mono : ∀ a0 a1 a2 k, LeO (hogsheadref2_Good.f k a0 a1 a2) (hogsheadref2_Good.f (k + 1) a0 a1 a2) := by
 intro a0 a1 a2 k; obtain ⟨ih0, ih1, ih2⟩ := hogsheadref2_Good.mono_l k; unfold hogsheadref2_Good.f
 repeat' with_reducible first | exact ih0 _ _ _ _ | exact ih1 _ _ _ _ _ | exact ih2 _ _ _ _ | exact hogsheadref1_May.mono _ _ | exact LeO.refl _ | exact LeO.none _ | refine LeO.ite ?_ ?_ | refine LeO.bind ?_ (fun _ => ?_)
set_option maxHeartbeats 8000000 in
set_option maxRecDepth 100000 in
theorem hogsheadref2_Good.calls (k : Nat) (a0_0 : ByteArray) (a0_1 : Int) (a0_2 : ByteArray) (r : Bool) (w : World) (h : hogsheadref2_Good.f k a0_0 a0_1 a0_2 = some r) :
  Calls Tryd.prog 38 #[.agg #[.string a0_0, .int .i64 a0_1, .string a0_2]] w fun e w' => e = .returned (.bool r) ∧ Below w.heap.size w w' := by
 have hu37 := Tryd.underlying37; have HB := am (Below.refl w.heap.size w); have H : ((hogsheadref1_May.f k a0_0).bind fun t262 => (if t262 = true then (hogsheadref2_Good.j0 k (decide ((a0_2.size : Int) > 400)) a0_0 a0_1 a0_2) else (hogsheadref2_Good.j0 k true a0_0 a0_1 a0_2))) = some r := h; clear h; have HC2 := am H; clear H; go_enter Tryd.func38, Tryd.ntmps38; go_upto_region 1 with (first | ((with_reducible refine gate_dst (N := 1) rfl ?_); (try (refine gate_guard (by rfl) ?_; dsimp only)); refine bx 1 #[.string a0_0, .int .i64 a0_1, .string a0_2] 37 ?_; intro gb261 hg w3 hbox hb; have BK261 := am (hbox); have GW261 := gz hg; have GE261 := gz hg; replace HB := bs hb; clear hb hbox hg))
 (try simp only [Act.put, sA, sB, sC])
 go_cut [13] (fun v13 wc => ∃ (kq : Nat) (x13_1 : Bool), v13 = .bool x13_1 ∧ Aside0 (hogsheadref2_Good.j0 kq x13_1 a0_0 a0_1 a0_2 = some r) ∧ Aside0 (kq ≤ k) ∧ Aside0 (wc.heap[gb261]? = some (.cells #[.string a0_0, .int .i64 a0_1, .string a0_2] 37 (0, 0))) ∧ Aside0 (Below w.heap.size w wc))
 case first =>
  have H := HC2.out; clear HC2; refine oR H ?_; clear H; intro t262 A4 H; by_cases c5 : t262 = true
  ·subst c5
   have H1 : (hogsheadref2_Good.j0 k (decide ((a0_2.size : Int) > 400)) a0_0 a0_1 a0_2) = some r := by rw [if_pos rfl] at H; exact H
   clear H; have H := H1; clear H1; have H' := am H; clear H; obtain ⟨hcz6_0, hcz6_1, hcz6_2⟩ := cq3 BK261.out; obtain ⟨hfz6_0, hfz6_1, hfz6_2⟩ := fq3 BK261.out; go_wp2_with (first | ((with_reducible refine gate_callee (f := 47) rfl ?_); refine gL (some 6) Tryd.func47 #[.string a0_0] ?_; (with_reducible refine (hogsheadref1_May.calls k a0_0 true _ A4.out).mono ?_); rintro e w7 ⟨rfl, hb⟩; refine ⟨_, rfl, ?_⟩; replace BK261 := am (blk_below (g := gb261) (o := .cells #[.string a0_0, .int .i64 a0_1, .string a0_2] 37 (0, 0)) (bk BK261.out) hb); replace HB := bw hb; obtain ⟨hcz8_0, hcz8_1, hcz8_2⟩ := cq3 BK261.out; obtain ⟨hfz8_0, hfz8_1, hfz8_2⟩ := fq3 BK261.out))
   go_meet; case rel => exact ⟨_, (decide ((a0_2.size : Int) > 400)), (by first | rfl | (simp; done) | (simp [*]; done)), H', ⟨by first | omega | exact Nat.le_refl _⟩, ⟨bk BK261.out⟩, ⟨bq⟩⟩
  ·replace c5 := Bool.eq_false_iff.mpr c5
   subst c5; have H1 : (hogsheadref2_Good.j0 k true a0_0 a0_1 a0_2) = some r := by rw [if_neg (show ¬ (false = true) by decide)] at H; exact H
   clear H; have H := H1; clear H1; have H' := am H; clear H; obtain ⟨hcz9_0, hcz9_1, hcz9_2⟩ := cq3 BK261.out; obtain ⟨hfz9_0, hfz9_1, hfz9_2⟩ := fq3 BK261.out; go_wp2_with (first | ((with_reducible refine gate_callee (f := 47) rfl ?_); refine gL (some 6) Tryd.func47 #[.string a0_0] ?_; (with_reducible refine (hogsheadref1_May.calls k a0_0 false _ A4.out).mono ?_); rintro e w10 ⟨rfl, hb⟩; refine ⟨_, rfl, ?_⟩; replace BK261 := am (blk_below (g := gb261) (o := .cells #[.string a0_0, .int .i64 a0_1, .string a0_2] 37 (0, 0)) (bk BK261.out) hb); replace HB := bw hb))
   go_meet; case rel => exact ⟨_, (true), (by first | rfl | (simp; done) | (simp [*]; done)), H', ⟨by first | omega | exact Nat.le_refl _⟩, ⟨bk BK261.out⟩, ⟨bq⟩⟩
 case rest =>
  clear HC2; (try clear p2); (try clear c3); (try clear c4); (try clear c5); (try clear hcz6_0); (try clear hcz6_1); (try clear hcz6_2); (try clear hcz8_0); (try clear hcz8_1); (try clear hcz8_2); (try clear hcz9_0); (try clear hcz9_1); (try clear hcz9_2); (try clear hfz6_0); (try clear hfz6_1); (try clear hfz6_2); (try clear hfz8_0); (try clear hfz8_1); (try clear hfz8_2); (try clear hfz9_0); (try clear hfz9_1); (try clear hfz9_2); obtain ⟨kq, x13_1, rfl, HA, HJ1, BK261, HB⟩ := hcut; cases kq with
  | zero => exact absurd HA.out (by simp [hogsheadref2_Good.j0])
  | succ kj1 =>
   have H := HA.out; clear HA; simp only [hogsheadref2_Good.j0] at H
   by_cases c11 : x13_1 = true
   ·subst c11
    have H1 : (some false) = some r := by rw [if_pos rfl] at H; exact H
    clear H; have H := H1; clear H1; obtain rfl := Option.some.inj H; go_wp2
    go_ret; exact ⟨by first | rfl | (simp [eN, eS] <;> rfl) | (simp [*, eN, eS] <;> rfl) | (simp [eN, eS]; first | done | (cases a0_2.toList <;> rfl)), bq⟩
   ·replace c11 := Bool.eq_false_iff.mpr c11
    subst c11; have H1 : (if a0_1 = 1 then (some (a0_2.toList == ([] : List UInt8))) else (if a0_1 = 2 then (hogsheadref2_Good.j1 kj1 a0_1 (a0_1 == 2) a0_0 a0_1 a0_2) else (hogsheadref2_Good.j1 kj1 a0_1 (a0_1 == 3) a0_0 a0_1 a0_2))) = some r := by rw [if_neg (show ¬ (false = true) by decide)] at H; exact H
    clear H; have H := H1; clear H1; by_cases c12 : a0_1 = 1
    ·rw [if_pos c12] at H
     have c12b0 : (a0_1 == 1) = true := beq_iff_eq.mpr c12; have c12b1 : (a0_1 != 1) = false := bne_eq_false_iff_eq.mpr c12; clear c12; obtain rfl := Option.some.inj H; obtain ⟨hcz13_0, hcz13_1, hcz13_2⟩ := cq3 BK261.out; obtain ⟨hfz13_0, hfz13_1, hfz13_2⟩ := fq3 BK261.out; go_wp2
     go_ret; exact ⟨by first | rfl | (simp [eN, eS] <;> rfl) | (simp [*, eN, eS] <;> rfl) | (simp [eN, eS]; first | done | (cases a0_2.toList <;> rfl)), bq⟩
    ·rw [if_neg c12] at H
     have c12b0 : (a0_1 == 1) = false := beq_eq_false_iff_ne.mpr c12; have c12b1 : (a0_1 != 1) = true := bne_iff_ne.mpr c12; have HC14 := am H; clear H; obtain ⟨hcz15_0, hcz15_1, hcz15_2⟩ := cq3 BK261.out; obtain ⟨hfz15_0, hfz15_1, hfz15_2⟩ := fq3 BK261.out; go_upto_if 21 with (fail)
     go_cut [21] (fun v21 wc => ∃ (kq : Nat) (x21_13 : Bool), v21 = .bool x21_13 ∧ Aside0 (hogsheadref2_Good.j1 kq a0_1 x21_13 a0_0 a0_1 a0_2 = some r) ∧ Aside0 (kq ≤ kj1) ∧ Aside0 (wc.heap[gb261]? = some (.cells #[.string a0_0, .int .i64 a0_1, .string a0_2] 37 (0, 0))) ∧ Aside0 (Below w.heap.size w wc))
     case first =>
      have H := HC14.out; clear HC14; by_cases c16 : a0_1 = 2
      ·rw [if_pos c16] at H
       have c16b0 : (a0_1 == 2) = true := beq_iff_eq.mpr c16; have c16b1 : (a0_1 != 2) = false := bne_eq_false_iff_eq.mpr c16; clear c16; (first | rw [c16b0] | (simp only [i64_w, i32_w]; rw [c16b0]) | skip)
       have H' := am H; clear H; go_wp2
       go_meet; case rel => exact ⟨_, ((a0_1 == 2)), (by first | rfl | (simp; done) | (simp [*]; done)), H', ⟨by have := HJ1.out; first | omega | exact Nat.le_refl _⟩, ⟨bk BK261.out⟩, ⟨bq⟩⟩
      ·rw [if_neg c16] at H
       have c16b0 : (a0_1 == 2) = false := beq_eq_false_iff_ne.mpr c16; have c16b1 : (a0_1 != 2) = true := bne_iff_ne.mpr c16; (first | rw [c16b0] | (simp only [i64_w, i32_w]; rw [c16b0]) | skip)
       have H' := am H; clear H; go_wp2
       go_meet; case rel => exact ⟨_, ((a0_1 == 3)), (by first | rfl | (simp; done) | (simp [*]; done)), H', ⟨by have := HJ1.out; first | omega | exact Nat.le_refl _⟩, ⟨bk BK261.out⟩, ⟨bq⟩⟩
     case rest =>
      clear HC14; (try clear c1); (try clear p2); (try clear c3); (try clear c4); (try clear c5); (try clear c11); (try clear c12); (try clear c12b0); (try clear c12b1); (try clear c16); (try clear c16b0); (try clear c16b1); (try clear hcz13_0); (try clear hcz13_1); (try clear hcz13_2); (try clear hcz15_0); (try clear hcz15_1); (try clear hcz15_2); (try clear hcz6_0); (try clear hcz6_1); (try clear hcz6_2); (try clear hcz8_0); (try clear hcz8_1); (try clear hcz8_2); (try clear hcz9_0); (try clear hcz9_1); (try clear hcz9_2); (try clear hfz13_0); (try clear hfz13_1); (try clear hfz13_2); (try clear hfz15_0); (try clear hfz15_1); (try clear hfz15_2); (try clear hfz6_0); (try clear hfz6_1); (try clear hfz6_2); (try clear hfz8_0); (try clear hfz8_1); (try clear hfz8_2); (try clear hfz9_0); (try clear hfz9_1); (try clear hfz9_2); (try clear p2); obtain ⟨kq, x21_13, rfl, HA, HJ13, BK261, HB⟩ := hcut; cases kq with
      | zero => exact absurd HA.out (by simp [hogsheadref2_Good.j1])
      | succ kj13 =>
       have H := HA.out; clear HA; simp only [hogsheadref2_Good.j1] at H
       by_cases c17 : x21_13 = true
       ·subst c17
        have H1 : (some true) = some r := by rw [if_pos rfl] at H; exact H
        clear H; have H := H1; clear H1; obtain rfl := Option.some.inj H; go_wp2
        go_ret; exact ⟨by first | rfl | (simp [eN, eS] <;> rfl) | (simp [*, eN, eS] <;> rfl) | (simp [eN, eS]; first | done | (cases a0_2.toList <;> rfl)), bq⟩
       ·replace c17 := Bool.eq_false_iff.mpr c17
        subst c17; have H1 : (if a0_1 = 4 then (hogsheadref2_Good.l0 kj13 0 a0_0 a0_1 a0_2) else (some false)) = some r := by rw [if_neg (show ¬ (false = true) by decide)] at H; exact H
        clear H; have H := H1; clear H1; by_cases c18 : a0_1 = 4
        ·rw [if_pos c18] at H
         have c18b0 : (a0_1 == 4) = true := beq_iff_eq.mpr c18; have c18b1 : (a0_1 != 4) = false := bne_eq_false_iff_eq.mpr c18; clear c18; have H' := am H; clear H; go_wp2
         go_loopg [3] kj13 (fun kq v3 w' => ∃ (x3_3 : Int), v3 = .int .i64 x3_3 ∧ Aside0 (hogsheadref2_Good.l0 kq x3_3 a0_0 a0_1 a0_2 = some r) ∧ Aside0 (kq ≤ kj13) ∧ Aside0 (w'.heap[gb261]? = some (.cells #[.string a0_0, .int .i64 a0_1, .string a0_2] 37 (0, 0))) ∧ Aside0 (Below w.heap.size w w'))
         case atStart => exact ⟨(0), (by first | rfl | (simp; done) | (simp [*]; done)), H', ⟨Nat.le_refl _⟩, ⟨bk BK261.out⟩, ⟨bq⟩⟩
         case round =>
          clear H'; (try clear c1); (try clear p2); (try clear c3); (try clear c4); (try clear c5); (try clear c11); (try clear c12); (try clear c12b0); (try clear c12b1); (try clear c16); (try clear c16b0); (try clear c16b1); (try clear c17); (try clear c18); (try clear c18b0); (try clear c18b1); (try clear hcz13_0); (try clear hcz13_1); (try clear hcz13_2); (try clear hcz15_0); (try clear hcz15_1); (try clear hcz15_2); (try clear hcz6_0); (try clear hcz6_1); (try clear hcz6_2); (try clear hcz8_0); (try clear hcz8_1); (try clear hcz8_2); (try clear hcz9_0); (try clear hcz9_1); (try clear hcz9_2); (try clear hfz13_0); (try clear hfz13_1); (try clear hfz13_2); (try clear hfz15_0); (try clear hfz15_1); (try clear hfz15_2); (try clear hfz6_0); (try clear hfz6_1); (try clear hfz6_2); (try clear hfz8_0); (try clear hfz8_1); (try clear hfz8_2); (try clear hfz9_0); (try clear hfz9_1); (try clear hfz9_2); (try clear p2); obtain ⟨x3_3, rfl, HA, HK3, BK261, HB⟩ := hrel; cases gk with
          | zero => exact absurd HA.out (by simp [hogsheadref2_Good.l0])
          | succ k3 =>
           have H := HA.out; clear HA; simp only [hogsheadref2_Good.l0] at H
           by_cases c19 : x3_3 < (a0_2.size : Int)
           ·rw [if_pos c19] at H
            have c19b0 : decide (x3_3 < (a0_2.size : Int)) = true := decide_eq_true c19; clear c19; by_cases c20 : 0 ≤ x3_3
            ·rw [if_pos c20] at H
             have c20b0 : decide (0 ≤ x3_3) = true := decide_eq_true c20; clear c20; by_cases c22 : (bt a0_2 x3_3) = 0
             ·rw [if_pos c22] at H
              have c22b0 : ((bt a0_2 x3_3) == 0) = true := beq_iff_eq.mpr c22; have c22b1 : ((bt a0_2 x3_3) != 0) = false := bne_eq_false_iff_eq.mpr c22; clear c22; obtain rfl := Option.some.inj H; obtain ⟨hcz23_0, hcz23_1, hcz23_2⟩ := cq3 BK261.out; obtain ⟨hfz23_0, hfz23_1, hfz23_2⟩ := fq3 BK261.out; have p21 : 0 ≤ (x3_3 : Int) := of_decide_eq_true (by assumption); have q21 : x3_3 < (a0_2.size : Int) := of_decide_eq_true (by assumption); have hx21 := bt_at a0_2 x3_3; replace p21 := eq_true p21; replace q21 := eq_true q21; go_wp2
              go_ret; exact ⟨by first | rfl | (simp [eN, eS] <;> rfl) | (simp [*, eN, eS] <;> rfl) | (simp [eN, eS]; first | done | (cases a0_2.toList <;> rfl)), bq⟩
             ·rw [if_neg c22] at H
              have c22b0 : ((bt a0_2 x3_3) == 0) = false := beq_eq_false_iff_ne.mpr c22; have c22b1 : ((bt a0_2 x3_3) != 0) = true := bne_iff_ne.mpr c22; have H' := am H; clear H; obtain ⟨hcz24_0, hcz24_1, hcz24_2⟩ := cq3 BK261.out; obtain ⟨hfz24_0, hfz24_1, hfz24_2⟩ := fq3 BK261.out; have p21 : 0 ≤ (x3_3 : Int) := of_decide_eq_true (by assumption); have q21 : x3_3 < (a0_2.size : Int) := of_decide_eq_true (by assumption); have hx21 := bt_at a0_2 x3_3; replace p21 := eq_true p21; replace q21 := eq_true q21; go_wp2
              go_roundg k3
              case measure => have := HJ1.out; have := HJ13.out; have := HK3.out; omega
              case rel => exact ⟨(wrap64 (x3_3 + 1)), (by first | rfl | (simp; done) | (simp [*]; done)), H', ⟨by have := HJ1.out; have := HJ13.out; have := HK3.out; omega⟩, ⟨bk BK261.out⟩, ⟨bq⟩⟩
            ·rw [if_neg c20] at H
             exact absurd H (by simp)
           ·rw [if_neg c19] at H
            have c19b0 : decide (x3_3 < (a0_2.size : Int)) = false := decide_eq_false c19; clear c19; obtain rfl := Option.some.inj H; obtain ⟨hcz25_0, hcz25_1, hcz25_2⟩ := cq3 BK261.out; obtain ⟨hfz25_0, hfz25_1, hfz25_2⟩ := fq3 BK261.out; go_wp2
            go_ret; exact ⟨by first | rfl | (simp [eN, eS] <;> rfl) | (simp [*, eN, eS] <;> rfl) | (simp [eN, eS]; first | done | (cases a0_2.toList <;> rfl)), bq⟩
        ·rw [if_neg c18] at H
         have c18b0 : (a0_1 == 4) = false := beq_eq_false_iff_ne.mpr c18; have c18b1 : (a0_1 != 4) = true := bne_iff_ne.mpr c18; obtain rfl := Option.some.inj H; go_wp2
         go_ret; exact ⟨by first | rfl | (simp [eN, eS] <;> rfl) | (simp [*, eN, eS] <;> rfl) | (simp [eN, eS]; first | done | (cases a0_2.toList <;> rfl)), bq⟩

end Go.Proofs.YtiamdmlbhmgnjaaDoor.P
