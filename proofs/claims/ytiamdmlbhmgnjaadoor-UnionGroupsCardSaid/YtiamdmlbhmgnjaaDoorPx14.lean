/- Laid by a program of this session (wip/pr), after the printer of the kit: the functions that a statement reaches as plain Lean functions, and that the calls of the machine come to them. No condition. -/
import Derived.Test.YtiamdmlbhmgnjaaDoorPx0
import Derived.Test.YtiamdmlbhmgnjaaDoorPx2
import Derived.Test.YtiamdmlbhmgnjaaDoorPx11
import Derived.Test.YtiamdmlbhmgnjaaDoorPx13
namespace Go.Proofs.YtiamdmlbhmgnjaaDoor.P
open Go.RowKit Go.Proofs.YtiamdmlbhmgnjaaDoorX Go.Proofs.YtiamdmlbhmgnjaaDoorW.PrintWords Go.Proofs.YtiamdmlbhmgnjaaDoorW.PrintLast Go.Proofs.YtiamdmlbhmgnjaaDoorW.PrintMore
attribute [local go_sem] max2_int min2_int max_two min_two
set_option linter.unusedVariables false
set_option linter.unusedSimpArgs false

/-! ### union_Of: function 9 -/
def main_main.f : Option (Bool × List S37 × Bool) := some (false, [], false)
/-- The pile's nodes, sorted. -/
def pile_Sort.f (k : Nat) (s0 : Bool) (s1 : List S37) (s2 : Bool) : Option (List S37 × Bool × List S37 × Bool) := (tree_Sort.f k s1).bind fun t => some (t, s0, s1, s2)
theorem pile_Sort.mono : ∀ a0 a1 a2 k, LeO (pile_Sort.f k a0 a1 a2) (pile_Sort.f (k + 1) a0 a1 a2) := by
 intro a0 a1 a2 k; unfold pile_Sort.f
 exact LeO.bind (tree_Sort.mono _ k) (fun _ => LeO.refl _)
theorem pile_Sort.calls (k : Nat) (g : Nat) (s0 : Bool) (s1 : List S37) (s2 : Bool) (A : Option Addr) (c : Nat) (r1 : List S37) (r2 : Bool) (r3 : List S37) (r4 : Bool) (w0 w : World) (hI : IsS46 w0 w g s0 s1 s2) (hB : Below w0.heap.size w0 w) (hr : Kd.C k37 w A s1.length s1 ∧ s1.length ≤ c) (h : pile_Sort.f k s0 s1 s2 = some (r1, r2, r3, r4)) :
  Calls Tryd.prog 19 #[.slice A s1.length c] w fun e w' => ∃ v0_ : Value, e = .returned (v0_) ∧ Kd.R k37 37 w' w.heap.size (fun _ => True) v0_ r1 ∧ IsS46 w0 w' g r2 r3 r4 ∧ Below w0.heap.size w0 w' ∧ KeepBut w w' g none := by
 unfold pile_Sort.f at h
 obtain ⟨t, ht, h⟩ := oB h; simp only [Option.some.injEq, Prod.mk.injEq] at h
 obtain ⟨rfl, rfl, rfl, rfl⟩ := h; exact Calls.mono (tree_Sort.calls k A c s1 t w hr.1 hr.2 ht) (fun e w' ⟨v, h1, h2, h3⟩ => ⟨v, h1, h2, hI.below h3, hB.trans (h3.mono hB.size), KeepBut.of_below h3 g none⟩)
mutual
def union_Of.j0 : Nat → Int → List (List (S37)) → Bool → Option ((List (S37)) × Int)
 | 0, _, _, _ => none
 | k + 1, x0, x1, x18 => if x18 = true then (some (([] : List (S37)), 2)) else (union_Of.l0 k x0 x1 x1 (x1.length : Int) 0)
def union_Of.l0 : Nat → Int → List (List (S37)) → List (List (S37)) → Int → Int → Option ((List (S37)) × Int)
 | 0, _, _, _, _, _ => none
 | k + 1, x0, x1, x19, x20, x21 => if x21 < x20 then (if 0 ≤ x21 then (if x21 < (x19.length : Int) then ((tree_May.f k (rd_L3 x19 x21)).bind fun t212 => (if t212 = true then (if 0 < ((rd_L3 x19 x21).length : Int) then (if ((rd_T37 (rd_L3 x19 x21) 0).f1) = 1 then (union_Of.l0 k x0 x1 x19 x20 (wrap64 (x21 + 1))) else (some (([] : List (S37)), 7))) else (none)) else (some (([] : List (S37)), 7)))) else (none)) else (none)) else ((main_main.f).bind fun bt214 => ((union_pile_add.f k bt214.1 bt214.2.1 bt214.2.2 (⟨#[]⟩ : ByteArray) 1 (⟨#[]⟩ : ByteArray)).bind fun bt218 => (union_Of.l1 k x0 x1 (x1.length : Int) 0 bt218.1 bt218.2.1 bt218.2.2)))
def union_Of.l1 : Nat → Int → List (List (S37)) → Int → Int → Bool → List (S37) → Bool → Option ((List (S37)) × Int)
 | 0, _, _, _, _, _, _, _ => none
 | k + 1, x0, x42, x43, x44, x218000, x218001, x218002 => if x44 < x43 then (if 0 ≤ x44 then (if x44 < (x42.length : Int) then (union_Of.l2 k x0 x42 x43 x44 (rd_L3 x42 x44) ((rd_L3 x42 x44).length : Int) 0 x218000 x218001 x218002) else (none)) else (none)) else (if x218002 = true then (union_Of.j4 k (x0 == 0) x218000 x218001 x218002) else (union_Of.j4 k false x218000 x218001 x218002))
def union_Of.l2 : Nat → Int → List (List (S37)) → Int → Int → List (S37) → Int → Int → Bool → List (S37) → Bool → Option ((List (S37)) × Int)
 | 0, _, _, _, _, _, _, _, _, _, _ => none
 | k + 1, x0, x42, x43, x44, x48, x49, x50, x218000, x218001, x218002 => if x50 < x49 then (if 0 ≤ x50 then (if x50 < (x48.length : Int) then ((union_pile_add.f k x218000 x218001 x218002 ((rd_T37 x48 x50).f0) ((rd_T37 x48 x50).f1) ((rd_T37 x48 x50).f2)).bind fun bt224 => (union_Of.l2 k x0 x42 x43 x44 x48 x49 (wrap64 (x50 + 1)) bt224.1 bt224.2.1 bt224.2.2)) else (none)) else (none)) else (union_Of.l1 k x0 x42 x43 (wrap64 (x44 + 1)) x218000 x218001 x218002)
def union_Of.j4 : Nat → Bool → Bool → List (S37) → Bool → Option ((List (S37)) × Int)
 | 0, _, _, _, _ => none
 | k + 1, x59, x218000, x218001, x218002 => if x59 = true then (some (([] : List (S37)), 9)) else (if (x218001.length : Int) > 400 then (some (([] : List (S37)), 3)) else ((pile_Sort.f k x218000 x218001 x218002).bind fun bt227 => (some (bt227.1, 0))))
end
def union_Of.f (k : Nat) (a0 : Int) (l1 : List (List (S37))) : Option ((List (S37)) × Int) := if a0 = 0 then (union_Of.j0 k a0 l1 false) else (union_Of.j0 k a0 l1 (a0 != 1))
theorem union_Of.mono_l : ∀ k, (∀ y0 y1 y2, LeO (union_Of.j0 k y0 y1 y2) (union_Of.j0 (k + 1) y0 y1 y2)) ∧ (∀ y0 y1 y2 y3 y4, LeO (union_Of.l0 k y0 y1 y2 y3 y4) (union_Of.l0 (k + 1) y0 y1 y2 y3 y4)) ∧ (∀ y0 y1 y2 y3 y4 y5 y6, LeO (union_Of.l1 k y0 y1 y2 y3 y4 y5 y6) (union_Of.l1 (k + 1) y0 y1 y2 y3 y4 y5 y6)) ∧ (∀ y0 y1 y2 y3 y4 y5 y6 y7 y8 y9, LeO (union_Of.l2 k y0 y1 y2 y3 y4 y5 y6 y7 y8 y9) (union_Of.l2 (k + 1) y0 y1 y2 y3 y4 y5 y6 y7 y8 y9)) ∧ (∀ y0 y1 y2 y3, LeO (union_Of.j4 k y0 y1 y2 y3) (union_Of.j4 (k + 1) y0 y1 y2 y3))
 | 0 => ⟨fun _ _ _ r h => by simp [union_Of.j0] at h, fun _ _ _ _ _ r h => by simp [union_Of.l0] at h, fun _ _ _ _ _ _ _ r h => by simp [union_Of.l1] at h, fun _ _ _ _ _ _ _ _ _ _ r h => by simp [union_Of.l2] at h, fun _ _ _ _ r h => by simp [union_Of.j4] at h⟩
 | k + 1 => by
  obtain ⟨ih0, ih1, ih2, ih3, ih4⟩ := union_Of.mono_l k; refine ⟨?_, ?_, ?_, ?_, ?_⟩
  ·intro y0 y1 y2
   unfold union_Of.j0
   repeat' with_reducible first | exact ih0 _ _ _ | exact ih1 _ _ _ _ _ | exact ih2 _ _ _ _ _ _ _ | exact ih3 _ _ _ _ _ _ _ _ _ _ | exact ih4 _ _ _ _ | exact pile_Sort.mono _ _ _ _ | exact tree_May.mono _ _ | exact union_pile_add.mono _ _ _ _ _ _ _ | exact LeO.refl _ | exact LeO.none _ | refine LeO.ite ?_ ?_ | refine LeO.bind ?_ (fun _ => ?_)
  ·intro y0 y1 y2 y3 y4
   unfold union_Of.l0
   repeat' with_reducible first | exact ih0 _ _ _ | exact ih1 _ _ _ _ _ | exact ih2 _ _ _ _ _ _ _ | exact ih3 _ _ _ _ _ _ _ _ _ _ | exact ih4 _ _ _ _ | exact pile_Sort.mono _ _ _ _ | exact tree_May.mono _ _ | exact union_pile_add.mono _ _ _ _ _ _ _ | exact LeO.refl _ | exact LeO.none _ | refine LeO.ite ?_ ?_ | refine LeO.bind ?_ (fun _ => ?_)
  ·intro y0 y1 y2 y3 y4 y5 y6
   unfold union_Of.l1
   repeat' with_reducible first | exact ih0 _ _ _ | exact ih1 _ _ _ _ _ | exact ih2 _ _ _ _ _ _ _ | exact ih3 _ _ _ _ _ _ _ _ _ _ | exact ih4 _ _ _ _ | exact pile_Sort.mono _ _ _ _ | exact tree_May.mono _ _ | exact union_pile_add.mono _ _ _ _ _ _ _ | exact LeO.refl _ | exact LeO.none _ | refine LeO.ite ?_ ?_ | refine LeO.bind ?_ (fun _ => ?_)
  ·intro y0 y1 y2 y3 y4 y5 y6 y7 y8 y9
   unfold union_Of.l2
   repeat' with_reducible first | exact ih0 _ _ _ | exact ih1 _ _ _ _ _ | exact ih2 _ _ _ _ _ _ _ | exact ih3 _ _ _ _ _ _ _ _ _ _ | exact ih4 _ _ _ _ | exact pile_Sort.mono _ _ _ _ | exact tree_May.mono _ _ | exact union_pile_add.mono _ _ _ _ _ _ _ | exact LeO.refl _ | exact LeO.none _ | refine LeO.ite ?_ ?_ | refine LeO.bind ?_ (fun _ => ?_)
  ·intro y0 y1 y2 y3
   unfold union_Of.j4
   repeat' with_reducible first | exact ih0 _ _ _ | exact ih1 _ _ _ _ _ | exact ih2 _ _ _ _ _ _ _ | exact ih3 _ _ _ _ _ _ _ _ _ _ | exact ih4 _ _ _ _ | exact pile_Sort.mono _ _ _ _ | exact tree_May.mono _ _ | exact union_pile_add.mono _ _ _ _ _ _ _ | exact LeO.refl _ | exact LeO.none _ | refine LeO.ite ?_ ?_ | refine LeO.bind ?_ (fun _ => ?_)
theorem union_Of.mono : ∀ a0 a1 k, LeO (union_Of.f k a0 a1) (union_Of.f (k + 1) a0 a1) := by
 intro a0 a1 k; obtain ⟨ih0, ih1, ih2, ih3, ih4⟩ := union_Of.mono_l k; unfold union_Of.f
 repeat' with_reducible first | exact ih0 _ _ _ | exact ih1 _ _ _ _ _ | exact ih2 _ _ _ _ _ _ _ | exact ih3 _ _ _ _ _ _ _ _ _ _ | exact ih4 _ _ _ _ | exact pile_Sort.mono _ _ _ _ | exact tree_May.mono _ _ | exact union_pile_add.mono _ _ _ _ _ _ _ | exact LeO.refl _ | exact LeO.none _ | refine LeO.ite ?_ ?_ | refine LeO.bind ?_ (fun _ => ?_)
set_option maxHeartbeats 8000000 in
set_option maxRecDepth 100000 in
theorem union_Of.calls (k : Nat) (a0 : Int) (A1 : Option Addr) (c1 : Nat) (l1 : List (List (S37))) (r1 : List (S37)) (r2 : Int) (w : World) (hr1 : Kd.C (Kd.slice 37 k37) w A1 l1.length l1) (hc1 : l1.length ≤ c1) (h : union_Of.f k a0 l1 = some (r1, r2)) :
  Calls Tryd.prog 9 #[.int .i64 a0, .slice A1 l1.length c1] w fun e w' => ∃ v0_ : Value, e = .returned (.tuple #[v0_, .int .i64 r2]) ∧ Kd.R k37 37 w' w.heap.size (fun _ => True) v0_ r1 ∧ Below w.heap.size w w' := by
 have hu37 := Tryd.underlying37; have HR1 := am hr1; have HC1 := am hc1; clear hr1 hc1; have HB := am (Below.refl w.heap.size w); have H : (if a0 = 0 then (union_Of.j0 k a0 l1 false) else (union_Of.j0 k a0 l1 (a0 != 1))) = some (r1, r2) := h; clear h; have HC3 := am H; clear H; go_enter Tryd.func9, Tryd.ntmps9; go_upto_region 1 with (fail)
 go_cut [18] (fun v18 wc => ∃ (kq : Nat) (x18_2 : Bool), v18 = .bool x18_2 ∧ Aside0 (union_Of.j0 kq a0 l1 x18_2 = some (r1, r2)) ∧ Aside0 (kq ≤ k) ∧ Aside0 (Below w.heap.size w wc))
 case first =>
  have H := HC3.out; clear HC3; by_cases c4 : a0 = 0
  ·rw [if_pos c4] at H
   have c4b0 : (a0 == 0) = true := beq_iff_eq.mpr c4; have c4b1 : (a0 != 0) = false := bne_eq_false_iff_eq.mpr c4; clear c4; (first | rw [c4b0] | (simp only [i64_w, i32_w]; rw [c4b0]) | skip)
   have H' := am H; clear H; go_wp2
   go_meet; case rel => exact ⟨_, (false), (by first | rfl | (simp; done) | (simp [*]; done)), H', ⟨by first | omega | exact Nat.le_refl _⟩, ⟨bz⟩⟩
  ·rw [if_neg c4] at H
   have c4b0 : (a0 == 0) = false := beq_eq_false_iff_ne.mpr c4; have c4b1 : (a0 != 0) = true := bne_iff_ne.mpr c4; (first | rw [c4b0] | (simp only [i64_w, i32_w]; rw [c4b0]) | skip)
   have H' := am H; clear H; go_wp2
   go_meet; case rel => exact ⟨_, ((a0 != 1)), (by first | rfl | (simp; done) | (simp [*]; done)), H', ⟨by first | omega | exact Nat.le_refl _⟩, ⟨bz⟩⟩
 case rest =>
  clear HC3; (try clear c1); (try clear p2); (try clear c4); (try clear c4b0); (try clear c4b1); obtain ⟨kq, x18_2, rfl, HA, HJ2, HB⟩ := hcut; cases kq with
  | zero => exact absurd HA.out (by simp [union_Of.j0])
  | succ kj2 =>
   have H := HA.out; clear HA; simp only [union_Of.j0] at H
   by_cases c5 : x18_2 = true
   ·subst c5
    have H1 : (some (([] : List (S37)), 2)) = some (r1, r2) := by rw [if_pos rfl] at H; exact H
    clear H; have H := H1; clear H1; simp only [Option.some.injEq, Prod.mk.injEq] at H
    obtain ⟨rfl, rfl⟩ := H; go_wp2
    go_ret2; exact ⟨_, by first | rfl | (simp [eN, eS] <;> rfl) | (simp [*, eN, eS] <;> rfl), by first | exact Kd.R_nil _ _ _ _ _ | exact Kd.N_nil _ _ _ _ _ | exact Kd.V_nil _ _ _ _ _ | exact Kd.Q_nil _ _ _ _ _ | exact Kd.S_nil _ _ _ _ _, bz⟩
   ·replace c5 := Bool.eq_false_iff.mpr c5
    subst c5; have H1 : (union_Of.l0 kj2 a0 l1 l1 (l1.length : Int) 0) = some (r1, r2) := by rw [if_neg (show ¬ (false = true) by decide)] at H; exact H
    clear H; have H := H1; clear H1; have H' := am H; clear H; go_wp2
    go_loopg [21] kj2 (fun kq v21 w' => ∃ (x21_2 : Int), v21 = .int .i64 x21_2 ∧ Aside0 (union_Of.l0 kq a0 l1 l1 (l1.length : Int) x21_2 = some (r1, r2)) ∧ Aside0 (kq ≤ kj2) ∧ Aside0 (Below w.heap.size w w'))
    case atStart => exact ⟨(0), (by first | rfl | (simp; done) | (simp [*]; done)), H', ⟨Nat.le_refl _⟩, ⟨bz⟩⟩
    case round =>
     clear H'; (try clear c1); (try clear p2); (try clear c4); (try clear c4b0); (try clear c4b1); (try clear c5); (try clear p2); obtain ⟨x21_2, rfl, HA, HK2, HB⟩ := hrel; cases gk with
     | zero => exact absurd HA.out (by simp [union_Of.l0])
     | succ k2 =>
      have H := HA.out; clear HA; simp only [union_Of.l0] at H
      by_cases c6 : x21_2 < (l1.length : Int)
      ·rw [if_pos c6] at H
       have c6b0 : decide (x21_2 < (l1.length : Int)) = true := decide_eq_true c6; clear c6; by_cases c7 : 0 ≤ x21_2
       ·rw [if_pos c7] at H
        have c7b0 : decide (0 ≤ x21_2) = true := decide_eq_true c7; clear c7; by_cases c8 : x21_2 < (l1.length : Int)
        ·rw [if_pos c8] at H
         have c8b0 : decide (x21_2 < (l1.length : Int)) = true := decide_eq_true c8; clear c8; refine oR H ?_; clear H; intro t212 A9 H; by_cases c10 : t212 = true
         ·subst c10
          have H1 : (if 0 < ((rd_L3 l1 x21_2).length : Int) then (if ((rd_T37 (rd_L3 l1 x21_2) 0).f1) = 1 then (union_Of.l0 k2 a0 l1 l1 (l1.length : Int) (wrap64 (x21_2 + 1))) else (some (([] : List (S37)), 7))) else (none)) = some (r1, r2) := by rw [if_pos rfl] at H; exact H
          clear H; have H := H1; clear H1; by_cases c11 : 0 < ((rd_L3 l1 x21_2).length : Int)
          ·rw [if_pos c11] at H
           have c11b0 : decide (0 < ((rd_L3 l1 x21_2).length : Int)) = true := decide_eq_true c11; have c11b1 : decide (0 < (rd_L3 l1 x21_2).length) = true := decide_eq_true (by omega); clear c11; by_cases c12 : ((rd_T37 (rd_L3 l1 x21_2) 0).f1) = 1
           ·rw [if_pos c12] at H
            have c12b0 : (((rd_T37 (rd_L3 l1 x21_2) 0).f1) == 1) = true := beq_iff_eq.mpr c12; have c12b1 : (((rd_T37 (rd_L3 l1 x21_2) 0).f1) != 1) = false := bne_eq_false_iff_eq.mpr c12; clear c12; have H' := am H; clear H; have p211 : 0 ≤ (x21_2 : Int) := of_decide_eq_true (by assumption); have q211 : x21_2 < (l1.length : Int) := of_decide_eq_true (by assumption); obtain ⟨ad211, A211_0, c211_0, e211, hx211_0, hl211_0, hi211_0⟩ := at_L3 HR1.out x21_2 p211 q211; cases e211; replace hx211_0 := (HB.out.cell (wB w _ hx211_0)).trans hx211_0; have HR211_0 := am hi211_0; have HC211_0 := am hl211_0; clear hi211_0 hl211_0; replace p211 := eq_true p211; replace q211 := eq_true q211; go_wp2_with (first | ((with_reducible refine gate_callee (f := 15) rfl ?_); refine gL (some 26) Tryd.func15 #[.slice A211_0 (rd_L3 l1 x21_2).length c211_0] ?_; (with_reducible refine (tree_May.calls k2 _ _ (rd_L3 l1 x21_2) true _ ?side1 ?side2 A9.out).mono ?_); (case side1 => exact cz (Kd.C_below HR211_0.out HB.out)); (case side2 => exact HC211_0.out); rintro e w13 ⟨rfl, hb⟩; refine ⟨_, rfl, ?_⟩; replace HB := bs hb; have p213 : 0 ≤ (0 : Int) := (by omega); have q213 : 0 < ((rd_L3 l1 x21_2).length : Int) := of_decide_eq_true (by assumption); obtain ⟨ad213, e213, hx213_0, hx213_1, hx213_2⟩ := at_T37 HR211_0.out 0 p213 q213; cases e213; have qi213 : (0 < (rd_L3 l1 x21_2).length) = True := eq_true (by omega); (try rw [show ((0 : Int)).toNat = 0 from rfl] at hx213_0); (try rw [show 0 * 3 = 0 from rfl] at hx213_0); (try rw [Addr.add_zero'] at hx213_0); (try rw [show ((0 : Int)).toNat = 0 from rfl] at hx213_1); (try rw [show 0 * 3 = 0 from rfl] at hx213_1); (try rw [Addr.add_zero'] at hx213_1); (try rw [show ((0 : Int)).toNat = 0 from rfl] at hx213_2); (try rw [show 0 * 3 = 0 from rfl] at hx213_2); (try rw [Addr.add_zero'] at hx213_2); replace hx213_0 := (HB.out.cell (wB w _ hx213_0)).trans hx213_0; replace hx213_1 := (HB.out.cell (wB w _ hx213_1)).trans hx213_1; replace hx213_2 := (HB.out.cell (wB w _ hx213_2)).trans hx213_2; replace p213 := eq_true p213; replace q213 := eq_true q213))
            go_roundg k2
            case measure => have := HJ2.out; have := HK2.out; omega
            case rel => exact ⟨(wrap64 (x21_2 + 1)), (by first | rfl | (simp; done) | (simp [*]; done)), H', ⟨by have := HJ2.out; have := HK2.out; omega⟩, ⟨bz⟩⟩
           ·rw [if_neg c12] at H
            have c12b0 : (((rd_T37 (rd_L3 l1 x21_2) 0).f1) == 1) = false := beq_eq_false_iff_ne.mpr c12; have c12b1 : (((rd_T37 (rd_L3 l1 x21_2) 0).f1) != 1) = true := bne_iff_ne.mpr c12; simp only [Option.some.injEq, Prod.mk.injEq] at H
            obtain ⟨rfl, rfl⟩ := H; have p211 : 0 ≤ (x21_2 : Int) := of_decide_eq_true (by assumption); have q211 : x21_2 < (l1.length : Int) := of_decide_eq_true (by assumption); obtain ⟨ad211, A211_0, c211_0, e211, hx211_0, hl211_0, hi211_0⟩ := at_L3 HR1.out x21_2 p211 q211; cases e211; replace hx211_0 := (HB.out.cell (wB w _ hx211_0)).trans hx211_0; have HR211_0 := am hi211_0; have HC211_0 := am hl211_0; clear hi211_0 hl211_0; replace p211 := eq_true p211; replace q211 := eq_true q211; go_wp2_with (first | ((with_reducible refine gate_callee (f := 15) rfl ?_); refine gL (some 26) Tryd.func15 #[.slice A211_0 (rd_L3 l1 x21_2).length c211_0] ?_; (with_reducible refine (tree_May.calls k2 _ _ (rd_L3 l1 x21_2) true _ ?side1 ?side2 A9.out).mono ?_); (case side1 => exact cz (Kd.C_below HR211_0.out HB.out)); (case side2 => exact HC211_0.out); rintro e w14 ⟨rfl, hb⟩; refine ⟨_, rfl, ?_⟩; replace HB := bs hb; have p213 : 0 ≤ (0 : Int) := (by omega); have q213 : 0 < ((rd_L3 l1 x21_2).length : Int) := of_decide_eq_true (by assumption); obtain ⟨ad213, e213, hx213_0, hx213_1, hx213_2⟩ := at_T37 HR211_0.out 0 p213 q213; cases e213; have qi213 : (0 < (rd_L3 l1 x21_2).length) = True := eq_true (by omega); (try rw [show ((0 : Int)).toNat = 0 from rfl] at hx213_0); (try rw [show 0 * 3 = 0 from rfl] at hx213_0); (try rw [Addr.add_zero'] at hx213_0); (try rw [show ((0 : Int)).toNat = 0 from rfl] at hx213_1); (try rw [show 0 * 3 = 0 from rfl] at hx213_1); (try rw [Addr.add_zero'] at hx213_1); (try rw [show ((0 : Int)).toNat = 0 from rfl] at hx213_2); (try rw [show 0 * 3 = 0 from rfl] at hx213_2); (try rw [Addr.add_zero'] at hx213_2); replace hx213_0 := (HB.out.cell (wB w _ hx213_0)).trans hx213_0; replace hx213_1 := (HB.out.cell (wB w _ hx213_1)).trans hx213_1; replace hx213_2 := (HB.out.cell (wB w _ hx213_2)).trans hx213_2; replace p213 := eq_true p213; replace q213 := eq_true q213))
            go_ret2; exact ⟨_, by first | rfl | (simp [eN, eS] <;> rfl) | (simp [*, eN, eS] <;> rfl), by first | exact Kd.R_nil _ _ _ _ _ | exact Kd.N_nil _ _ _ _ _ | exact Kd.V_nil _ _ _ _ _ | exact Kd.Q_nil _ _ _ _ _ | exact Kd.S_nil _ _ _ _ _, bz⟩
          ·rw [if_neg c11] at H
           exact absurd H (by simp)
         ·replace c10 := Bool.eq_false_iff.mpr c10
          subst c10; have H1 : (some (([] : List (S37)), 7)) = some (r1, r2) := by rw [if_neg (show ¬ (false = true) by decide)] at H; exact H
          clear H; have H := H1; clear H1; simp only [Option.some.injEq, Prod.mk.injEq] at H
          obtain ⟨rfl, rfl⟩ := H; have p211 : 0 ≤ (x21_2 : Int) := of_decide_eq_true (by assumption); have q211 : x21_2 < (l1.length : Int) := of_decide_eq_true (by assumption); obtain ⟨ad211, A211_0, c211_0, e211, hx211_0, hl211_0, hi211_0⟩ := at_L3 HR1.out x21_2 p211 q211; cases e211; replace hx211_0 := (HB.out.cell (wB w _ hx211_0)).trans hx211_0; have HR211_0 := am hi211_0; have HC211_0 := am hl211_0; clear hi211_0 hl211_0; replace p211 := eq_true p211; replace q211 := eq_true q211; go_wp2_with (first | ((with_reducible refine gate_callee (f := 15) rfl ?_); refine gL (some 26) Tryd.func15 #[.slice A211_0 (rd_L3 l1 x21_2).length c211_0] ?_; (with_reducible refine (tree_May.calls k2 _ _ (rd_L3 l1 x21_2) false _ ?side1 ?side2 A9.out).mono ?_); (case side1 => exact cz (Kd.C_below HR211_0.out HB.out)); (case side2 => exact HC211_0.out); rintro e w15 ⟨rfl, hb⟩; refine ⟨_, rfl, ?_⟩; replace HB := bs hb))
          go_ret2; exact ⟨_, by first | rfl | (simp [eN, eS] <;> rfl) | (simp [*, eN, eS] <;> rfl), by first | exact Kd.R_nil _ _ _ _ _ | exact Kd.N_nil _ _ _ _ _ | exact Kd.V_nil _ _ _ _ _ | exact Kd.Q_nil _ _ _ _ _ | exact Kd.S_nil _ _ _ _ _, bz⟩
        ·rw [if_neg c8] at H
         exact absurd H (by simp)
       ·rw [if_neg c7] at H
        exact absurd H (by simp)
      ·rw [if_neg c6] at H
       have c6b0 : decide (x21_2 < (l1.length : Int)) = false := decide_eq_false c6; clear c6; replace H := oB H; obtain ⟨⟨t214, t215, t216⟩, A160, H⟩ := H; replace H : ((union_pile_add.f k2 t214 t215 t216 (⟨#[]⟩ : ByteArray) 1 (⟨#[]⟩ : ByteArray)).bind fun bt218 => (union_Of.l1 k2 a0 l1 (l1.length : Int) 0 bt218.1 bt218.2.1 bt218.2.2)) = some (r1, r2) := H; have A16 := am A160; clear A160; replace H := oB H; obtain ⟨⟨t218, t219, t220⟩, A170, H⟩ := H; replace H : (union_Of.l1 k2 a0 l1 (l1.length : Int) 0 t218 t219 t220) = some (r1, r2) := H; have A17 := am A170; clear A170; have H' := am H; clear H; have hmm := @run_makeMap Tryd.prog; refine wp_named (fun wq_ hq_ => ?_)
       subst hq_; go_wp2_with (first | ((with_reducible refine gate_dst (N := 38) rfl ?_); (try (refine gate_guard (by rfl) ?_; dsimp only)); refine bx 38 #[.map (some wq_.heap.size), .slice none 0 0, .bool false] 46 ?_; intro g217 hg w18 hbox hb; obtain ⟨z1_, z2_, z3_⟩ : t214 = false ∧ t215 = [] ∧ t216 = false := (by have A_ := A16.out; simp only [main_main.f, Option.some.injEq, Prod.mk.injEq] at A_; exact ⟨A_.1.symm, A_.2.1.symm, A_.2.2.symm⟩); have n1_ := am (show IsS46 w w18 g217 t214 t215 t216 from by rw [z1_, z2_, z3_]; exact ⟨_, _, hbox, by rw [hg]; exact below_size bz, below_size HB.out, Kd.R_nil _ _ _ _ _, MapN.below (MapN.empty Tryd.prog 9 wq_) hb (MapN.lt (MapN.empty Tryd.prog 9 wq_))⟩); have n0_ := bs hb; clear z1_ z2_ z3_; clear HB; have HB := n0_; have HI217 := n1_; clear n0_ n1_; clear hbox hb hg) | ((with_reducible refine gate_callee (f := 18) rfl ?_); refine gL (some 41) Tryd.func18 #[.pointer (some ⟨g217, 0, none⟩), .agg #[.string (⟨#[]⟩ : ByteArray), .int .i64 1, .string (⟨#[]⟩ : ByteArray)]] ?_; (with_reducible refine (union_pile_add.calls k2 g217 t214 t215 t216 (⟨#[]⟩ : ByteArray) 1 (⟨#[]⟩ : ByteArray) t218 t219 t220 w _ ?side1 ?side2 A17.out).mono ?_); (case side1 => repeat (first | (with_reducible first | exact HI217.out | apply IsS46.alloc | apply IsS46.drewN | apply IsS46.drew | apply IsS46.set_0 | apply IsS46.set_1 | apply IsS46.set_2) | exact HI217.out)); (case side2 => repeat (first | (with_reducible first | exact HB.out | apply bA | apply bN | apply bO | refine below_set ?_ (IsS46.ge HI217.out)) | exact HB.out)); rintro e w19 ⟨rfl, hi, hb⟩; refine ⟨_, rfl, ?_⟩; replace HB := am (hb); replace HI217 := am (hi)))
       go_loopg [44] k2 (fun kq v44 w' => ∃ (x44_3 : Int) (x218000_3 : Bool) (x218001_3 : List (S37)) (x218002_3 : Bool) (u218001 : Value), v44 = .int .i64 x44_3 ∧ Aside0 (union_Of.l1 kq a0 l1 (l1.length : Int) x44_3 x218000_3 x218001_3 x218002_3 = some (r1, r2)) ∧ Aside0 (kq ≤ k2) ∧ Aside0 (IsS46 w w' g217 x218000_3 x218001_3 x218002_3) ∧ Aside0 (Below w.heap.size w w'))
       case atStart => exact ⟨(0), (t218), (t219), (t220), (Value.bool false), (by first | rfl | (simp; done) | (simp [*]; done)), H', ⟨Nat.le_refl _⟩, ⟨by repeat (first | (with_reducible first | exact HI217.out | apply IsS46.alloc | apply IsS46.drewN | apply IsS46.drew | apply IsS46.set_0 | apply IsS46.set_1 | apply IsS46.set_2) | exact HI217.out)⟩, ⟨by repeat (first | (with_reducible first | exact HB.out | apply bA | apply bN | apply bO | refine below_set ?_ (IsS46.ge HI217.out)) | exact HB.out)⟩⟩
       case round =>
        clear H'; (try clear c1); (try clear c2); (try clear p2); (try clear q2); (try clear hx2); (try clear qi2); (try clear c4); (try clear c4b0); (try clear c4b1); (try clear c5); (try clear c6); (try clear c6b0); (try clear p6); (try clear c7); (try clear c7b0); (try clear c8); (try clear c8b0); (try clear c9); (try clear c10); (try clear c11); (try clear c11b0); (try clear c11b1); (try clear c12); (try clear c12b0); (try clear c12b1); (try clear c15); (try clear c18); (try clear hx211_0); (try clear hx213_0); (try clear hx213_1); (try clear hx213_2); (try clear p2); (try clear p211); (try clear p213); (try clear q211); (try clear q213); obtain ⟨x44_3, x218000_3, x218001_3, x218002_3, u218001, rfl, HA, HK3, HI217, HB⟩ := hrel; cases gk with
        | zero => exact absurd HA.out (by simp [union_Of.l1])
        | succ k3 =>
         have H := HA.out; clear HA; simp only [union_Of.l1] at H
         by_cases c20 : x44_3 < (l1.length : Int)
         ·rw [if_pos c20] at H
          have c20b0 : decide (x44_3 < (l1.length : Int)) = true := decide_eq_true c20; clear c20; by_cases c21 : 0 ≤ x44_3
          ·rw [if_pos c21] at H
           have c21b0 : decide (0 ≤ x44_3) = true := decide_eq_true c21; clear c21; by_cases c22 : x44_3 < (l1.length : Int)
           ·rw [if_pos c22] at H
            have c22b0 : decide (x44_3 < (l1.length : Int)) = true := decide_eq_true c22; clear c22; have H' := am H; clear H; have p221 : 0 ≤ (x44_3 : Int) := of_decide_eq_true (by assumption); have q221 : x44_3 < (l1.length : Int) := of_decide_eq_true (by assumption); obtain ⟨ad221, A221_0, c221_0, e221, hx221_0, hl221_0, hi221_0⟩ := at_L3 HR1.out x44_3 p221 q221; cases e221; replace hx221_0 := (HB.out.cell (wB w _ hx221_0)).trans hx221_0; have HR221_0 := am hi221_0; have HC221_0 := am hl221_0; clear hi221_0 hl221_0; replace p221 := eq_true p221; replace q221 := eq_true q221; go_wp2
            go_loopg [50] k3 (fun kq v50 w' => ∃ (x50_4 : Int) (x218000_4 : Bool) (x218001_4 : List (S37)) (x218002_4 : Bool) (u218001 : Value), v50 = .int .i64 x50_4 ∧ Aside0 (union_Of.l2 kq a0 l1 (l1.length : Int) x44_3 (rd_L3 l1 x44_3) ((rd_L3 l1 x44_3).length : Int) x50_4 x218000_4 x218001_4 x218002_4 = some (r1, r2)) ∧ Aside0 (kq ≤ k3) ∧ Aside0 (IsS46 w w' g217 x218000_4 x218001_4 x218002_4) ∧ Aside0 (Below w.heap.size w w'))
            case atStart => exact ⟨(0), (x218000_3), (x218001_3), (x218002_3), (Value.bool false), (by first | rfl | (simp; done) | (simp [*]; done)), H', ⟨Nat.le_refl _⟩, ⟨by repeat (first | (with_reducible first | exact HI217.out | apply IsS46.alloc | apply IsS46.drewN | apply IsS46.drew | apply IsS46.set_0 | apply IsS46.set_1 | apply IsS46.set_2) | exact HI217.out)⟩, ⟨by repeat (first | (with_reducible first | exact HB.out | apply bA | apply bN | apply bO | refine below_set ?_ (IsS46.ge HI217.out)) | exact HB.out)⟩⟩
            case round =>
             clear H'; (try clear c1); (try clear c2); (try clear p2); (try clear q2); (try clear hx2); (try clear qi2); (try clear c4); (try clear c4b0); (try clear c4b1); (try clear c5); (try clear c6); (try clear c6b0); (try clear p6); (try clear c7); (try clear c7b0); (try clear c8); (try clear c8b0); (try clear c9); (try clear c10); (try clear c11); (try clear c11b0); (try clear c11b1); (try clear c12); (try clear c12b0); (try clear c12b1); (try clear c15); (try clear c18); (try clear c20); (try clear c20b0); (try clear c21); (try clear c21b0); (try clear p21); (try clear q21); (try clear hx21); (try clear qi21); (try clear c22); (try clear c22b0); (try clear p22); (try clear q22); (try clear hx22); (try clear hx211_0); (try clear hx213_0); (try clear hx213_1); (try clear hx213_2); (try clear hx221_0); (try clear p2); (try clear p211); (try clear p213); (try clear p221); (try clear p6); (try clear q2); (try clear q211); (try clear q213); (try clear q221); obtain ⟨x50_4, x218000_4, x218001_4, x218002_4, u218001, rfl, HA, HK4, HI217, HB⟩ := hrel; cases gk with
             | zero => exact absurd HA.out (by simp [union_Of.l2])
             | succ k4 =>
              have H := HA.out; clear HA; simp only [union_Of.l2] at H
              by_cases c23 : x50_4 < ((rd_L3 l1 x44_3).length : Int)
              ·rw [if_pos c23] at H
               have c23b0 : decide (x50_4 < ((rd_L3 l1 x44_3).length : Int)) = true := decide_eq_true c23; clear c23; by_cases c24 : 0 ≤ x50_4
               ·rw [if_pos c24] at H
                have c24b0 : decide (0 ≤ x50_4) = true := decide_eq_true c24; clear c24; by_cases c25 : x50_4 < ((rd_L3 l1 x44_3).length : Int)
                ·rw [if_pos c25] at H
                 have c25b0 : decide (x50_4 < ((rd_L3 l1 x44_3).length : Int)) = true := decide_eq_true c25; clear c25; replace H := oB H; obtain ⟨⟨t224, t225, t226⟩, A260, H⟩ := H; replace H : (union_Of.l2 k4 a0 l1 (l1.length : Int) x44_3 (rd_L3 l1 x44_3) ((rd_L3 l1 x44_3).length : Int) (wrap64 (x50_4 + 1)) t224 t225 t226) = some (r1, r2) := H; have A26 := am A260; clear A260; have H' := am H; clear H; have p222 : 0 ≤ (x50_4 : Int) := of_decide_eq_true (by assumption); have q222 : x50_4 < ((rd_L3 l1 x44_3).length : Int) := of_decide_eq_true (by assumption); obtain ⟨ad222, e222, hx222_0, hx222_1, hx222_2⟩ := at_T37 HR221_0.out x50_4 p222 q222; cases e222; replace hx222_0 := (HB.out.cell (wB w _ hx222_0)).trans hx222_0; replace hx222_1 := (HB.out.cell (wB w _ hx222_1)).trans hx222_1; replace hx222_2 := (HB.out.cell (wB w _ hx222_2)).trans hx222_2; replace p222 := eq_true p222; replace q222 := eq_true q222; go_wp2_with (first | ((with_reducible refine gate_dst (N := 12) rfl ?_); refine bx 12 #[.string (⟨#[]⟩ : ByteArray), .int .i64 0, .string (⟨#[]⟩ : ByteArray)] 37 ?_; intro gb223 hg w27 hbox hb; have HNX := am (IsS46.boxN (show IsS46 w _ g217 x218000_4 x218001_4 x218002_4 from (by repeat (first | (with_reducible first | exact HI217.out | apply IsS46.alloc | apply IsS46.drewN | apply IsS46.drew | apply IsS46.set_0 | apply IsS46.set_1 | apply IsS46.set_2) | exact HI217.out))) hg hb); have BK223 := am (hbox); have GW223 := am ((by rw [hg]; exact (below_size (by repeat (first | (with_reducible first | exact HB.out | apply bA | apply bN | apply bO | refine below_set ?_ (IsS46.ge HI217.out)) | exact HB.out))) : w.heap.size ≤ gb223)); have GE223 := am ((by rw [hg]; exact (below_size (by repeat (first | (with_reducible first | exact HB.out | apply bA | apply bN | apply bO | refine below_set ?_ (IsS46.ge HI217.out)) | exact HB.out))) : w.heap.size ≤ gb223)); replace HB := am (below_step (by repeat (first | (with_reducible first | exact HB.out | apply bA | apply bN | apply bO | refine below_set ?_ (IsS46.ge HI217.out)) | exact HB.out)) hb); have NB217_223 := am ((by rw [hg]; exact Nat.ne_of_lt (IsS46.lt (show IsS46 w _ g217 x218000_4 x218001_4 x218002_4 from by repeat (first | (with_reducible first | exact HI217.out | apply IsS46.alloc | apply IsS46.drewN | apply IsS46.drew | apply IsS46.set_0 | apply IsS46.set_1 | apply IsS46.set_2) | exact HI217.out))) : g217 ≠ gb223)); have NB223_217 := am ((by rw [hg]; exact Nat.ne_of_gt (IsS46.lt (show IsS46 w _ g217 x218000_4 x218001_4 x218002_4 from by repeat (first | (with_reducible first | exact HI217.out | apply IsS46.alloc | apply IsS46.drewN | apply IsS46.drew | apply IsS46.set_0 | apply IsS46.set_1 | apply IsS46.set_2) | exact HI217.out))) : gb223 ≠ g217)); replace HI217 := am (IsS46.below (by repeat (first | (with_reducible first | exact HI217.out | apply IsS46.alloc | apply IsS46.drewN | apply IsS46.drew | apply IsS46.set_0 | apply IsS46.set_1 | apply IsS46.set_2) | exact HI217.out)) hb); clear hb hbox hg; have hnb28 := NB223_217.out; have hnc28 := NB217_223.out; obtain ⟨hcz29_0, hcz29_1, hcz29_2⟩ := cq3 BK223.out; obtain ⟨hfz29_0, hfz29_1, hfz29_2⟩ := fq3 BK223.out) | ((with_reducible refine gate_callee (f := 18) rfl ?_); refine gL (some 56) Tryd.func18 #[.pointer (some ⟨g217, 0, none⟩), .agg #[.string ((rd_T37 (rd_L3 l1 x44_3) x50_4).f0), .int .i64 ((rd_T37 (rd_L3 l1 x44_3) x50_4).f1), .string ((rd_T37 (rd_L3 l1 x44_3) x50_4).f2)]] ?_; (with_reducible refine (union_pile_add.calls k4 g217 x218000_4 x218001_4 x218002_4 ((rd_T37 (rd_L3 l1 x44_3) x50_4).f0) ((rd_T37 (rd_L3 l1 x44_3) x50_4).f1) ((rd_T37 (rd_L3 l1 x44_3) x50_4).f2) t224 t225 t226 w _ ?side1 ?side2 A26.out).mono ?_); (case side1 => repeat (first | (with_reducible first | exact HI217.out | apply IsS46.alloc | apply IsS46.drewN | apply IsS46.drew | apply IsS46.set_0 | apply IsS46.set_1 | apply IsS46.set_2 | exact IsS46.far3N HI217.out HNX.out _ _ _) | exact HI217.out)); (case side2 => repeat (first | (with_reducible first | exact HB.out | apply bA | apply bN | apply bO | refine below_set ?_ (IsS46.ge HI217.out) | refine below_set ?_ GE223.out) | exact HB.out)); rintro e w30 ⟨rfl, hi, hb⟩; refine ⟨_, rfl, ?_⟩; replace BK223 := am trivial; replace HB := am (hb); replace HI217 := am (hi)))
                 go_roundg k4
                 case measure => have := HJ2.out; have := HK2.out; have := HK3.out; have := HK4.out; omega
                 case rel => exact ⟨(wrap64 (x50_4 + 1)), (t224), (t225), (t226), (Value.bool false), (by first | rfl | (simp; done) | (simp [*]; done)), H', ⟨by have := HJ2.out; have := HK2.out; have := HK3.out; have := HK4.out; omega⟩, ⟨by repeat (first | (with_reducible first | exact HI217.out | apply IsS46.alloc | apply IsS46.drewN | apply IsS46.drew | apply IsS46.set_0 | apply IsS46.set_1 | apply IsS46.set_2 | refine IsS46.far ?_ NB217_223.out _) | exact HI217.out)⟩, ⟨by repeat (first | (with_reducible first | exact HB.out | apply bA | apply bN | apply bO | refine below_set ?_ (IsS46.ge HI217.out) | refine below_set ?_ GE223.out) | exact HB.out)⟩⟩
                ·rw [if_neg c25] at H
                 exact absurd H (by simp)
               ·rw [if_neg c24] at H
                exact absurd H (by simp)
              ·rw [if_neg c23] at H
               have c23b0 : decide (x50_4 < ((rd_L3 l1 x44_3).length : Int)) = false := decide_eq_false c23; clear c23; have H' := am H; clear H; go_wp2
               go_roundg k4
               case measure => have := HJ2.out; have := HK2.out; have := HK3.out; have := HK4.out; omega
               case rel => exact ⟨(wrap64 (x44_3 + 1)), (x218000_4), (x218001_4), (x218002_4), (Value.bool false), (by first | rfl | (simp; done) | (simp [*]; done)), H', ⟨by have := HJ2.out; have := HK2.out; have := HK3.out; have := HK4.out; omega⟩, ⟨by repeat (first | (with_reducible first | exact HI217.out | apply IsS46.alloc | apply IsS46.drewN | apply IsS46.drew | apply IsS46.set_0 | apply IsS46.set_1 | apply IsS46.set_2) | exact HI217.out)⟩, ⟨by repeat (first | (with_reducible first | exact HB.out | apply bA | apply bN | apply bO | refine below_set ?_ (IsS46.ge HI217.out)) | exact HB.out)⟩⟩
           ·rw [if_neg c22] at H
            exact absurd H (by simp)
          ·rw [if_neg c21] at H
           exact absurd H (by simp)
         ·rw [if_neg c20] at H
          have c20b0 : decide (x44_3 < (l1.length : Int)) = false := decide_eq_false c20; clear c20; have HC31 := am H; clear H; go_upto_region 20 with (fail)
          go_cut [59] (fun v59 wc => ∃ (kq : Nat) (x59_30 : Bool), v59 = .bool x59_30 ∧ Aside0 (union_Of.j4 kq x59_30 x218000_3 x218001_3 x218002_3 = some (r1, r2)) ∧ Aside0 (kq ≤ k3) ∧ Aside0 (IsS46 w wc g217 x218000_3 x218001_3 x218002_3) ∧ Aside0 (Below w.heap.size w wc))
          case first =>
           have H := HC31.out; clear HC31; by_cases c32 : x218002_3 = true
           ·subst c32
            have H1 : (union_Of.j4 k3 (a0 == 0) x218000_3 x218001_3 true) = some (r1, r2) := by rw [if_pos rfl] at H; exact H
            clear H; have H := H1; clear H1; have H' := am H; clear H; obtain ⟨mSz_, ASz33_1, cSz33_1, HGz33, hgz33, HSz33_1⟩ := IsS46.open_ HI217.out; have hcz33_0 := cellS46_0 HGz33; have hcz33_1 := cellS46_1 HGz33; have hcz33_2 := cellS46_2 HGz33; have hfz33_0 := blk_frozen HGz33 0; have hfz33_1 := blk_frozen HGz33 1; have hfz33_2 := blk_frozen HGz33 2; clear HGz33 hgz33; go_wp2
            go_meet; case rel => exact ⟨_, ((a0 == 0)), (by first | rfl | (simp; done) | (simp [*]; done)), H', ⟨by have := HJ2.out; have := HK2.out; have := HK3.out; first | omega | exact Nat.le_refl _⟩, ⟨by repeat (first | (with_reducible first | exact HI217.out | apply IsS46.alloc | apply IsS46.drewN | apply IsS46.drew | apply IsS46.set_0 | apply IsS46.set_1 | apply IsS46.set_2) | exact HI217.out)⟩, ⟨by repeat (first | (with_reducible first | exact HB.out | apply bA | apply bN | apply bO | refine below_set ?_ (IsS46.ge HI217.out)) | exact HB.out)⟩⟩
           ·replace c32 := Bool.eq_false_iff.mpr c32
            subst c32; have H1 : (union_Of.j4 k3 false x218000_3 x218001_3 false) = some (r1, r2) := by rw [if_neg (show ¬ (false = true) by decide)] at H; exact H
            clear H; have H := H1; clear H1; have H' := am H; clear H; obtain ⟨mSz_, ASz34_1, cSz34_1, HGz34, hgz34, HSz34_1⟩ := IsS46.open_ HI217.out; have hcz34_0 := cellS46_0 HGz34; have hcz34_1 := cellS46_1 HGz34; have hcz34_2 := cellS46_2 HGz34; have hfz34_0 := blk_frozen HGz34 0; have hfz34_1 := blk_frozen HGz34 1; have hfz34_2 := blk_frozen HGz34 2; clear HGz34 hgz34; go_wp2
            go_meet; case rel => exact ⟨_, (false), (by first | rfl | (simp; done) | (simp [*]; done)), H', ⟨by have := HJ2.out; have := HK2.out; have := HK3.out; first | omega | exact Nat.le_refl _⟩, ⟨by repeat (first | (with_reducible first | exact HI217.out | apply IsS46.alloc | apply IsS46.drewN | apply IsS46.drew | apply IsS46.set_0 | apply IsS46.set_1 | apply IsS46.set_2) | exact HI217.out)⟩, ⟨by repeat (first | (with_reducible first | exact HB.out | apply bA | apply bN | apply bO | refine below_set ?_ (IsS46.ge HI217.out)) | exact HB.out)⟩⟩
          case rest =>
           clear HC31; (try clear c1); (try clear c2); (try clear p2); (try clear q2); (try clear hx2); (try clear qi2); (try clear c3); (try clear c4); (try clear c4b0); (try clear c4b1); (try clear c5); (try clear c6); (try clear c6b0); (try clear p6); (try clear c7); (try clear c7b0); (try clear c8); (try clear c8b0); (try clear c9); (try clear c10); (try clear c11); (try clear c11b0); (try clear c11b1); (try clear c12); (try clear c12b0); (try clear c12b1); (try clear c15); (try clear c18); (try clear c20); (try clear c20b0); (try clear c21); (try clear c21b0); (try clear p21); (try clear q21); (try clear hx21); (try clear qi21); (try clear c22); (try clear c22b0); (try clear p22); (try clear q22); (try clear hx22); (try clear c23); (try clear c23b0); (try clear c24); (try clear c24b0); (try clear c25); (try clear c25b0); (try clear c28); (try clear c32); (try clear hcz29_0); (try clear hcz29_1); (try clear hcz29_2); (try clear hcz33_0); (try clear hcz33_1); (try clear hcz33_2); (try clear hcz34_0); (try clear hcz34_1); (try clear hcz34_2); (try clear hfz29_0); (try clear hfz29_1); (try clear hfz29_2); (try clear hfz33_0); (try clear hfz33_1); (try clear hfz33_2); (try clear hfz34_0); (try clear hfz34_1); (try clear hfz34_2); (try clear hx211_0); (try clear hx213_0); (try clear hx213_1); (try clear hx213_2); (try clear hx221_0); (try clear hx222_0); (try clear hx222_1); (try clear hx222_2); (try clear p2); (try clear p21); (try clear p211); (try clear p213); (try clear p22)
           (try clear p221); (try clear p222); (try clear p6); (try clear q2); (try clear q21); (try clear q211); (try clear q213); (try clear q22); (try clear q221); (try clear q222); obtain ⟨kq, x59_30, rfl, HA, HJ30, HI217, HB⟩ := hcut; cases kq with
           | zero => exact absurd HA.out (by simp [union_Of.j4])
           | succ kj30 =>
            have H := HA.out; clear HA; simp only [union_Of.j4] at H
            by_cases c35 : x59_30 = true
            ·subst c35
             have H1 : (some (([] : List (S37)), 9)) = some (r1, r2) := by rw [if_pos rfl] at H; exact H
             clear H; have H := H1; clear H1; simp only [Option.some.injEq, Prod.mk.injEq] at H
             obtain ⟨rfl, rfl⟩ := H; go_wp2
             go_ret2; exact ⟨_, by first | rfl | (simp [eN, eS] <;> rfl) | (simp [*, eN, eS] <;> rfl), by first | exact Kd.R_nil _ _ _ _ _ | exact Kd.N_nil _ _ _ _ _ | exact Kd.V_nil _ _ _ _ _ | exact Kd.Q_nil _ _ _ _ _ | exact Kd.S_nil _ _ _ _ _, by repeat (first | (with_reducible first | exact HB.out | apply bA | apply bN | apply bO | refine below_set ?_ (IsS46.ge HI217.out)) | exact HB.out)⟩
            ·replace c35 := Bool.eq_false_iff.mpr c35
             subst c35; have H1 : (if (x218001_3.length : Int) > 400 then (some (([] : List (S37)), 3)) else ((pile_Sort.f kj30 x218000_3 x218001_3 x218002_3).bind fun bt227 => (some (bt227.1, 0)))) = some (r1, r2) := by rw [if_neg (show ¬ (false = true) by decide)] at H; exact H
             clear H; have H := H1; clear H1; by_cases c36 : (x218001_3.length : Int) > 400
             ·rw [if_pos c36] at H
              have c36b0 : decide (400 < (x218001_3.length : Int)) = true := decide_eq_true c36; have c36b1 : decide (400 < x218001_3.length) = true := decide_eq_true (by omega); clear c36; simp only [Option.some.injEq, Prod.mk.injEq] at H
              obtain ⟨rfl, rfl⟩ := H; obtain ⟨mSz_, ASz37_1, cSz37_1, HGz37, hgz37, HSz37_1⟩ := IsS46.open_ HI217.out; have hcz37_0 := cellS46_0 HGz37; have hcz37_1 := cellS46_1 HGz37; have hcz37_2 := cellS46_2 HGz37; have hfz37_0 := blk_frozen HGz37 0; have hfz37_1 := blk_frozen HGz37 1; have hfz37_2 := blk_frozen HGz37 2; clear HGz37 hgz37; go_wp2
              go_ret2; exact ⟨_, by first | rfl | (simp [eN, eS] <;> rfl) | (simp [*, eN, eS] <;> rfl), by first | exact Kd.R_nil _ _ _ _ _ | exact Kd.N_nil _ _ _ _ _ | exact Kd.V_nil _ _ _ _ _ | exact Kd.Q_nil _ _ _ _ _ | exact Kd.S_nil _ _ _ _ _, by repeat (first | (with_reducible first | exact HB.out | apply bA | apply bN | apply bO | refine below_set ?_ (IsS46.ge HI217.out)) | exact HB.out)⟩
             ·rw [if_neg c36] at H
              have c36b0 : decide (400 < (x218001_3.length : Int)) = false := decide_eq_false c36; have c36b1 : decide (400 < x218001_3.length) = false := decide_eq_false (by omega); clear c36; replace H := oB H; obtain ⟨⟨t227, t230, t231, t232⟩, A380, H⟩ := H; replace H : (some (t227, 0)) = some (r1, r2) := H; have A38 := am A380; clear A380; simp only [Option.some.injEq, Prod.mk.injEq] at H
              obtain ⟨rfl, rfl⟩ := H; obtain ⟨mSz_, ASz39_1, cSz39_1, HGz39, hgz39, HSz39_1⟩ := IsS46.open_ HI217.out; have hcz39_0 := cellS46_0 HGz39; have hcz39_1 := cellS46_1 HGz39; have hcz39_2 := cellS46_2 HGz39; have hfz39_0 := blk_frozen HGz39 0; have hfz39_1 := blk_frozen HGz39 1; have hfz39_2 := blk_frozen HGz39 2; clear HGz39 hgz39; go_wp2_with (first | ((with_reducible refine gate_callee (f := 19) rfl ?_); refine gL (some 79) Tryd.func19 #[.slice ASz39_1 x218001_3.length cSz39_1] ?_; (with_reducible refine (pile_Sort.calls kj30 g217 x218000_3 x218001_3 x218002_3 ASz39_1 cSz39_1 t227 t230 t231 t232 w _ ?side1 ?side2 HSz39_1 A38.out).mono ?_); (case side1 => repeat (first | (with_reducible first | exact HI217.out | apply IsS46.alloc | apply IsS46.drewN | apply IsS46.drew | apply IsS46.set_0 | apply IsS46.set_1 | apply IsS46.set_2) | exact HI217.out)); (case side2 => repeat (first | (with_reducible first | exact HB.out | apply bA | apply bN | apply bO | refine below_set ?_ (IsS46.ge HI217.out)) | exact HB.out)); rintro e w40 ⟨v228, rfl, ho0, hi, hb, hk⟩; refine ⟨_, rfl, ?_⟩; have HO229 := am (Kd.R_lower ho0 (below_size (by repeat (first | (with_reducible first | exact HB.out | apply bA | apply bN | apply bO | refine below_set ?_ (IsS46.ge HI217.out)) | exact HB.out)))); replace HB := am (hb); replace HI217 := am (hi); (try clear ho0)))
              go_ret2; exact ⟨_, by first | rfl | (simp [eN, eS] <;> rfl) | (simp [*, eN, eS] <;> rfl), by (with_reducible repeat (first | apply rA | apply rN | apply rD)); exact HO229.out, by repeat (first | (with_reducible first | exact HB.out | apply bA | apply bN | apply bO | refine below_set ?_ (IsS46.ge HI217.out)) | exact HB.out)⟩

end Go.Proofs.YtiamdmlbhmgnjaaDoor.P
