/- Laid by a program of this session (wip/pr), after the printer of the kit: the functions that a statement reaches as plain Lean functions, and that the calls of the machine come to them. No condition. -/
import Derived.Test.YtnbcmmgkdpekjaaDoorPx0
import Derived.Test.YtnbcmmgkdpekjaaDoorPx2
namespace Go.Proofs.YtnbcmmgkdpekjaaDoor.P
open Go.RowKit Go.Proofs.YtnbcmmgkdpekjaaDoorX Go.Proofs.YtnbcmmgkdpekjaaDoorW.PrintWords Go.Proofs.YtnbcmmgkdpekjaaDoorW.PrintLast Go.Proofs.YtnbcmmgkdpekjaaDoorW.PrintMore
attribute [local go_sem] max2_int min2_int max_two min_two
set_option linter.unusedVariables false
set_option linter.unusedSimpArgs false

/-! ### hogsheadlaw0_SameItems: function 13 -/
def hogsheadlaw0_SameItems.l0 : Nat → List (S34) → List (S34) → Int → Option (Bool)
 | 0, _, _, _ => none
 | k + 1, x0, x1, x5 => if x5 < (x0.length : Int) then (if 0 ≤ x5 then (if x5 < (x1.length : Int) then (if ((rd_T34 x0 x5).f0).toList = ((rd_T34 x1 x5).f0).toList then ((hogsheadlaw0_SameTexts.f k ((rd_T34 x0 x5).f1) ((rd_T34 x1 x5).f1)).bind fun t109 => (if t109 = true then ((hogsheadlaw0_SameNodes.f k ((rd_T34 x0 x5).f2) ((rd_T34 x1 x5).f2)).bind fun t112 => (if t112 = true then (hogsheadlaw0_SameItems.l0 k x0 x1 (wrap64 (x5 + 1))) else (some false))) else (some false))) else (some false)) else (none)) else (none)) else (some true)
def hogsheadlaw0_SameItems.f (k : Nat) (l0 : List (S34)) (l1 : List (S34)) : Option (Bool) := if (l0.length : Int) = (l1.length : Int) then (hogsheadlaw0_SameItems.l0 k l0 l1 0) else (some false)
theorem hogsheadlaw0_SameItems.mono_l : ∀ k, (∀ y0 y1 y2, LeO (hogsheadlaw0_SameItems.l0 k y0 y1 y2) (hogsheadlaw0_SameItems.l0 (k + 1) y0 y1 y2))
 | 0 => fun _ _ _ r h => by simp [hogsheadlaw0_SameItems.l0] at h
 | k + 1 => by
  have ih0 := hogsheadlaw0_SameItems.mono_l k
  ·intro y0 y1 y2
   unfold hogsheadlaw0_SameItems.l0
   repeat' with_reducible first | exact ih0 _ _ _ | exact hogsheadlaw0_SameNodes.mono _ _ _ | exact hogsheadlaw0_SameTexts.mono _ _ _ | exact LeO.refl _ | exact LeO.none _ | refine LeO.ite ?_ ?_ | refine LeO.bind ?_ (fun _ => ?_)
theorem hogsheadlaw0_SameItems.mono : ∀ a0 a1 k, LeO (hogsheadlaw0_SameItems.f k a0 a1) (hogsheadlaw0_SameItems.f (k + 1) a0 a1) := by
 intro a0 a1 k; have ih0 := hogsheadlaw0_SameItems.mono_l k; unfold hogsheadlaw0_SameItems.f
 repeat' with_reducible first | exact ih0 _ _ _ | exact hogsheadlaw0_SameNodes.mono _ _ _ | exact hogsheadlaw0_SameTexts.mono _ _ _ | exact LeO.refl _ | exact LeO.none _ | refine LeO.ite ?_ ?_ | refine LeO.bind ?_ (fun _ => ?_)
def hogsheadlaw0_SameItems.T6 : Bool × List (List Nat × List Nat) := (true, [([], []), ([], []), ([0, 1], [0, 1]), ([2], [2]), ([3], [3]), ([], []), ([], []), ([5, 6], [5, 6]), ([7], [7]), ([8], [8]), ([4, 9], [4, 9]), ([10], [10]), ([11], [11]), ([11], [11]), ([12, 13, 11], [11, 12, 13]), ([14, 11], [11, 14]), ([15, 11], [11, 15]), ([11], [11]), ([11], [11]), ([17, 18, 11], [11, 17, 18]), ([19, 11], [11, 19]), ([20, 11], [11, 20]), ([16, 21, 11, 11], [11, 16, 21]), ([22, 11], [11, 22]), ([11, 23], [11, 23]), ([24, 22], [24]), ([25], [25]), ([25], [25]), ([26, 27, 25], [25, 26, 27]), ([28, 25], [25, 28]), ([29, 25], [25, 29]), ([25], [25]), ([25], [25]), ([31, 32, 25], [25, 31, 32]), ([33, 25], [25, 33]), ([34, 25], [25, 34]), ([30, 35, 25, 25], [25, 30, 35]), ([36, 25], [25, 36]), ([25, 37], [25, 37])])
def hogsheadlaw0_SameItems.B6 : List Nat := [0, 0, 3, 7, 15, 0, 0, 96, 224, 480, 1023, 2047, 4095, 4095, 16383, 32767, 65535, 4095, 4095, 397311, 921599, 1970175, 4194303, 8388607, 16777215, 33554431, 67108863, 67108863, 268435455, 536870911, 1073741823, 67108863, 67108863, 6509559807, 15099494399, 32279363583, 68719476735, 137438953471, 274877906943]
theorem hogsheadlaw0_SameItems.tab6 : rtab .any (opsOf Tryd.f13 6) = hogsheadlaw0_SameItems.T6 := by kernel_rfl
theorem hogsheadlaw0_SameItems.bits6 : waitsOk hogsheadlaw0_SameItems.T6.2 hogsheadlaw0_SameItems.B6 = true := by kernel_rfl
set_option maxHeartbeats 8000000 in
set_option maxRecDepth 100000 in
theorem hogsheadlaw0_SameItems.calls (k : Nat) (A0 : Option Addr) (c0 : Nat) (l0 : List (S34)) (A1 : Option Addr) (c1 : Nat) (l1 : List (S34)) (r : Bool) (w : World) (hr0 : Kd.C k34 w A0 l0.length l0) (hc0 : l0.length ≤ c0) (hr1 : Kd.C k34 w A1 l1.length l1) (hc1 : l1.length ≤ c1) (h : hogsheadlaw0_SameItems.f k l0 l1 = some r) :
  Calls Tryd.prog 13 #[.slice A0 l0.length c0, .slice A1 l1.length c1] w fun e w' => e = .returned (.bool r) ∧ Below w.heap.size w w' := by
 have HR0 := am hr0; have HC0 := am hc0; clear hr0 hc0; have HR1 := am hr1; have HC1 := am hc1; clear hr1 hc1; have HB := am (Below.refl w.heap.size w); have H : (if (l0.length : Int) = (l1.length : Int) then (hogsheadlaw0_SameItems.l0 k l0 l1 0) else (some false)) = some r := h; clear h; by_cases c3 : (l0.length : Int) = (l1.length : Int)
 ·rw [if_pos c3] at H
  have c3b0 : ((l0.length : Int) == (l1.length : Int)) = true := beq_iff_eq.mpr c3; have c3b1 : ((l0.length : Int) != (l1.length : Int)) = false := bne_eq_false_iff_eq.mpr c3; have c3b2 : (l0.length == l1.length) = true := by first | simpa using c3 | (simp at c3 ⊢; omega)
  clear c3; have H' := am H; clear H; go_enter Tryd.func13, Tryd.ntmps13; go_wp2
  go_loopg [5] k (fun kq v5 w' => ∃ (x5_1 : Int), v5 = .int .i64 x5_1 ∧ Aside0 (hogsheadlaw0_SameItems.l0 kq l0 l1 x5_1 = some r) ∧ Aside0 (kq ≤ k) ∧ Aside0 (Below w.heap.size w w'))
  case atStart => exact ⟨(0), (by first | rfl | (simp; done) | (simp [*]; done)), H', ⟨Nat.le_refl _⟩, ⟨bz⟩⟩
  case round =>
   clear H'; (try clear c1); (try clear p2); (try clear c3); (try clear c3b0); (try clear c3b1); (try clear c3b2); obtain ⟨x5_1, rfl, HA, HK1, HB⟩ := hrel; cases gk with
   | zero => exact absurd HA.out (by simp [hogsheadlaw0_SameItems.l0])
   | succ k1 =>
    have H := HA.out; clear HA; simp only [hogsheadlaw0_SameItems.l0] at H
    by_cases c4 : x5_1 < (l0.length : Int)
    ·rw [if_pos c4] at H
     have c4b0 : decide (x5_1 < (l0.length : Int)) = true := decide_eq_true c4; clear c4; by_cases c5 : 0 ≤ x5_1
     ·rw [if_pos c5] at H
      have c5b0 : decide (0 ≤ x5_1) = true := decide_eq_true c5; clear c5; by_cases c6 : x5_1 < (l1.length : Int)
      ·rw [if_pos c6] at H
       have c6b0 : decide (x5_1 < (l1.length : Int)) = true := decide_eq_true c6; clear c6; by_cases c7 : ((rd_T34 l0 x5_1).f0).toList = ((rd_T34 l1 x5_1).f0).toList
       ·rw [if_pos c7] at H
        have c7b0 : (((rd_T34 l0 x5_1).f0).toList == ((rd_T34 l1 x5_1).f0).toList) = true := beq_iff_eq.mpr c7; have c7b1 : (((rd_T34 l0 x5_1).f0).toList != ((rd_T34 l1 x5_1).f0).toList) = false := bne_eq_false_iff_eq.mpr c7; clear c7; refine oR H ?_; clear H; intro t109 A8 H; by_cases c9 : t109 = true
        ·subst c9
         have H1 : ((hogsheadlaw0_SameNodes.f k1 ((rd_T34 l0 x5_1).f2) ((rd_T34 l1 x5_1).f2)).bind fun t112 => (if t112 = true then (hogsheadlaw0_SameItems.l0 k1 l0 l1 (wrap64 (x5_1 + 1))) else (some false))) = some r := by rw [if_pos rfl] at H; exact H
         clear H; have H := H1; clear H1; refine oR H ?_; clear H; intro t112 A10 H; by_cases c11 : t112 = true
         ·subst c11
          have H1 : (hogsheadlaw0_SameItems.l0 k1 l0 l1 (wrap64 (x5_1 + 1))) = some r := by rw [if_pos rfl] at H; exact H
          clear H; have H := H1; clear H1; have H' := am H; clear H; try go_wp2
          replace HB := am (bO HB.out); have p105 : 0 ≤ (x5_1 : Int) := of_decide_eq_true (by assumption); have q105 : x5_1 < (l0.length : Int) := of_decide_eq_true (by assumption); obtain ⟨ad105, A105_1, c105_1, A105_2, c105_2, e105, hx105_0, hx105_1, hx105_2, hl105_1, hi105_1, hl105_2, hi105_2⟩ := at_T34 HR0.out x5_1 p105 q105; have hw105_2 := hx105_2; have hw105_1 := hx105_1; have hw105_0 := hx105_0; cases e105; replace hx105_0 := (HB.out.cell (wB w _ hx105_0)).trans hx105_0; replace hx105_1 := (HB.out.cell (wB w _ hx105_1)).trans hx105_1; replace hx105_2 := (HB.out.cell (wB w _ hx105_2)).trans hx105_2; have HR105_1 := am hi105_1; have HC105_1 := am hl105_1; clear hi105_1 hl105_1; have HR105_2 := am hi105_2; have HC105_2 := am hl105_2; clear hi105_2 hl105_2; replace p105 := eq_true p105; replace q105 := eq_true q105; have p106 : 0 ≤ (x5_1 : Int) := of_decide_eq_true (by assumption); have q106 : x5_1 < (l1.length : Int) := of_decide_eq_true (by assumption); obtain ⟨ad106, A106_1, c106_1, A106_2, c106_2, e106, hx106_0, hx106_1, hx106_2, hl106_1, hi106_1, hl106_2, hi106_2⟩ := at_T34 HR1.out x5_1 p106 q106; have hw106_2 := hx106_2; have hw106_1 := hx106_1; have hw106_0 := hx106_0; cases e106
          replace hx106_0 := (HB.out.cell (wB w _ hx106_0)).trans hx106_0; replace hx106_1 := (HB.out.cell (wB w _ hx106_1)).trans hx106_1; replace hx106_2 := (HB.out.cell (wB w _ hx106_2)).trans hx106_2; have HR106_1 := am hi106_1; have HC106_1 := am hl106_1; clear hi106_1 hl106_1; have HR106_2 := am hi106_2; have HC106_2 := am hl106_2; clear hi106_2 hl106_2; replace p106 := eq_true p106; replace q106 := eq_true q106; have p107 : 0 ≤ (x5_1 : Int) := of_decide_eq_true (by assumption); have q107 : x5_1 < (l0.length : Int) := of_decide_eq_true (by assumption); obtain ⟨ad107, A107_1, c107_1, A107_2, c107_2, e107, hx107_0, hx107_1, hx107_2, hl107_1, hi107_1, hl107_2, hi107_2⟩ := at_T34 HR0.out x5_1 p107 q107; have hw107_2 := hx107_2; have hw107_1 := hx107_1; have hw107_0 := hx107_0; obtain rfl : ad105 = ad107 := (by injection e107); replace hx107_0 := (HB.out.cell (wB w _ hx107_0)).trans hx107_0; replace hx107_1 := (HB.out.cell (wB w _ hx107_1)).trans hx107_1; replace hx107_2 := (HB.out.cell (wB w _ hx107_2)).trans hx107_2; have HR107_1 := am hi107_1; have HC107_1 := am hl107_1; clear hi107_1 hl107_1; have HR107_2 := am hi107_2; have HC107_2 := am hl107_2; clear hi107_2 hl107_2; replace p107 := eq_true p107; replace q107 := eq_true q107
          have ea_ := Option.some.inj (hx105_1.symm.trans hx107_1); injection ea_ with ea_ en_ ec_; subst ea_; subst ec_; clear en_; have ea_ := Option.some.inj (hx105_2.symm.trans hx107_2); injection ea_ with ea_ en_ ec_; subst ea_; subst ec_; clear en_; have p108 : 0 ≤ (x5_1 : Int) := of_decide_eq_true (by assumption); have q108 : x5_1 < (l1.length : Int) := of_decide_eq_true (by assumption); obtain ⟨ad108, A108_1, c108_1, A108_2, c108_2, e108, hx108_0, hx108_1, hx108_2, hl108_1, hi108_1, hl108_2, hi108_2⟩ := at_T34 HR1.out x5_1 p108 q108; have hw108_2 := hx108_2; have hw108_1 := hx108_1; have hw108_0 := hx108_0; obtain rfl : ad106 = ad108 := (by injection e108); replace hx108_0 := (HB.out.cell (wB w _ hx108_0)).trans hx108_0; replace hx108_1 := (HB.out.cell (wB w _ hx108_1)).trans hx108_1; replace hx108_2 := (HB.out.cell (wB w _ hx108_2)).trans hx108_2; have HR108_1 := am hi108_1; have HC108_1 := am hl108_1; clear hi108_1 hl108_1; have HR108_2 := am hi108_2; have HC108_2 := am hl108_2; clear hi108_2 hl108_2; replace p108 := eq_true p108; replace q108 := eq_true q108; have ea_ := Option.some.inj (hx106_1.symm.trans hx108_1); injection ea_ with ea_ en_ ec_; subst ea_; subst ec_; clear en_; have ea_ := Option.some.inj (hx106_2.symm.trans hx108_2); injection ea_ with ea_ en_ ec_; subst ea_; subst ec_; clear en_; have p110 : 0 ≤ (x5_1 : Int) := of_decide_eq_true (by assumption)
          have q110 : x5_1 < (l0.length : Int) := of_decide_eq_true (by assumption); obtain ⟨ad110, A110_1, c110_1, A110_2, c110_2, e110, hx110_0, hx110_1, hx110_2, hl110_1, hi110_1, hl110_2, hi110_2⟩ := at_T34 HR0.out x5_1 p110 q110; have hw110_2 := hx110_2; have hw110_1 := hx110_1; have hw110_0 := hx110_0; obtain rfl : ad105 = ad110 := (by injection e110); replace hx110_0 := (HB.out.cell (wB w _ hx110_0)).trans hx110_0; replace hx110_1 := (HB.out.cell (wB w _ hx110_1)).trans hx110_1; replace hx110_2 := (HB.out.cell (wB w _ hx110_2)).trans hx110_2; have HR110_1 := am hi110_1; have HC110_1 := am hl110_1; clear hi110_1 hl110_1; have HR110_2 := am hi110_2; have HC110_2 := am hl110_2; clear hi110_2 hl110_2; replace p110 := eq_true p110; replace q110 := eq_true q110; have ea_ := Option.some.inj (hx105_1.symm.trans hx110_1); injection ea_ with ea_ en_ ec_; subst ea_; subst ec_; clear en_; have ea_ := Option.some.inj (hx105_2.symm.trans hx110_2); injection ea_ with ea_ en_ ec_; subst ea_; subst ec_; clear en_; have p111 : 0 ≤ (x5_1 : Int) := of_decide_eq_true (by assumption); have q111 : x5_1 < (l1.length : Int) := of_decide_eq_true (by assumption); obtain ⟨ad111, A111_1, c111_1, A111_2, c111_2, e111, hx111_0, hx111_1, hx111_2, hl111_1, hi111_1, hl111_2, hi111_2⟩ := at_T34 HR1.out x5_1 p111 q111
          have hw111_2 := hx111_2; have hw111_1 := hx111_1; have hw111_0 := hx111_0; obtain rfl : ad106 = ad111 := (by injection e111); replace hx111_0 := (HB.out.cell (wB w _ hx111_0)).trans hx111_0; replace hx111_1 := (HB.out.cell (wB w _ hx111_1)).trans hx111_1; replace hx111_2 := (HB.out.cell (wB w _ hx111_2)).trans hx111_2; have HR111_1 := am hi111_1; have HC111_1 := am hl111_1; clear hi111_1 hl111_1; have HR111_2 := am hi111_2; have HC111_2 := am hl111_2; clear hi111_2 hl111_2; replace p111 := eq_true p111; replace q111 := eq_true q111; have ea_ := Option.some.inj (hx106_1.symm.trans hx111_1); injection ea_ with ea_ en_ ec_; subst ea_; subst ec_; clear en_; have ea_ := Option.some.inj (hx106_2.symm.trans hx111_2); injection ea_ with ea_ en_ ec_; subst ea_; subst ec_; clear en_; refine start_ (n := 39) (S := fun w' => w'.cell? (ad105.add ((x5_1).toNat * 3)) = some (.string ((rd_T34 l0 x5_1).f0)) ∧ w'.cell? ⟨(ad105.add ((x5_1).toNat * 3)).block, (ad105.add ((x5_1).toNat * 3)).off + 1, none⟩ = some (.slice A105_1 ((rd_T34 l0 x5_1).f1).length c105_1) ∧ w'.cell? ⟨(ad105.add ((x5_1).toNat * 3)).block, (ad105.add ((x5_1).toNat * 3)).off + 2, none⟩ = some (.slice A105_2 ((rd_T34 l0 x5_1).f2).length c105_2) ∧ w'.cell? (ad106.add ((x5_1).toNat * 3)) = some (.string ((rd_T34 l1 x5_1).f0)) ∧ w'.cell? ⟨(ad106.add ((x5_1).toNat * 3)).block, (ad106.add ((x5_1).toNat * 3)).off + 1, none⟩ = some (.slice A106_1 ((rd_T34 l1 x5_1).f1).length c106_1) ∧ w'.cell? ⟨(ad106.add ((x5_1).toNat * 3)).block, (ad106.add ((x5_1).toNat * 3)).off + 2, none⟩ = some (.slice A106_2 ((rd_T34 l1 x5_1).f2).length c106_2) ∧ w'.cell? (ad105.add ((x5_1).toNat * 3)) = some (.string ((rd_T34 l0 x5_1).f0)) ∧ w'.cell? ⟨(ad105.add ((x5_1).toNat * 3)).block, (ad105.add ((x5_1).toNat * 3)).off + 1, none⟩ = some (.slice A105_1 ((rd_T34 l0 x5_1).f1).length c105_1) ∧ w'.cell? ⟨(ad105.add ((x5_1).toNat * 3)).block, (ad105.add ((x5_1).toNat * 3)).off + 2, none⟩ = some (.slice A105_2 ((rd_T34 l0 x5_1).f2).length c105_2) ∧ w'.cell? (ad106.add ((x5_1).toNat * 3)) = some (.string ((rd_T34 l1 x5_1).f0)) ∧ w'.cell? ⟨(ad106.add ((x5_1).toNat * 3)).block, (ad106.add ((x5_1).toNat * 3)).off + 1, none⟩ = some (.slice A106_1 ((rd_T34 l1 x5_1).f1).length c106_1) ∧ w'.cell? ⟨(ad106.add ((x5_1).toNat * 3)).block, (ad106.add ((x5_1).toNat * 3)).off + 2, none⟩ = some (.slice A106_2 ((rd_T34 l1 x5_1).f2).length c106_2) ∧ w'.cell? (ad105.add ((x5_1).toNat * 3)) = some (.string ((rd_T34 l0 x5_1).f0)) ∧ w'.cell? ⟨(ad105.add ((x5_1).toNat * 3)).block, (ad105.add ((x5_1).toNat * 3)).off + 1, none⟩ = some (.slice A105_1 ((rd_T34 l0 x5_1).f1).length c105_1) ∧ w'.cell? ⟨(ad105.add ((x5_1).toNat * 3)).block, (ad105.add ((x5_1).toNat * 3)).off + 2, none⟩ = some (.slice A105_2 ((rd_T34 l0 x5_1).f2).length c105_2) ∧ w'.cell? (ad106.add ((x5_1).toNat * 3)) = some (.string ((rd_T34 l1 x5_1).f0)) ∧ w'.cell? ⟨(ad106.add ((x5_1).toNat * 3)).block, (ad106.add ((x5_1).toNat * 3)).off + 1, none⟩ = some (.slice A106_1 ((rd_T34 l1 x5_1).f1).length c106_1) ∧ w'.cell? ⟨(ad106.add ((x5_1).toNat * 3)).block, (ad106.add ((x5_1).toNat * 3)).off + 2, none⟩ = some (.slice A106_2 ((rd_T34 l1 x5_1).f2).length c106_2)) (ds := []) #[fF,fF,fF,fF,fF,fF,fF,fF,fF,fF,fF,fF,fF,fF,fF,fF,fF,fF,fF,fF,fF,fF,fF,fF,fF,fF,fF,fF,fF,fF,fF,fF,fF,fF,fF,fF,fF,fF,fF] (by kernel_rfl) rfl rfl ⟨((HB.out.cell (wB w _ hw105_0)).trans hw105_0), ((HB.out.cell (wB w _ hw105_1)).trans hw105_1), ((HB.out.cell (wB w _ hw105_2)).trans hw105_2), ((HB.out.cell (wB w _ hw106_0)).trans hw106_0), ((HB.out.cell (wB w _ hw106_1)).trans hw106_1), ((HB.out.cell (wB w _ hw106_2)).trans hw106_2), ((HB.out.cell (wB w _ hw107_0)).trans hw107_0), ((HB.out.cell (wB w _ hw107_1)).trans hw107_1), ((HB.out.cell (wB w _ hw107_2)).trans hw107_2), ((HB.out.cell (wB w _ hw108_0)).trans hw108_0), ((HB.out.cell (wB w _ hw108_1)).trans hw108_1), ((HB.out.cell (wB w _ hw108_2)).trans hw108_2), ((HB.out.cell (wB w _ hw110_0)).trans hw110_0), ((HB.out.cell (wB w _ hw110_1)).trans hw110_1), ((HB.out.cell (wB w _ hw110_2)).trans hw110_2), ((HB.out.cell (wB w _ hw111_0)).trans hw111_0), ((HB.out.cell (wB w _ hw111_1)).trans hw111_1), ((HB.out.cell (wB w _ hw111_2)).trans hw111_2)⟩ (fun hHeld => ?_); refine with_tabW hogsheadlaw0_SameItems.tab6 hogsheadlaw0_SameItems.bits6 (fun HT_ HW_ => ?_)
          generalize wr.drew = w12 at HB HR105_1 HR105_2 HR106_1 HR106_2 HR107_1 HR107_2 HR108_1 HR108_2 HR110_1 HR110_2 HR111_1 HR111_2 hx105_0 hx105_1 hx105_2 hx106_0 hx106_1 hx106_2 hx107_0 hx107_1 hx107_2 hx108_0 hx108_1 hx108_2 hx110_0 hx110_1 hx110_2 hx111_0 hx111_1 hx111_2 hHeld ⊢
          refine pu 0 (some 17) ?_
          refine pu 1 (some 18) ?_
          refine pu 2 (some 19) ?_
          refine pu 3 (some 20) ?_
          refine pu 5 (some 22) ?_
          refine pu 6 (some 23) ?_
          refine pu 7 (some 24) ?_
          refine pu 8 (some 25) ?_
          refine take_ (i := 4) (N := some 21) (v := ?_) (a' := ?_) #[tT,tT,tT,tT,tT,tT,tT,tT,tT,fF,fF,fF,fF,fF,fF,fF,fF,fF,fF,fF,fF,fF,fF,fF,fF,fF,fF,fF,fF,fF,fF,fF,fF,fF,fF,fF,fF,fF,fF] rfl rfl (take_ofW HT_.out HW_.out (by kernel_rfl)) (fun _ _ _ h => h) (Or.inl ⟨by rfl, ?_⟩) hHeld ?_ ?_
          rotate_left
          ·rintro w' ⟨s0, s1, s2, s3, s4, s5, s6, s7, s8, s9, s10, s11, s12, s13, s14, s15, s16, s17⟩
           go_simp
           with_reducible rfl
          rotate_left
          ·simp only [Act.put, sA, sB, sC, i64_w, i32_w]
           rfl
          refine take_ (i := 9) (N := some 26) (v := ?_) (a' := ?_) #[tT,tT,tT,tT,tT,tT,tT,tT,tT,tT,fF,fF,fF,fF,fF,fF,fF,fF,fF,fF,fF,fF,fF,fF,fF,fF,fF,fF,fF,fF,fF,fF,fF,fF,fF,fF,fF,fF,fF] rfl rfl (take_ofW HT_.out HW_.out (by kernel_rfl)) (fun _ _ _ h => h) (Or.inl ⟨by rfl, ?_⟩) hHeld ?_ ?_
          rotate_left
          ·rintro w' ⟨s0, s1, s2, s3, s4, s5, s6, s7, s8, s9, s10, s11, s12, s13, s14, s15, s16, s17⟩
           go_simp
           with_reducible rfl
          rotate_left
          ·simp only [Act.put, sA, sB, sC, i64_w, i32_w]
           rfl
          refine pu 10 (some 27) ?_
          refine pu 11 (some 28) ?_
          refine pu 12 (some 29) ?_
          refine pu 13 (some 30) ?_
          refine pu 14 (some 31) ?_
          refine pu 15 (some 32) ?_
          refine pu 17 (some 34) ?_
          refine pu 18 (some 35) ?_
          refine pu 19 (some 36) ?_
          refine pu 20 (some 37) ?_
          refine take_ (i := 16) (N := some 33) (v := ?_) (a' := ?_) #[tT,tT,tT,tT,tT,tT,tT,tT,tT,tT,tT,tT,tT,tT,tT,tT,tT,tT,tT,tT,tT,fF,fF,fF,fF,fF,fF,fF,fF,fF,fF,fF,fF,fF,fF,fF,fF,fF,fF] rfl rfl (take_ofW HT_.out HW_.out (by kernel_rfl)) (fun _ _ _ h => h) (Or.inl ⟨by rfl, ?_⟩) hHeld ?_ ?_
          rotate_left
          ·rintro w' ⟨s0, s1, s2, s3, s4, s5, s6, s7, s8, s9, s10, s11, s12, s13, s14, s15, s16, s17⟩
           go_simp
           with_reducible rfl
          rotate_left
          ·simp only [Act.put, sA, sB, sC, i64_w, i32_w]
           rfl
          refine take_ (i := 21) (N := some 38) (v := ?_) (a' := ?_) #[tT,tT,tT,tT,tT,tT,tT,tT,tT,tT,tT,tT,tT,tT,tT,tT,tT,tT,tT,tT,tT,tT,fF,fF,fF,fF,fF,fF,fF,fF,fF,fF,fF,fF,fF,fF,fF,fF,fF] rfl rfl (take_ofW HT_.out HW_.out (by kernel_rfl)) (fun _ _ _ h => h) (Or.inl ⟨by rfl, ?_⟩) hHeld ?_ ?_
          rotate_left
          ·rintro w' ⟨s0, s1, s2, s3, s4, s5, s6, s7, s8, s9, s10, s11, s12, s13, s14, s15, s16, s17⟩
           go_simp
           with_reducible rfl
          rotate_left
          ·simp only [Act.put, sA, sB, sC, i64_w, i32_w]
           rfl
          refine one_ (i := 22) (N := some 39) #[tT,tT,tT,tT,tT,tT,tT,tT,tT,tT,tT,tT,tT,tT,tT,tT,tT,tT,tT,tT,tT,tT,tT,fF,fF,fF,fF,fF,fF,fF,fF,fF,fF,fF,fF,fF,fF,fF,fF] rfl rfl (one_of HT_.out (by kernel_rfl)) (by decide) (fun K hK => ?_)
          refine goes_ Tryd.func23 (by kernel_rfl) rfl #[.slice A105_1 ((rd_T34 l0 x5_1).f1).length c105_1, .slice A106_1 ((rd_T34 l1 x5_1).f1).length c106_1] (by rfl) rfl rfl (by (try simp only [mT, mC, mN]); first | done | rfl | (simp only [lD, lT]; rfl)) ?_
          with_reducible refine (hogsheadlaw0_SameTexts.calls k1 _ _ ((rd_T34 l0 x5_1).f1) _ _ ((rd_T34 l1 x5_1).f1) true _ ?side1 ?side2 ?side3 ?side4 A8.out).mono ?_
          (case side1 => exact cz (Kd.C_below HR107_1.out HB.out))
          (case side2 => exact HC107_1.out)
          (case side3 => exact cz (Kd.C_below HR108_1.out HB.out))
          (case side4 => exact HC108_1.out)
          rintro e w' ⟨rfl, ⟨nd, rfl⟩⟩; refine ⟨_, rfl, ?_⟩
          refine hK.out _ _ ⟨((HB.out.cell (wB w _ hw105_0)).trans hw105_0), ((HB.out.cell (wB w _ hw105_1)).trans hw105_1), ((HB.out.cell (wB w _ hw105_2)).trans hw105_2), ((HB.out.cell (wB w _ hw106_0)).trans hw106_0), ((HB.out.cell (wB w _ hw106_1)).trans hw106_1), ((HB.out.cell (wB w _ hw106_2)).trans hw106_2), ((HB.out.cell (wB w _ hw107_0)).trans hw107_0), ((HB.out.cell (wB w _ hw107_1)).trans hw107_1), ((HB.out.cell (wB w _ hw107_2)).trans hw107_2), ((HB.out.cell (wB w _ hw108_0)).trans hw108_0), ((HB.out.cell (wB w _ hw108_1)).trans hw108_1), ((HB.out.cell (wB w _ hw108_2)).trans hw108_2), ((HB.out.cell (wB w _ hw110_0)).trans hw110_0), ((HB.out.cell (wB w _ hw110_1)).trans hw110_1), ((HB.out.cell (wB w _ hw110_2)).trans hw110_2), ((HB.out.cell (wB w _ hw111_0)).trans hw111_0), ((HB.out.cell (wB w _ hw111_1)).trans hw111_1), ((HB.out.cell (wB w _ hw111_2)).trans hw111_2)⟩ (fun hHeld => ?_)
          clear hK K; refine norm_ (a' := ?_) ?_ ?_
          rotate_left
          ·show Act.put _ (some 39) _ = _
           simp only [Act.put, sA, sB, sC, i64_w, i32_w]
           rfl
          refine pu 23 (some 40) ?_
          refine pu 24 (some 41) ?_
          refine pu 25 (some 42) ?_
          refine pu 26 (some 43) ?_
          refine pu 27 (some 44) ?_
          refine pu 28 (some 45) ?_
          refine pu 29 (some 46) ?_
          refine pu 31 (some 48) ?_
          refine pu 32 (some 49) ?_
          refine pu 33 (some 50) ?_
          refine pu 34 (some 51) ?_
          refine take_ (i := 30) (N := some 47) (v := ?_) (a' := ?_) #[tT,tT,tT,tT,tT,tT,tT,tT,tT,tT,tT,tT,tT,tT,tT,tT,tT,tT,tT,tT,tT,tT,tT,tT,tT,tT,tT,tT,tT,tT,tT,tT,tT,tT,tT,fF,fF,fF,fF] rfl rfl (take_ofW HT_.out HW_.out (by kernel_rfl)) (fun _ _ _ h => h) (Or.inl ⟨by rfl, ?_⟩) hHeld ?_ ?_
          rotate_left
          ·rintro w' ⟨s0, s1, s2, s3, s4, s5, s6, s7, s8, s9, s10, s11, s12, s13, s14, s15, s16, s17⟩
           go_simp
           with_reducible rfl
          rotate_left
          ·simp only [Act.put, sA, sB, sC, i64_w, i32_w]
           rfl
          refine take_ (i := 35) (N := some 52) (v := ?_) (a' := ?_) #[tT,tT,tT,tT,tT,tT,tT,tT,tT,tT,tT,tT,tT,tT,tT,tT,tT,tT,tT,tT,tT,tT,tT,tT,tT,tT,tT,tT,tT,tT,tT,tT,tT,tT,tT,tT,fF,fF,fF] rfl rfl (take_ofW HT_.out HW_.out (by kernel_rfl)) (fun _ _ _ h => h) (Or.inl ⟨by rfl, ?_⟩) hHeld ?_ ?_
          rotate_left
          ·rintro w' ⟨s0, s1, s2, s3, s4, s5, s6, s7, s8, s9, s10, s11, s12, s13, s14, s15, s16, s17⟩
           go_simp
           with_reducible rfl
          rotate_left
          ·simp only [Act.put, sA, sB, sC, i64_w, i32_w]
           rfl
          refine one_ (i := 36) (N := some 53) #[tT,tT,tT,tT,tT,tT,tT,tT,tT,tT,tT,tT,tT,tT,tT,tT,tT,tT,tT,tT,tT,tT,tT,tT,tT,tT,tT,tT,tT,tT,tT,tT,tT,tT,tT,tT,tT,fF,fF] rfl rfl (one_of HT_.out (by kernel_rfl)) (by decide) (fun K hK => ?_)
          refine goes_ Tryd.func30 (by kernel_rfl) rfl #[.slice A105_2 ((rd_T34 l0 x5_1).f2).length c105_2, .slice A106_2 ((rd_T34 l1 x5_1).f2).length c106_2] (by rfl) rfl rfl (by (try simp only [mT, mC, mN]); first | done | rfl | (simp only [lD, lT]; rfl)) ?_
          with_reducible refine (hogsheadlaw0_SameNodes.calls k1 _ _ ((rd_T34 l0 x5_1).f2) _ _ ((rd_T34 l1 x5_1).f2) true _ ?side1 ?side2 ?side3 ?side4 A10.out).mono ?_
          (case side1 => exact cz (Kd.C_below HR110_2.out bz))
          (case side2 => exact HC110_2.out)
          (case side3 => exact cz (Kd.C_below HR111_2.out bz))
          (case side4 => exact HC111_2.out)
          rintro e w' ⟨rfl, ⟨nd, rfl⟩⟩; refine ⟨_, rfl, ?_⟩
          refine hK.out _ _ ⟨((HB.out.cell (wB w _ hw105_0)).trans hw105_0), ((HB.out.cell (wB w _ hw105_1)).trans hw105_1), ((HB.out.cell (wB w _ hw105_2)).trans hw105_2), ((HB.out.cell (wB w _ hw106_0)).trans hw106_0), ((HB.out.cell (wB w _ hw106_1)).trans hw106_1), ((HB.out.cell (wB w _ hw106_2)).trans hw106_2), ((HB.out.cell (wB w _ hw107_0)).trans hw107_0), ((HB.out.cell (wB w _ hw107_1)).trans hw107_1), ((HB.out.cell (wB w _ hw107_2)).trans hw107_2), ((HB.out.cell (wB w _ hw108_0)).trans hw108_0), ((HB.out.cell (wB w _ hw108_1)).trans hw108_1), ((HB.out.cell (wB w _ hw108_2)).trans hw108_2), ((HB.out.cell (wB w _ hw110_0)).trans hw110_0), ((HB.out.cell (wB w _ hw110_1)).trans hw110_1), ((HB.out.cell (wB w _ hw110_2)).trans hw110_2), ((HB.out.cell (wB w _ hw111_0)).trans hw111_0), ((HB.out.cell (wB w _ hw111_1)).trans hw111_1), ((HB.out.cell (wB w _ hw111_2)).trans hw111_2)⟩ (fun hHeld => ?_)
          clear hK K; refine norm_ (a' := ?_) ?_ ?_
          rotate_left
          ·show Act.put _ (some 53) _ = _
           simp only [Act.put, sA, sB, sC, i64_w, i32_w]
           rfl
          refine pu 37 (some 54) ?_
          refine pu 38 (some 55) ?_
          refine done_ (done_of HT_.out (by kernel_rfl)) ?_
          try go_wp2
          go_roundg k1
          case measure => have := HK1.out; omega
          case rel => exact ⟨(wrap64 (x5_1 + 1)), (by first | rfl | (simp; done) | (simp [*]; done)), H', ⟨by have := HK1.out; omega⟩, ⟨bz⟩⟩
         ·replace c11 := Bool.eq_false_iff.mpr c11
          subst c11; have H1 : (some false) = some r := by rw [if_neg (show ¬ (false = true) by decide)] at H; exact H
          clear H; have H := H1; clear H1; obtain rfl := Option.some.inj H; try go_wp2
          replace HB := am (bO HB.out); have p105 : 0 ≤ (x5_1 : Int) := of_decide_eq_true (by assumption); have q105 : x5_1 < (l0.length : Int) := of_decide_eq_true (by assumption); obtain ⟨ad105, A105_1, c105_1, A105_2, c105_2, e105, hx105_0, hx105_1, hx105_2, hl105_1, hi105_1, hl105_2, hi105_2⟩ := at_T34 HR0.out x5_1 p105 q105; have hw105_2 := hx105_2; have hw105_1 := hx105_1; have hw105_0 := hx105_0; cases e105; replace hx105_0 := (HB.out.cell (wB w _ hx105_0)).trans hx105_0; replace hx105_1 := (HB.out.cell (wB w _ hx105_1)).trans hx105_1; replace hx105_2 := (HB.out.cell (wB w _ hx105_2)).trans hx105_2; have HR105_1 := am hi105_1; have HC105_1 := am hl105_1; clear hi105_1 hl105_1; have HR105_2 := am hi105_2; have HC105_2 := am hl105_2; clear hi105_2 hl105_2; replace p105 := eq_true p105; replace q105 := eq_true q105; have p106 : 0 ≤ (x5_1 : Int) := of_decide_eq_true (by assumption); have q106 : x5_1 < (l1.length : Int) := of_decide_eq_true (by assumption); obtain ⟨ad106, A106_1, c106_1, A106_2, c106_2, e106, hx106_0, hx106_1, hx106_2, hl106_1, hi106_1, hl106_2, hi106_2⟩ := at_T34 HR1.out x5_1 p106 q106; have hw106_2 := hx106_2; have hw106_1 := hx106_1; have hw106_0 := hx106_0; cases e106
          replace hx106_0 := (HB.out.cell (wB w _ hx106_0)).trans hx106_0; replace hx106_1 := (HB.out.cell (wB w _ hx106_1)).trans hx106_1; replace hx106_2 := (HB.out.cell (wB w _ hx106_2)).trans hx106_2; have HR106_1 := am hi106_1; have HC106_1 := am hl106_1; clear hi106_1 hl106_1; have HR106_2 := am hi106_2; have HC106_2 := am hl106_2; clear hi106_2 hl106_2; replace p106 := eq_true p106; replace q106 := eq_true q106; have p107 : 0 ≤ (x5_1 : Int) := of_decide_eq_true (by assumption); have q107 : x5_1 < (l0.length : Int) := of_decide_eq_true (by assumption); obtain ⟨ad107, A107_1, c107_1, A107_2, c107_2, e107, hx107_0, hx107_1, hx107_2, hl107_1, hi107_1, hl107_2, hi107_2⟩ := at_T34 HR0.out x5_1 p107 q107; have hw107_2 := hx107_2; have hw107_1 := hx107_1; have hw107_0 := hx107_0; obtain rfl : ad105 = ad107 := (by injection e107); replace hx107_0 := (HB.out.cell (wB w _ hx107_0)).trans hx107_0; replace hx107_1 := (HB.out.cell (wB w _ hx107_1)).trans hx107_1; replace hx107_2 := (HB.out.cell (wB w _ hx107_2)).trans hx107_2; have HR107_1 := am hi107_1; have HC107_1 := am hl107_1; clear hi107_1 hl107_1; have HR107_2 := am hi107_2; have HC107_2 := am hl107_2; clear hi107_2 hl107_2; replace p107 := eq_true p107; replace q107 := eq_true q107
          have ea_ := Option.some.inj (hx105_1.symm.trans hx107_1); injection ea_ with ea_ en_ ec_; subst ea_; subst ec_; clear en_; have ea_ := Option.some.inj (hx105_2.symm.trans hx107_2); injection ea_ with ea_ en_ ec_; subst ea_; subst ec_; clear en_; have p108 : 0 ≤ (x5_1 : Int) := of_decide_eq_true (by assumption); have q108 : x5_1 < (l1.length : Int) := of_decide_eq_true (by assumption); obtain ⟨ad108, A108_1, c108_1, A108_2, c108_2, e108, hx108_0, hx108_1, hx108_2, hl108_1, hi108_1, hl108_2, hi108_2⟩ := at_T34 HR1.out x5_1 p108 q108; have hw108_2 := hx108_2; have hw108_1 := hx108_1; have hw108_0 := hx108_0; obtain rfl : ad106 = ad108 := (by injection e108); replace hx108_0 := (HB.out.cell (wB w _ hx108_0)).trans hx108_0; replace hx108_1 := (HB.out.cell (wB w _ hx108_1)).trans hx108_1; replace hx108_2 := (HB.out.cell (wB w _ hx108_2)).trans hx108_2; have HR108_1 := am hi108_1; have HC108_1 := am hl108_1; clear hi108_1 hl108_1; have HR108_2 := am hi108_2; have HC108_2 := am hl108_2; clear hi108_2 hl108_2; replace p108 := eq_true p108; replace q108 := eq_true q108; have ea_ := Option.some.inj (hx106_1.symm.trans hx108_1); injection ea_ with ea_ en_ ec_; subst ea_; subst ec_; clear en_; have ea_ := Option.some.inj (hx106_2.symm.trans hx108_2); injection ea_ with ea_ en_ ec_; subst ea_; subst ec_; clear en_; have p110 : 0 ≤ (x5_1 : Int) := of_decide_eq_true (by assumption)
          have q110 : x5_1 < (l0.length : Int) := of_decide_eq_true (by assumption); obtain ⟨ad110, A110_1, c110_1, A110_2, c110_2, e110, hx110_0, hx110_1, hx110_2, hl110_1, hi110_1, hl110_2, hi110_2⟩ := at_T34 HR0.out x5_1 p110 q110; have hw110_2 := hx110_2; have hw110_1 := hx110_1; have hw110_0 := hx110_0; obtain rfl : ad105 = ad110 := (by injection e110); replace hx110_0 := (HB.out.cell (wB w _ hx110_0)).trans hx110_0; replace hx110_1 := (HB.out.cell (wB w _ hx110_1)).trans hx110_1; replace hx110_2 := (HB.out.cell (wB w _ hx110_2)).trans hx110_2; have HR110_1 := am hi110_1; have HC110_1 := am hl110_1; clear hi110_1 hl110_1; have HR110_2 := am hi110_2; have HC110_2 := am hl110_2; clear hi110_2 hl110_2; replace p110 := eq_true p110; replace q110 := eq_true q110; have ea_ := Option.some.inj (hx105_1.symm.trans hx110_1); injection ea_ with ea_ en_ ec_; subst ea_; subst ec_; clear en_; have ea_ := Option.some.inj (hx105_2.symm.trans hx110_2); injection ea_ with ea_ en_ ec_; subst ea_; subst ec_; clear en_; have p111 : 0 ≤ (x5_1 : Int) := of_decide_eq_true (by assumption); have q111 : x5_1 < (l1.length : Int) := of_decide_eq_true (by assumption); obtain ⟨ad111, A111_1, c111_1, A111_2, c111_2, e111, hx111_0, hx111_1, hx111_2, hl111_1, hi111_1, hl111_2, hi111_2⟩ := at_T34 HR1.out x5_1 p111 q111
          have hw111_2 := hx111_2; have hw111_1 := hx111_1; have hw111_0 := hx111_0; obtain rfl : ad106 = ad111 := (by injection e111); replace hx111_0 := (HB.out.cell (wB w _ hx111_0)).trans hx111_0; replace hx111_1 := (HB.out.cell (wB w _ hx111_1)).trans hx111_1; replace hx111_2 := (HB.out.cell (wB w _ hx111_2)).trans hx111_2; have HR111_1 := am hi111_1; have HC111_1 := am hl111_1; clear hi111_1 hl111_1; have HR111_2 := am hi111_2; have HC111_2 := am hl111_2; clear hi111_2 hl111_2; replace p111 := eq_true p111; replace q111 := eq_true q111; have ea_ := Option.some.inj (hx106_1.symm.trans hx111_1); injection ea_ with ea_ en_ ec_; subst ea_; subst ec_; clear en_; have ea_ := Option.some.inj (hx106_2.symm.trans hx111_2); injection ea_ with ea_ en_ ec_; subst ea_; subst ec_; clear en_; refine start_ (n := 39) (S := fun w' => w'.cell? (ad105.add ((x5_1).toNat * 3)) = some (.string ((rd_T34 l0 x5_1).f0)) ∧ w'.cell? ⟨(ad105.add ((x5_1).toNat * 3)).block, (ad105.add ((x5_1).toNat * 3)).off + 1, none⟩ = some (.slice A105_1 ((rd_T34 l0 x5_1).f1).length c105_1) ∧ w'.cell? ⟨(ad105.add ((x5_1).toNat * 3)).block, (ad105.add ((x5_1).toNat * 3)).off + 2, none⟩ = some (.slice A105_2 ((rd_T34 l0 x5_1).f2).length c105_2) ∧ w'.cell? (ad106.add ((x5_1).toNat * 3)) = some (.string ((rd_T34 l1 x5_1).f0)) ∧ w'.cell? ⟨(ad106.add ((x5_1).toNat * 3)).block, (ad106.add ((x5_1).toNat * 3)).off + 1, none⟩ = some (.slice A106_1 ((rd_T34 l1 x5_1).f1).length c106_1) ∧ w'.cell? ⟨(ad106.add ((x5_1).toNat * 3)).block, (ad106.add ((x5_1).toNat * 3)).off + 2, none⟩ = some (.slice A106_2 ((rd_T34 l1 x5_1).f2).length c106_2) ∧ w'.cell? (ad105.add ((x5_1).toNat * 3)) = some (.string ((rd_T34 l0 x5_1).f0)) ∧ w'.cell? ⟨(ad105.add ((x5_1).toNat * 3)).block, (ad105.add ((x5_1).toNat * 3)).off + 1, none⟩ = some (.slice A105_1 ((rd_T34 l0 x5_1).f1).length c105_1) ∧ w'.cell? ⟨(ad105.add ((x5_1).toNat * 3)).block, (ad105.add ((x5_1).toNat * 3)).off + 2, none⟩ = some (.slice A105_2 ((rd_T34 l0 x5_1).f2).length c105_2) ∧ w'.cell? (ad106.add ((x5_1).toNat * 3)) = some (.string ((rd_T34 l1 x5_1).f0)) ∧ w'.cell? ⟨(ad106.add ((x5_1).toNat * 3)).block, (ad106.add ((x5_1).toNat * 3)).off + 1, none⟩ = some (.slice A106_1 ((rd_T34 l1 x5_1).f1).length c106_1) ∧ w'.cell? ⟨(ad106.add ((x5_1).toNat * 3)).block, (ad106.add ((x5_1).toNat * 3)).off + 2, none⟩ = some (.slice A106_2 ((rd_T34 l1 x5_1).f2).length c106_2) ∧ w'.cell? (ad105.add ((x5_1).toNat * 3)) = some (.string ((rd_T34 l0 x5_1).f0)) ∧ w'.cell? ⟨(ad105.add ((x5_1).toNat * 3)).block, (ad105.add ((x5_1).toNat * 3)).off + 1, none⟩ = some (.slice A105_1 ((rd_T34 l0 x5_1).f1).length c105_1) ∧ w'.cell? ⟨(ad105.add ((x5_1).toNat * 3)).block, (ad105.add ((x5_1).toNat * 3)).off + 2, none⟩ = some (.slice A105_2 ((rd_T34 l0 x5_1).f2).length c105_2) ∧ w'.cell? (ad106.add ((x5_1).toNat * 3)) = some (.string ((rd_T34 l1 x5_1).f0)) ∧ w'.cell? ⟨(ad106.add ((x5_1).toNat * 3)).block, (ad106.add ((x5_1).toNat * 3)).off + 1, none⟩ = some (.slice A106_1 ((rd_T34 l1 x5_1).f1).length c106_1) ∧ w'.cell? ⟨(ad106.add ((x5_1).toNat * 3)).block, (ad106.add ((x5_1).toNat * 3)).off + 2, none⟩ = some (.slice A106_2 ((rd_T34 l1 x5_1).f2).length c106_2)) (ds := []) #[fF,fF,fF,fF,fF,fF,fF,fF,fF,fF,fF,fF,fF,fF,fF,fF,fF,fF,fF,fF,fF,fF,fF,fF,fF,fF,fF,fF,fF,fF,fF,fF,fF,fF,fF,fF,fF,fF,fF] (by kernel_rfl) rfl rfl ⟨((HB.out.cell (wB w _ hw105_0)).trans hw105_0), ((HB.out.cell (wB w _ hw105_1)).trans hw105_1), ((HB.out.cell (wB w _ hw105_2)).trans hw105_2), ((HB.out.cell (wB w _ hw106_0)).trans hw106_0), ((HB.out.cell (wB w _ hw106_1)).trans hw106_1), ((HB.out.cell (wB w _ hw106_2)).trans hw106_2), ((HB.out.cell (wB w _ hw107_0)).trans hw107_0), ((HB.out.cell (wB w _ hw107_1)).trans hw107_1), ((HB.out.cell (wB w _ hw107_2)).trans hw107_2), ((HB.out.cell (wB w _ hw108_0)).trans hw108_0), ((HB.out.cell (wB w _ hw108_1)).trans hw108_1), ((HB.out.cell (wB w _ hw108_2)).trans hw108_2), ((HB.out.cell (wB w _ hw110_0)).trans hw110_0), ((HB.out.cell (wB w _ hw110_1)).trans hw110_1), ((HB.out.cell (wB w _ hw110_2)).trans hw110_2), ((HB.out.cell (wB w _ hw111_0)).trans hw111_0), ((HB.out.cell (wB w _ hw111_1)).trans hw111_1), ((HB.out.cell (wB w _ hw111_2)).trans hw111_2)⟩ (fun hHeld => ?_); refine with_tabW hogsheadlaw0_SameItems.tab6 hogsheadlaw0_SameItems.bits6 (fun HT_ HW_ => ?_)
          generalize wr.drew = w13 at HB HR105_1 HR105_2 HR106_1 HR106_2 HR107_1 HR107_2 HR108_1 HR108_2 HR110_1 HR110_2 HR111_1 HR111_2 hx105_0 hx105_1 hx105_2 hx106_0 hx106_1 hx106_2 hx107_0 hx107_1 hx107_2 hx108_0 hx108_1 hx108_2 hx110_0 hx110_1 hx110_2 hx111_0 hx111_1 hx111_2 hHeld ⊢
          refine pu 0 (some 17) ?_
          refine pu 1 (some 18) ?_
          refine pu 2 (some 19) ?_
          refine pu 3 (some 20) ?_
          refine pu 5 (some 22) ?_
          refine pu 6 (some 23) ?_
          refine pu 7 (some 24) ?_
          refine pu 8 (some 25) ?_
          refine take_ (i := 4) (N := some 21) (v := ?_) (a' := ?_) #[tT,tT,tT,tT,tT,tT,tT,tT,tT,fF,fF,fF,fF,fF,fF,fF,fF,fF,fF,fF,fF,fF,fF,fF,fF,fF,fF,fF,fF,fF,fF,fF,fF,fF,fF,fF,fF,fF,fF] rfl rfl (take_ofW HT_.out HW_.out (by kernel_rfl)) (fun _ _ _ h => h) (Or.inl ⟨by rfl, ?_⟩) hHeld ?_ ?_
          rotate_left
          ·rintro w' ⟨s0, s1, s2, s3, s4, s5, s6, s7, s8, s9, s10, s11, s12, s13, s14, s15, s16, s17⟩
           go_simp
           with_reducible rfl
          rotate_left
          ·simp only [Act.put, sA, sB, sC, i64_w, i32_w]
           rfl
          refine take_ (i := 9) (N := some 26) (v := ?_) (a' := ?_) #[tT,tT,tT,tT,tT,tT,tT,tT,tT,tT,fF,fF,fF,fF,fF,fF,fF,fF,fF,fF,fF,fF,fF,fF,fF,fF,fF,fF,fF,fF,fF,fF,fF,fF,fF,fF,fF,fF,fF] rfl rfl (take_ofW HT_.out HW_.out (by kernel_rfl)) (fun _ _ _ h => h) (Or.inl ⟨by rfl, ?_⟩) hHeld ?_ ?_
          rotate_left
          ·rintro w' ⟨s0, s1, s2, s3, s4, s5, s6, s7, s8, s9, s10, s11, s12, s13, s14, s15, s16, s17⟩
           go_simp
           with_reducible rfl
          rotate_left
          ·simp only [Act.put, sA, sB, sC, i64_w, i32_w]
           rfl
          refine pu 10 (some 27) ?_
          refine pu 11 (some 28) ?_
          refine pu 12 (some 29) ?_
          refine pu 13 (some 30) ?_
          refine pu 14 (some 31) ?_
          refine pu 15 (some 32) ?_
          refine pu 17 (some 34) ?_
          refine pu 18 (some 35) ?_
          refine pu 19 (some 36) ?_
          refine pu 20 (some 37) ?_
          refine take_ (i := 16) (N := some 33) (v := ?_) (a' := ?_) #[tT,tT,tT,tT,tT,tT,tT,tT,tT,tT,tT,tT,tT,tT,tT,tT,tT,tT,tT,tT,tT,fF,fF,fF,fF,fF,fF,fF,fF,fF,fF,fF,fF,fF,fF,fF,fF,fF,fF] rfl rfl (take_ofW HT_.out HW_.out (by kernel_rfl)) (fun _ _ _ h => h) (Or.inl ⟨by rfl, ?_⟩) hHeld ?_ ?_
          rotate_left
          ·rintro w' ⟨s0, s1, s2, s3, s4, s5, s6, s7, s8, s9, s10, s11, s12, s13, s14, s15, s16, s17⟩
           go_simp
           with_reducible rfl
          rotate_left
          ·simp only [Act.put, sA, sB, sC, i64_w, i32_w]
           rfl
          refine take_ (i := 21) (N := some 38) (v := ?_) (a' := ?_) #[tT,tT,tT,tT,tT,tT,tT,tT,tT,tT,tT,tT,tT,tT,tT,tT,tT,tT,tT,tT,tT,tT,fF,fF,fF,fF,fF,fF,fF,fF,fF,fF,fF,fF,fF,fF,fF,fF,fF] rfl rfl (take_ofW HT_.out HW_.out (by kernel_rfl)) (fun _ _ _ h => h) (Or.inl ⟨by rfl, ?_⟩) hHeld ?_ ?_
          rotate_left
          ·rintro w' ⟨s0, s1, s2, s3, s4, s5, s6, s7, s8, s9, s10, s11, s12, s13, s14, s15, s16, s17⟩
           go_simp
           with_reducible rfl
          rotate_left
          ·simp only [Act.put, sA, sB, sC, i64_w, i32_w]
           rfl
          refine one_ (i := 22) (N := some 39) #[tT,tT,tT,tT,tT,tT,tT,tT,tT,tT,tT,tT,tT,tT,tT,tT,tT,tT,tT,tT,tT,tT,tT,fF,fF,fF,fF,fF,fF,fF,fF,fF,fF,fF,fF,fF,fF,fF,fF] rfl rfl (one_of HT_.out (by kernel_rfl)) (by decide) (fun K hK => ?_)
          refine goes_ Tryd.func23 (by kernel_rfl) rfl #[.slice A105_1 ((rd_T34 l0 x5_1).f1).length c105_1, .slice A106_1 ((rd_T34 l1 x5_1).f1).length c106_1] (by rfl) rfl rfl (by (try simp only [mT, mC, mN]); first | done | rfl | (simp only [lD, lT]; rfl)) ?_
          with_reducible refine (hogsheadlaw0_SameTexts.calls k1 _ _ ((rd_T34 l0 x5_1).f1) _ _ ((rd_T34 l1 x5_1).f1) true _ ?side1 ?side2 ?side3 ?side4 A8.out).mono ?_
          (case side1 => exact cz (Kd.C_below HR107_1.out HB.out))
          (case side2 => exact HC107_1.out)
          (case side3 => exact cz (Kd.C_below HR108_1.out HB.out))
          (case side4 => exact HC108_1.out)
          rintro e w' ⟨rfl, ⟨nd, rfl⟩⟩; refine ⟨_, rfl, ?_⟩
          refine hK.out _ _ ⟨((HB.out.cell (wB w _ hw105_0)).trans hw105_0), ((HB.out.cell (wB w _ hw105_1)).trans hw105_1), ((HB.out.cell (wB w _ hw105_2)).trans hw105_2), ((HB.out.cell (wB w _ hw106_0)).trans hw106_0), ((HB.out.cell (wB w _ hw106_1)).trans hw106_1), ((HB.out.cell (wB w _ hw106_2)).trans hw106_2), ((HB.out.cell (wB w _ hw107_0)).trans hw107_0), ((HB.out.cell (wB w _ hw107_1)).trans hw107_1), ((HB.out.cell (wB w _ hw107_2)).trans hw107_2), ((HB.out.cell (wB w _ hw108_0)).trans hw108_0), ((HB.out.cell (wB w _ hw108_1)).trans hw108_1), ((HB.out.cell (wB w _ hw108_2)).trans hw108_2), ((HB.out.cell (wB w _ hw110_0)).trans hw110_0), ((HB.out.cell (wB w _ hw110_1)).trans hw110_1), ((HB.out.cell (wB w _ hw110_2)).trans hw110_2), ((HB.out.cell (wB w _ hw111_0)).trans hw111_0), ((HB.out.cell (wB w _ hw111_1)).trans hw111_1), ((HB.out.cell (wB w _ hw111_2)).trans hw111_2)⟩ (fun hHeld => ?_)
          clear hK K; refine norm_ (a' := ?_) ?_ ?_
          rotate_left
          ·show Act.put _ (some 39) _ = _
           simp only [Act.put, sA, sB, sC, i64_w, i32_w]
           rfl
          refine pu 23 (some 40) ?_
          refine pu 24 (some 41) ?_
          refine pu 25 (some 42) ?_
          refine pu 26 (some 43) ?_
          refine pu 27 (some 44) ?_
          refine pu 28 (some 45) ?_
          refine pu 29 (some 46) ?_
          refine pu 31 (some 48) ?_
          refine pu 32 (some 49) ?_
          refine pu 33 (some 50) ?_
          refine pu 34 (some 51) ?_
          refine take_ (i := 30) (N := some 47) (v := ?_) (a' := ?_) #[tT,tT,tT,tT,tT,tT,tT,tT,tT,tT,tT,tT,tT,tT,tT,tT,tT,tT,tT,tT,tT,tT,tT,tT,tT,tT,tT,tT,tT,tT,tT,tT,tT,tT,tT,fF,fF,fF,fF] rfl rfl (take_ofW HT_.out HW_.out (by kernel_rfl)) (fun _ _ _ h => h) (Or.inl ⟨by rfl, ?_⟩) hHeld ?_ ?_
          rotate_left
          ·rintro w' ⟨s0, s1, s2, s3, s4, s5, s6, s7, s8, s9, s10, s11, s12, s13, s14, s15, s16, s17⟩
           go_simp
           with_reducible rfl
          rotate_left
          ·simp only [Act.put, sA, sB, sC, i64_w, i32_w]
           rfl
          refine take_ (i := 35) (N := some 52) (v := ?_) (a' := ?_) #[tT,tT,tT,tT,tT,tT,tT,tT,tT,tT,tT,tT,tT,tT,tT,tT,tT,tT,tT,tT,tT,tT,tT,tT,tT,tT,tT,tT,tT,tT,tT,tT,tT,tT,tT,tT,fF,fF,fF] rfl rfl (take_ofW HT_.out HW_.out (by kernel_rfl)) (fun _ _ _ h => h) (Or.inl ⟨by rfl, ?_⟩) hHeld ?_ ?_
          rotate_left
          ·rintro w' ⟨s0, s1, s2, s3, s4, s5, s6, s7, s8, s9, s10, s11, s12, s13, s14, s15, s16, s17⟩
           go_simp
           with_reducible rfl
          rotate_left
          ·simp only [Act.put, sA, sB, sC, i64_w, i32_w]
           rfl
          refine one_ (i := 36) (N := some 53) #[tT,tT,tT,tT,tT,tT,tT,tT,tT,tT,tT,tT,tT,tT,tT,tT,tT,tT,tT,tT,tT,tT,tT,tT,tT,tT,tT,tT,tT,tT,tT,tT,tT,tT,tT,tT,tT,fF,fF] rfl rfl (one_of HT_.out (by kernel_rfl)) (by decide) (fun K hK => ?_)
          refine goes_ Tryd.func30 (by kernel_rfl) rfl #[.slice A105_2 ((rd_T34 l0 x5_1).f2).length c105_2, .slice A106_2 ((rd_T34 l1 x5_1).f2).length c106_2] (by rfl) rfl rfl (by (try simp only [mT, mC, mN]); first | done | rfl | (simp only [lD, lT]; rfl)) ?_
          with_reducible refine (hogsheadlaw0_SameNodes.calls k1 _ _ ((rd_T34 l0 x5_1).f2) _ _ ((rd_T34 l1 x5_1).f2) false _ ?side1 ?side2 ?side3 ?side4 A10.out).mono ?_
          (case side1 => exact cz (Kd.C_below HR110_2.out bz))
          (case side2 => exact HC110_2.out)
          (case side3 => exact cz (Kd.C_below HR111_2.out bz))
          (case side4 => exact HC111_2.out)
          rintro e w' ⟨rfl, ⟨nd, rfl⟩⟩; refine ⟨_, rfl, ?_⟩
          refine hK.out _ _ ⟨((HB.out.cell (wB w _ hw105_0)).trans hw105_0), ((HB.out.cell (wB w _ hw105_1)).trans hw105_1), ((HB.out.cell (wB w _ hw105_2)).trans hw105_2), ((HB.out.cell (wB w _ hw106_0)).trans hw106_0), ((HB.out.cell (wB w _ hw106_1)).trans hw106_1), ((HB.out.cell (wB w _ hw106_2)).trans hw106_2), ((HB.out.cell (wB w _ hw107_0)).trans hw107_0), ((HB.out.cell (wB w _ hw107_1)).trans hw107_1), ((HB.out.cell (wB w _ hw107_2)).trans hw107_2), ((HB.out.cell (wB w _ hw108_0)).trans hw108_0), ((HB.out.cell (wB w _ hw108_1)).trans hw108_1), ((HB.out.cell (wB w _ hw108_2)).trans hw108_2), ((HB.out.cell (wB w _ hw110_0)).trans hw110_0), ((HB.out.cell (wB w _ hw110_1)).trans hw110_1), ((HB.out.cell (wB w _ hw110_2)).trans hw110_2), ((HB.out.cell (wB w _ hw111_0)).trans hw111_0), ((HB.out.cell (wB w _ hw111_1)).trans hw111_1), ((HB.out.cell (wB w _ hw111_2)).trans hw111_2)⟩ (fun hHeld => ?_)
          clear hK K; refine norm_ (a' := ?_) ?_ ?_
          rotate_left
          ·show Act.put _ (some 53) _ = _
           simp only [Act.put, sA, sB, sC, i64_w, i32_w]
           rfl
          refine pu 37 (some 54) ?_
          refine pu 38 (some 55) ?_
          refine done_ (done_of HT_.out (by kernel_rfl)) ?_
          try go_wp2
          go_ret; exact ⟨ez, bz⟩
        ·replace c9 := Bool.eq_false_iff.mpr c9
         subst c9; have H1 : (some false) = some r := by rw [if_neg (show ¬ (false = true) by decide)] at H; exact H
         clear H; have H := H1; clear H1; obtain rfl := Option.some.inj H; try go_wp2
         replace HB := am (bO HB.out); have p105 : 0 ≤ (x5_1 : Int) := of_decide_eq_true (by assumption); have q105 : x5_1 < (l0.length : Int) := of_decide_eq_true (by assumption); obtain ⟨ad105, A105_1, c105_1, A105_2, c105_2, e105, hx105_0, hx105_1, hx105_2, hl105_1, hi105_1, hl105_2, hi105_2⟩ := at_T34 HR0.out x5_1 p105 q105; have hw105_2 := hx105_2; have hw105_1 := hx105_1; have hw105_0 := hx105_0; cases e105; replace hx105_0 := (HB.out.cell (wB w _ hx105_0)).trans hx105_0; replace hx105_1 := (HB.out.cell (wB w _ hx105_1)).trans hx105_1; replace hx105_2 := (HB.out.cell (wB w _ hx105_2)).trans hx105_2; have HR105_1 := am hi105_1; have HC105_1 := am hl105_1; clear hi105_1 hl105_1; have HR105_2 := am hi105_2; have HC105_2 := am hl105_2; clear hi105_2 hl105_2; replace p105 := eq_true p105; replace q105 := eq_true q105; have p106 : 0 ≤ (x5_1 : Int) := of_decide_eq_true (by assumption); have q106 : x5_1 < (l1.length : Int) := of_decide_eq_true (by assumption); obtain ⟨ad106, A106_1, c106_1, A106_2, c106_2, e106, hx106_0, hx106_1, hx106_2, hl106_1, hi106_1, hl106_2, hi106_2⟩ := at_T34 HR1.out x5_1 p106 q106; have hw106_2 := hx106_2; have hw106_1 := hx106_1; have hw106_0 := hx106_0; cases e106
         replace hx106_0 := (HB.out.cell (wB w _ hx106_0)).trans hx106_0; replace hx106_1 := (HB.out.cell (wB w _ hx106_1)).trans hx106_1; replace hx106_2 := (HB.out.cell (wB w _ hx106_2)).trans hx106_2; have HR106_1 := am hi106_1; have HC106_1 := am hl106_1; clear hi106_1 hl106_1; have HR106_2 := am hi106_2; have HC106_2 := am hl106_2; clear hi106_2 hl106_2; replace p106 := eq_true p106; replace q106 := eq_true q106; have p107 : 0 ≤ (x5_1 : Int) := of_decide_eq_true (by assumption); have q107 : x5_1 < (l0.length : Int) := of_decide_eq_true (by assumption); obtain ⟨ad107, A107_1, c107_1, A107_2, c107_2, e107, hx107_0, hx107_1, hx107_2, hl107_1, hi107_1, hl107_2, hi107_2⟩ := at_T34 HR0.out x5_1 p107 q107; have hw107_2 := hx107_2; have hw107_1 := hx107_1; have hw107_0 := hx107_0; obtain rfl : ad105 = ad107 := (by injection e107); replace hx107_0 := (HB.out.cell (wB w _ hx107_0)).trans hx107_0; replace hx107_1 := (HB.out.cell (wB w _ hx107_1)).trans hx107_1; replace hx107_2 := (HB.out.cell (wB w _ hx107_2)).trans hx107_2; have HR107_1 := am hi107_1; have HC107_1 := am hl107_1; clear hi107_1 hl107_1; have HR107_2 := am hi107_2; have HC107_2 := am hl107_2; clear hi107_2 hl107_2; replace p107 := eq_true p107; replace q107 := eq_true q107
         have ea_ := Option.some.inj (hx105_1.symm.trans hx107_1); injection ea_ with ea_ en_ ec_; subst ea_; subst ec_; clear en_; have ea_ := Option.some.inj (hx105_2.symm.trans hx107_2); injection ea_ with ea_ en_ ec_; subst ea_; subst ec_; clear en_; have p108 : 0 ≤ (x5_1 : Int) := of_decide_eq_true (by assumption); have q108 : x5_1 < (l1.length : Int) := of_decide_eq_true (by assumption); obtain ⟨ad108, A108_1, c108_1, A108_2, c108_2, e108, hx108_0, hx108_1, hx108_2, hl108_1, hi108_1, hl108_2, hi108_2⟩ := at_T34 HR1.out x5_1 p108 q108; have hw108_2 := hx108_2; have hw108_1 := hx108_1; have hw108_0 := hx108_0; obtain rfl : ad106 = ad108 := (by injection e108); replace hx108_0 := (HB.out.cell (wB w _ hx108_0)).trans hx108_0; replace hx108_1 := (HB.out.cell (wB w _ hx108_1)).trans hx108_1; replace hx108_2 := (HB.out.cell (wB w _ hx108_2)).trans hx108_2; have HR108_1 := am hi108_1; have HC108_1 := am hl108_1; clear hi108_1 hl108_1; have HR108_2 := am hi108_2; have HC108_2 := am hl108_2; clear hi108_2 hl108_2; replace p108 := eq_true p108; replace q108 := eq_true q108; have ea_ := Option.some.inj (hx106_1.symm.trans hx108_1); injection ea_ with ea_ en_ ec_; subst ea_; subst ec_; clear en_; have ea_ := Option.some.inj (hx106_2.symm.trans hx108_2); injection ea_ with ea_ en_ ec_; subst ea_; subst ec_; clear en_; refine start_ (n := 39) (S := fun w' => w'.cell? (ad105.add ((x5_1).toNat * 3)) = some (.string ((rd_T34 l0 x5_1).f0)) ∧ w'.cell? ⟨(ad105.add ((x5_1).toNat * 3)).block, (ad105.add ((x5_1).toNat * 3)).off + 1, none⟩ = some (.slice A105_1 ((rd_T34 l0 x5_1).f1).length c105_1) ∧ w'.cell? ⟨(ad105.add ((x5_1).toNat * 3)).block, (ad105.add ((x5_1).toNat * 3)).off + 2, none⟩ = some (.slice A105_2 ((rd_T34 l0 x5_1).f2).length c105_2) ∧ w'.cell? (ad106.add ((x5_1).toNat * 3)) = some (.string ((rd_T34 l1 x5_1).f0)) ∧ w'.cell? ⟨(ad106.add ((x5_1).toNat * 3)).block, (ad106.add ((x5_1).toNat * 3)).off + 1, none⟩ = some (.slice A106_1 ((rd_T34 l1 x5_1).f1).length c106_1) ∧ w'.cell? ⟨(ad106.add ((x5_1).toNat * 3)).block, (ad106.add ((x5_1).toNat * 3)).off + 2, none⟩ = some (.slice A106_2 ((rd_T34 l1 x5_1).f2).length c106_2) ∧ w'.cell? (ad105.add ((x5_1).toNat * 3)) = some (.string ((rd_T34 l0 x5_1).f0)) ∧ w'.cell? ⟨(ad105.add ((x5_1).toNat * 3)).block, (ad105.add ((x5_1).toNat * 3)).off + 1, none⟩ = some (.slice A105_1 ((rd_T34 l0 x5_1).f1).length c105_1) ∧ w'.cell? ⟨(ad105.add ((x5_1).toNat * 3)).block, (ad105.add ((x5_1).toNat * 3)).off + 2, none⟩ = some (.slice A105_2 ((rd_T34 l0 x5_1).f2).length c105_2) ∧ w'.cell? (ad106.add ((x5_1).toNat * 3)) = some (.string ((rd_T34 l1 x5_1).f0)) ∧ w'.cell? ⟨(ad106.add ((x5_1).toNat * 3)).block, (ad106.add ((x5_1).toNat * 3)).off + 1, none⟩ = some (.slice A106_1 ((rd_T34 l1 x5_1).f1).length c106_1) ∧ w'.cell? ⟨(ad106.add ((x5_1).toNat * 3)).block, (ad106.add ((x5_1).toNat * 3)).off + 2, none⟩ = some (.slice A106_2 ((rd_T34 l1 x5_1).f2).length c106_2)) (ds := []) #[fF,fF,fF,fF,fF,fF,fF,fF,fF,fF,fF,fF,fF,fF,fF,fF,fF,fF,fF,fF,fF,fF,fF,fF,fF,fF,fF,fF,fF,fF,fF,fF,fF,fF,fF,fF,fF,fF,fF] (by kernel_rfl) rfl rfl ⟨((HB.out.cell (wB w _ hw105_0)).trans hw105_0), ((HB.out.cell (wB w _ hw105_1)).trans hw105_1), ((HB.out.cell (wB w _ hw105_2)).trans hw105_2), ((HB.out.cell (wB w _ hw106_0)).trans hw106_0), ((HB.out.cell (wB w _ hw106_1)).trans hw106_1), ((HB.out.cell (wB w _ hw106_2)).trans hw106_2), ((HB.out.cell (wB w _ hw107_0)).trans hw107_0), ((HB.out.cell (wB w _ hw107_1)).trans hw107_1), ((HB.out.cell (wB w _ hw107_2)).trans hw107_2), ((HB.out.cell (wB w _ hw108_0)).trans hw108_0), ((HB.out.cell (wB w _ hw108_1)).trans hw108_1), ((HB.out.cell (wB w _ hw108_2)).trans hw108_2)⟩ (fun hHeld => ?_); refine with_tabW hogsheadlaw0_SameItems.tab6 hogsheadlaw0_SameItems.bits6 (fun HT_ HW_ => ?_)
         generalize wr.drew = w14 at HB HR105_1 HR105_2 HR106_1 HR106_2 HR107_1 HR107_2 HR108_1 HR108_2 hx105_0 hx105_1 hx105_2 hx106_0 hx106_1 hx106_2 hx107_0 hx107_1 hx107_2 hx108_0 hx108_1 hx108_2 hHeld ⊢
         refine pu 0 (some 17) ?_
         refine pu 1 (some 18) ?_
         refine pu 2 (some 19) ?_
         refine pu 3 (some 20) ?_
         refine pu 5 (some 22) ?_
         refine pu 6 (some 23) ?_
         refine pu 7 (some 24) ?_
         refine pu 8 (some 25) ?_
         refine take_ (i := 4) (N := some 21) (v := ?_) (a' := ?_) #[tT,tT,tT,tT,tT,tT,tT,tT,tT,fF,fF,fF,fF,fF,fF,fF,fF,fF,fF,fF,fF,fF,fF,fF,fF,fF,fF,fF,fF,fF,fF,fF,fF,fF,fF,fF,fF,fF,fF] rfl rfl (take_ofW HT_.out HW_.out (by kernel_rfl)) (fun _ _ _ h => h) (Or.inl ⟨by rfl, ?_⟩) hHeld ?_ ?_
         rotate_left
         ·rintro w' ⟨s0, s1, s2, s3, s4, s5, s6, s7, s8, s9, s10, s11⟩
          go_simp
          with_reducible rfl
         rotate_left
         ·simp only [Act.put, sA, sB, sC, i64_w, i32_w]
          rfl
         refine take_ (i := 9) (N := some 26) (v := ?_) (a' := ?_) #[tT,tT,tT,tT,tT,tT,tT,tT,tT,tT,fF,fF,fF,fF,fF,fF,fF,fF,fF,fF,fF,fF,fF,fF,fF,fF,fF,fF,fF,fF,fF,fF,fF,fF,fF,fF,fF,fF,fF] rfl rfl (take_ofW HT_.out HW_.out (by kernel_rfl)) (fun _ _ _ h => h) (Or.inl ⟨by rfl, ?_⟩) hHeld ?_ ?_
         rotate_left
         ·rintro w' ⟨s0, s1, s2, s3, s4, s5, s6, s7, s8, s9, s10, s11⟩
          go_simp
          with_reducible rfl
         rotate_left
         ·simp only [Act.put, sA, sB, sC, i64_w, i32_w]
          rfl
         refine pu 10 (some 27) ?_
         refine pu 11 (some 28) ?_
         refine pu 12 (some 29) ?_
         refine pu 13 (some 30) ?_
         refine pu 14 (some 31) ?_
         refine pu 15 (some 32) ?_
         refine pu 17 (some 34) ?_
         refine pu 18 (some 35) ?_
         refine pu 19 (some 36) ?_
         refine pu 20 (some 37) ?_
         refine take_ (i := 16) (N := some 33) (v := ?_) (a' := ?_) #[tT,tT,tT,tT,tT,tT,tT,tT,tT,tT,tT,tT,tT,tT,tT,tT,tT,tT,tT,tT,tT,fF,fF,fF,fF,fF,fF,fF,fF,fF,fF,fF,fF,fF,fF,fF,fF,fF,fF] rfl rfl (take_ofW HT_.out HW_.out (by kernel_rfl)) (fun _ _ _ h => h) (Or.inl ⟨by rfl, ?_⟩) hHeld ?_ ?_
         rotate_left
         ·rintro w' ⟨s0, s1, s2, s3, s4, s5, s6, s7, s8, s9, s10, s11⟩
          go_simp
          with_reducible rfl
         rotate_left
         ·simp only [Act.put, sA, sB, sC, i64_w, i32_w]
          rfl
         refine take_ (i := 21) (N := some 38) (v := ?_) (a' := ?_) #[tT,tT,tT,tT,tT,tT,tT,tT,tT,tT,tT,tT,tT,tT,tT,tT,tT,tT,tT,tT,tT,tT,fF,fF,fF,fF,fF,fF,fF,fF,fF,fF,fF,fF,fF,fF,fF,fF,fF] rfl rfl (take_ofW HT_.out HW_.out (by kernel_rfl)) (fun _ _ _ h => h) (Or.inl ⟨by rfl, ?_⟩) hHeld ?_ ?_
         rotate_left
         ·rintro w' ⟨s0, s1, s2, s3, s4, s5, s6, s7, s8, s9, s10, s11⟩
          go_simp
          with_reducible rfl
         rotate_left
         ·simp only [Act.put, sA, sB, sC, i64_w, i32_w]
          rfl
         refine one_ (i := 22) (N := some 39) #[tT,tT,tT,tT,tT,tT,tT,tT,tT,tT,tT,tT,tT,tT,tT,tT,tT,tT,tT,tT,tT,tT,tT,fF,fF,fF,fF,fF,fF,fF,fF,fF,fF,fF,fF,fF,fF,fF,fF] rfl rfl (one_of HT_.out (by kernel_rfl)) (by decide) (fun K hK => ?_)
         refine goes_ Tryd.func23 (by kernel_rfl) rfl #[.slice A105_1 ((rd_T34 l0 x5_1).f1).length c105_1, .slice A106_1 ((rd_T34 l1 x5_1).f1).length c106_1] (by rfl) rfl rfl (by (try simp only [mT, mC, mN]); first | done | rfl | (simp only [lD, lT]; rfl)) ?_
         with_reducible refine (hogsheadlaw0_SameTexts.calls k1 _ _ ((rd_T34 l0 x5_1).f1) _ _ ((rd_T34 l1 x5_1).f1) false _ ?side1 ?side2 ?side3 ?side4 A8.out).mono ?_
         (case side1 => exact cz (Kd.C_below HR107_1.out HB.out))
         (case side2 => exact HC107_1.out)
         (case side3 => exact cz (Kd.C_below HR108_1.out HB.out))
         (case side4 => exact HC108_1.out)
         rintro e w' ⟨rfl, ⟨nd, rfl⟩⟩; refine ⟨_, rfl, ?_⟩
         refine hK.out _ _ ⟨((HB.out.cell (wB w _ hw105_0)).trans hw105_0), ((HB.out.cell (wB w _ hw105_1)).trans hw105_1), ((HB.out.cell (wB w _ hw105_2)).trans hw105_2), ((HB.out.cell (wB w _ hw106_0)).trans hw106_0), ((HB.out.cell (wB w _ hw106_1)).trans hw106_1), ((HB.out.cell (wB w _ hw106_2)).trans hw106_2), ((HB.out.cell (wB w _ hw107_0)).trans hw107_0), ((HB.out.cell (wB w _ hw107_1)).trans hw107_1), ((HB.out.cell (wB w _ hw107_2)).trans hw107_2), ((HB.out.cell (wB w _ hw108_0)).trans hw108_0), ((HB.out.cell (wB w _ hw108_1)).trans hw108_1), ((HB.out.cell (wB w _ hw108_2)).trans hw108_2)⟩ (fun hHeld => ?_)
         clear hK K; refine norm_ (a' := ?_) ?_ ?_
         rotate_left
         ·show Act.put _ (some 39) _ = _
          simp only [Act.put, sA, sB, sC, i64_w, i32_w]
          rfl
         refine pu 23 (some 40) ?_
         refine pu 24 (some 41) ?_
         refine pu 25 (some 42) ?_
         refine pure_ (i := 26) (N := some 43) (v := undef) (a' := ?_) #[tT,tT,tT,tT,tT,tT,tT,tT,tT,tT,tT,tT,tT,tT,tT,tT,tT,tT,tT,tT,tT,tT,tT,tT,tT,tT,tT,fF,fF,fF,fF,fF,fF,fF,fF,fF,fF,fF,fF] rfl rfl (any_of HT_.out (by kernel_rfl)) (fun _ _ _ h => h) (Or.inr ⟨by rfl, rfl⟩) ?_ ?_
         rotate_left
         ·simp only [Act.put, sA, sB, sC, i64_w, i32_w]
          rfl
         refine pure_ (i := 27) (N := some 44) (v := undef) (a' := ?_) #[tT,tT,tT,tT,tT,tT,tT,tT,tT,tT,tT,tT,tT,tT,tT,tT,tT,tT,tT,tT,tT,tT,tT,tT,tT,tT,tT,tT,fF,fF,fF,fF,fF,fF,fF,fF,fF,fF,fF] rfl rfl (any_of HT_.out (by kernel_rfl)) (fun _ _ _ h => h) (Or.inr ⟨by rfl, rfl⟩) ?_ ?_
         rotate_left
         ·simp only [Act.put, sA, sB, sC, i64_w, i32_w]
          rfl
         refine pure_ (i := 28) (N := some 45) (v := undef) (a' := ?_) #[tT,tT,tT,tT,tT,tT,tT,tT,tT,tT,tT,tT,tT,tT,tT,tT,tT,tT,tT,tT,tT,tT,tT,tT,tT,tT,tT,tT,tT,fF,fF,fF,fF,fF,fF,fF,fF,fF,fF] rfl rfl (any_of HT_.out (by kernel_rfl)) (fun _ _ _ h => h) (Or.inr ⟨by rfl, rfl⟩) ?_ ?_
         rotate_left
         ·simp only [Act.put, sA, sB, sC, i64_w, i32_w]
          rfl
         refine pure_ (i := 29) (N := some 46) (v := undef) (a' := ?_) #[tT,tT,tT,tT,tT,tT,tT,tT,tT,tT,tT,tT,tT,tT,tT,tT,tT,tT,tT,tT,tT,tT,tT,tT,tT,tT,tT,tT,tT,tT,fF,fF,fF,fF,fF,fF,fF,fF,fF] rfl rfl (any_of HT_.out (by kernel_rfl)) (fun _ _ _ h => h) (Or.inr ⟨by rfl, rfl⟩) ?_ ?_
         rotate_left
         ·simp only [Act.put, sA, sB, sC, i64_w, i32_w]
          rfl
         refine pure_ (i := 30) (N := some 47) (v := undef) (a' := ?_) #[tT,tT,tT,tT,tT,tT,tT,tT,tT,tT,tT,tT,tT,tT,tT,tT,tT,tT,tT,tT,tT,tT,tT,tT,tT,tT,tT,tT,tT,tT,tT,fF,fF,fF,fF,fF,fF,fF,fF] rfl rfl (any_of HT_.out (by kernel_rfl)) (fun _ _ _ h => h) (Or.inr ⟨by rfl, rfl⟩) ?_ ?_
         rotate_left
         ·simp only [Act.put, sA, sB, sC, i64_w, i32_w]
          rfl
         refine pure_ (i := 31) (N := some 48) (v := undef) (a' := ?_) #[tT,tT,tT,tT,tT,tT,tT,tT,tT,tT,tT,tT,tT,tT,tT,tT,tT,tT,tT,tT,tT,tT,tT,tT,tT,tT,tT,tT,tT,tT,tT,tT,fF,fF,fF,fF,fF,fF,fF] rfl rfl (any_of HT_.out (by kernel_rfl)) (fun _ _ _ h => h) (Or.inr ⟨by rfl, rfl⟩) ?_ ?_
         rotate_left
         ·simp only [Act.put, sA, sB, sC, i64_w, i32_w]
          rfl
         refine pure_ (i := 32) (N := some 49) (v := undef) (a' := ?_) #[tT,tT,tT,tT,tT,tT,tT,tT,tT,tT,tT,tT,tT,tT,tT,tT,tT,tT,tT,tT,tT,tT,tT,tT,tT,tT,tT,tT,tT,tT,tT,tT,tT,fF,fF,fF,fF,fF,fF] rfl rfl (any_of HT_.out (by kernel_rfl)) (fun _ _ _ h => h) (Or.inr ⟨by rfl, rfl⟩) ?_ ?_
         rotate_left
         ·simp only [Act.put, sA, sB, sC, i64_w, i32_w]
          rfl
         refine pure_ (i := 33) (N := some 50) (v := undef) (a' := ?_) #[tT,tT,tT,tT,tT,tT,tT,tT,tT,tT,tT,tT,tT,tT,tT,tT,tT,tT,tT,tT,tT,tT,tT,tT,tT,tT,tT,tT,tT,tT,tT,tT,tT,tT,fF,fF,fF,fF,fF] rfl rfl (any_of HT_.out (by kernel_rfl)) (fun _ _ _ h => h) (Or.inr ⟨by rfl, rfl⟩) ?_ ?_
         rotate_left
         ·simp only [Act.put, sA, sB, sC, i64_w, i32_w]
          rfl
         refine pure_ (i := 34) (N := some 51) (v := undef) (a' := ?_) #[tT,tT,tT,tT,tT,tT,tT,tT,tT,tT,tT,tT,tT,tT,tT,tT,tT,tT,tT,tT,tT,tT,tT,tT,tT,tT,tT,tT,tT,tT,tT,tT,tT,tT,tT,fF,fF,fF,fF] rfl rfl (any_of HT_.out (by kernel_rfl)) (fun _ _ _ h => h) (Or.inr ⟨by rfl, rfl⟩) ?_ ?_
         rotate_left
         ·simp only [Act.put, sA, sB, sC, i64_w, i32_w]
          rfl
         refine pure_ (i := 35) (N := some 52) (v := undef) (a' := ?_) #[tT,tT,tT,tT,tT,tT,tT,tT,tT,tT,tT,tT,tT,tT,tT,tT,tT,tT,tT,tT,tT,tT,tT,tT,tT,tT,tT,tT,tT,tT,tT,tT,tT,tT,tT,tT,fF,fF,fF] rfl rfl (any_of HT_.out (by kernel_rfl)) (fun _ _ _ h => h) (Or.inr ⟨by rfl, rfl⟩) ?_ ?_
         rotate_left
         ·simp only [Act.put, sA, sB, sC, i64_w, i32_w]
          rfl
         refine pure_ (i := 36) (N := some 53) (v := undef) (a' := ?_) #[tT,tT,tT,tT,tT,tT,tT,tT,tT,tT,tT,tT,tT,tT,tT,tT,tT,tT,tT,tT,tT,tT,tT,tT,tT,tT,tT,tT,tT,tT,tT,tT,tT,tT,tT,tT,tT,fF,fF] rfl rfl (any_of HT_.out (by kernel_rfl)) (fun _ _ _ h => h) (Or.inr ⟨by rfl, rfl⟩) ?_ ?_
         rotate_left
         ·simp only [Act.put, sA, sB, sC, i64_w, i32_w]
          rfl
         refine pure_ (i := 37) (N := some 54) (v := undef) (a' := ?_) #[tT,tT,tT,tT,tT,tT,tT,tT,tT,tT,tT,tT,tT,tT,tT,tT,tT,tT,tT,tT,tT,tT,tT,tT,tT,tT,tT,tT,tT,tT,tT,tT,tT,tT,tT,tT,tT,tT,fF] rfl rfl (any_of HT_.out (by kernel_rfl)) (fun _ _ _ h => h) (Or.inr ⟨by rfl, rfl⟩) ?_ ?_
         rotate_left
         ·simp only [Act.put, sA, sB, sC, i64_w, i32_w]
          rfl
         refine pu 38 (some 55) ?_
         refine done_ (done_of HT_.out (by kernel_rfl)) ?_
         try go_wp2
         go_ret; exact ⟨ez, bz⟩
       ·rw [if_neg c7] at H
        have c7b0 : (((rd_T34 l0 x5_1).f0).toList == ((rd_T34 l1 x5_1).f0).toList) = false := beq_eq_false_iff_ne.mpr c7; have c7b1 : (((rd_T34 l0 x5_1).f0).toList != ((rd_T34 l1 x5_1).f0).toList) = true := bne_iff_ne.mpr c7; obtain rfl := Option.some.inj H; try go_wp2
        replace HB := am (bO HB.out); have p105 : 0 ≤ (x5_1 : Int) := of_decide_eq_true (by assumption); have q105 : x5_1 < (l0.length : Int) := of_decide_eq_true (by assumption); obtain ⟨ad105, A105_1, c105_1, A105_2, c105_2, e105, hx105_0, hx105_1, hx105_2, hl105_1, hi105_1, hl105_2, hi105_2⟩ := at_T34 HR0.out x5_1 p105 q105; have hw105_2 := hx105_2; have hw105_1 := hx105_1; have hw105_0 := hx105_0; cases e105; replace hx105_0 := (HB.out.cell (wB w _ hx105_0)).trans hx105_0; replace hx105_1 := (HB.out.cell (wB w _ hx105_1)).trans hx105_1; replace hx105_2 := (HB.out.cell (wB w _ hx105_2)).trans hx105_2; have HR105_1 := am hi105_1; have HC105_1 := am hl105_1; clear hi105_1 hl105_1; have HR105_2 := am hi105_2; have HC105_2 := am hl105_2; clear hi105_2 hl105_2; replace p105 := eq_true p105; replace q105 := eq_true q105; have p106 : 0 ≤ (x5_1 : Int) := of_decide_eq_true (by assumption); have q106 : x5_1 < (l1.length : Int) := of_decide_eq_true (by assumption); obtain ⟨ad106, A106_1, c106_1, A106_2, c106_2, e106, hx106_0, hx106_1, hx106_2, hl106_1, hi106_1, hl106_2, hi106_2⟩ := at_T34 HR1.out x5_1 p106 q106; have hw106_2 := hx106_2; have hw106_1 := hx106_1; have hw106_0 := hx106_0; cases e106
        replace hx106_0 := (HB.out.cell (wB w _ hx106_0)).trans hx106_0; replace hx106_1 := (HB.out.cell (wB w _ hx106_1)).trans hx106_1; replace hx106_2 := (HB.out.cell (wB w _ hx106_2)).trans hx106_2; have HR106_1 := am hi106_1; have HC106_1 := am hl106_1; clear hi106_1 hl106_1; have HR106_2 := am hi106_2; have HC106_2 := am hl106_2; clear hi106_2 hl106_2; replace p106 := eq_true p106; replace q106 := eq_true q106; refine start_ (n := 39) (S := fun w' => w'.cell? (ad105.add ((x5_1).toNat * 3)) = some (.string ((rd_T34 l0 x5_1).f0)) ∧ w'.cell? ⟨(ad105.add ((x5_1).toNat * 3)).block, (ad105.add ((x5_1).toNat * 3)).off + 1, none⟩ = some (.slice A105_1 ((rd_T34 l0 x5_1).f1).length c105_1) ∧ w'.cell? ⟨(ad105.add ((x5_1).toNat * 3)).block, (ad105.add ((x5_1).toNat * 3)).off + 2, none⟩ = some (.slice A105_2 ((rd_T34 l0 x5_1).f2).length c105_2) ∧ w'.cell? (ad106.add ((x5_1).toNat * 3)) = some (.string ((rd_T34 l1 x5_1).f0)) ∧ w'.cell? ⟨(ad106.add ((x5_1).toNat * 3)).block, (ad106.add ((x5_1).toNat * 3)).off + 1, none⟩ = some (.slice A106_1 ((rd_T34 l1 x5_1).f1).length c106_1) ∧ w'.cell? ⟨(ad106.add ((x5_1).toNat * 3)).block, (ad106.add ((x5_1).toNat * 3)).off + 2, none⟩ = some (.slice A106_2 ((rd_T34 l1 x5_1).f2).length c106_2)) (ds := []) #[fF,fF,fF,fF,fF,fF,fF,fF,fF,fF,fF,fF,fF,fF,fF,fF,fF,fF,fF,fF,fF,fF,fF,fF,fF,fF,fF,fF,fF,fF,fF,fF,fF,fF,fF,fF,fF,fF,fF] (by kernel_rfl) rfl rfl ⟨((HB.out.cell (wB w _ hw105_0)).trans hw105_0), ((HB.out.cell (wB w _ hw105_1)).trans hw105_1), ((HB.out.cell (wB w _ hw105_2)).trans hw105_2), ((HB.out.cell (wB w _ hw106_0)).trans hw106_0), ((HB.out.cell (wB w _ hw106_1)).trans hw106_1), ((HB.out.cell (wB w _ hw106_2)).trans hw106_2)⟩ (fun hHeld => ?_); refine with_tabW hogsheadlaw0_SameItems.tab6 hogsheadlaw0_SameItems.bits6 (fun HT_ HW_ => ?_)
        generalize wr.drew = w15 at HB HR105_1 HR105_2 HR106_1 HR106_2 hx105_0 hx105_1 hx105_2 hx106_0 hx106_1 hx106_2 hHeld ⊢
        refine pu 0 (some 17) ?_
        refine pu 1 (some 18) ?_
        refine pu 2 (some 19) ?_
        refine pu 3 (some 20) ?_
        refine pu 5 (some 22) ?_
        refine pu 6 (some 23) ?_
        refine pu 7 (some 24) ?_
        refine pu 8 (some 25) ?_
        refine take_ (i := 4) (N := some 21) (v := ?_) (a' := ?_) #[tT,tT,tT,tT,tT,tT,tT,tT,tT,fF,fF,fF,fF,fF,fF,fF,fF,fF,fF,fF,fF,fF,fF,fF,fF,fF,fF,fF,fF,fF,fF,fF,fF,fF,fF,fF,fF,fF,fF] rfl rfl (take_ofW HT_.out HW_.out (by kernel_rfl)) (fun _ _ _ h => h) (Or.inl ⟨by rfl, ?_⟩) hHeld ?_ ?_
        rotate_left
        ·rintro w' ⟨s0, s1, s2, s3, s4, s5⟩
         go_simp
         with_reducible rfl
        rotate_left
        ·simp only [Act.put, sA, sB, sC, i64_w, i32_w]
         rfl
        refine take_ (i := 9) (N := some 26) (v := ?_) (a' := ?_) #[tT,tT,tT,tT,tT,tT,tT,tT,tT,tT,fF,fF,fF,fF,fF,fF,fF,fF,fF,fF,fF,fF,fF,fF,fF,fF,fF,fF,fF,fF,fF,fF,fF,fF,fF,fF,fF,fF,fF] rfl rfl (take_ofW HT_.out HW_.out (by kernel_rfl)) (fun _ _ _ h => h) (Or.inl ⟨by rfl, ?_⟩) hHeld ?_ ?_
        rotate_left
        ·rintro w' ⟨s0, s1, s2, s3, s4, s5⟩
         go_simp
         with_reducible rfl
        rotate_left
        ·simp only [Act.put, sA, sB, sC, i64_w, i32_w]
         rfl
        refine pu 10 (some 27) ?_
        refine pu 11 (some 28) ?_
        refine pure_ (i := 12) (N := some 29) (v := undef) (a' := ?_) #[tT,tT,tT,tT,tT,tT,tT,tT,tT,tT,tT,tT,tT,fF,fF,fF,fF,fF,fF,fF,fF,fF,fF,fF,fF,fF,fF,fF,fF,fF,fF,fF,fF,fF,fF,fF,fF,fF,fF] rfl rfl (any_of HT_.out (by kernel_rfl)) (fun _ _ _ h => h) (Or.inr ⟨by rfl, rfl⟩) ?_ ?_
        rotate_left
        ·simp only [Act.put, sA, sB, sC, i64_w, i32_w]
         rfl
        refine pure_ (i := 13) (N := some 30) (v := undef) (a' := ?_) #[tT,tT,tT,tT,tT,tT,tT,tT,tT,tT,tT,tT,tT,tT,fF,fF,fF,fF,fF,fF,fF,fF,fF,fF,fF,fF,fF,fF,fF,fF,fF,fF,fF,fF,fF,fF,fF,fF,fF] rfl rfl (any_of HT_.out (by kernel_rfl)) (fun _ _ _ h => h) (Or.inr ⟨by rfl, rfl⟩) ?_ ?_
        rotate_left
        ·simp only [Act.put, sA, sB, sC, i64_w, i32_w]
         rfl
        refine pure_ (i := 14) (N := some 31) (v := undef) (a' := ?_) #[tT,tT,tT,tT,tT,tT,tT,tT,tT,tT,tT,tT,tT,tT,tT,fF,fF,fF,fF,fF,fF,fF,fF,fF,fF,fF,fF,fF,fF,fF,fF,fF,fF,fF,fF,fF,fF,fF,fF] rfl rfl (any_of HT_.out (by kernel_rfl)) (fun _ _ _ h => h) (Or.inr ⟨by rfl, rfl⟩) ?_ ?_
        rotate_left
        ·simp only [Act.put, sA, sB, sC, i64_w, i32_w]
         rfl
        refine pure_ (i := 15) (N := some 32) (v := undef) (a' := ?_) #[tT,tT,tT,tT,tT,tT,tT,tT,tT,tT,tT,tT,tT,tT,tT,tT,fF,fF,fF,fF,fF,fF,fF,fF,fF,fF,fF,fF,fF,fF,fF,fF,fF,fF,fF,fF,fF,fF,fF] rfl rfl (any_of HT_.out (by kernel_rfl)) (fun _ _ _ h => h) (Or.inr ⟨by rfl, rfl⟩) ?_ ?_
        rotate_left
        ·simp only [Act.put, sA, sB, sC, i64_w, i32_w]
         rfl
        refine pure_ (i := 16) (N := some 33) (v := undef) (a' := ?_) #[tT,tT,tT,tT,tT,tT,tT,tT,tT,tT,tT,tT,tT,tT,tT,tT,tT,fF,fF,fF,fF,fF,fF,fF,fF,fF,fF,fF,fF,fF,fF,fF,fF,fF,fF,fF,fF,fF,fF] rfl rfl (any_of HT_.out (by kernel_rfl)) (fun _ _ _ h => h) (Or.inr ⟨by rfl, rfl⟩) ?_ ?_
        rotate_left
        ·simp only [Act.put, sA, sB, sC, i64_w, i32_w]
         rfl
        refine pure_ (i := 17) (N := some 34) (v := undef) (a' := ?_) #[tT,tT,tT,tT,tT,tT,tT,tT,tT,tT,tT,tT,tT,tT,tT,tT,tT,tT,fF,fF,fF,fF,fF,fF,fF,fF,fF,fF,fF,fF,fF,fF,fF,fF,fF,fF,fF,fF,fF] rfl rfl (any_of HT_.out (by kernel_rfl)) (fun _ _ _ h => h) (Or.inr ⟨by rfl, rfl⟩) ?_ ?_
        rotate_left
        ·simp only [Act.put, sA, sB, sC, i64_w, i32_w]
         rfl
        refine pure_ (i := 18) (N := some 35) (v := undef) (a' := ?_) #[tT,tT,tT,tT,tT,tT,tT,tT,tT,tT,tT,tT,tT,tT,tT,tT,tT,tT,tT,fF,fF,fF,fF,fF,fF,fF,fF,fF,fF,fF,fF,fF,fF,fF,fF,fF,fF,fF,fF] rfl rfl (any_of HT_.out (by kernel_rfl)) (fun _ _ _ h => h) (Or.inr ⟨by rfl, rfl⟩) ?_ ?_
        rotate_left
        ·simp only [Act.put, sA, sB, sC, i64_w, i32_w]
         rfl
        refine pure_ (i := 19) (N := some 36) (v := undef) (a' := ?_) #[tT,tT,tT,tT,tT,tT,tT,tT,tT,tT,tT,tT,tT,tT,tT,tT,tT,tT,tT,tT,fF,fF,fF,fF,fF,fF,fF,fF,fF,fF,fF,fF,fF,fF,fF,fF,fF,fF,fF] rfl rfl (any_of HT_.out (by kernel_rfl)) (fun _ _ _ h => h) (Or.inr ⟨by rfl, rfl⟩) ?_ ?_
        rotate_left
        ·simp only [Act.put, sA, sB, sC, i64_w, i32_w]
         rfl
        refine pure_ (i := 20) (N := some 37) (v := undef) (a' := ?_) #[tT,tT,tT,tT,tT,tT,tT,tT,tT,tT,tT,tT,tT,tT,tT,tT,tT,tT,tT,tT,tT,fF,fF,fF,fF,fF,fF,fF,fF,fF,fF,fF,fF,fF,fF,fF,fF,fF,fF] rfl rfl (any_of HT_.out (by kernel_rfl)) (fun _ _ _ h => h) (Or.inr ⟨by rfl, rfl⟩) ?_ ?_
        rotate_left
        ·simp only [Act.put, sA, sB, sC, i64_w, i32_w]
         rfl
        refine pure_ (i := 21) (N := some 38) (v := undef) (a' := ?_) #[tT,tT,tT,tT,tT,tT,tT,tT,tT,tT,tT,tT,tT,tT,tT,tT,tT,tT,tT,tT,tT,tT,fF,fF,fF,fF,fF,fF,fF,fF,fF,fF,fF,fF,fF,fF,fF,fF,fF] rfl rfl (any_of HT_.out (by kernel_rfl)) (fun _ _ _ h => h) (Or.inr ⟨by rfl, rfl⟩) ?_ ?_
        rotate_left
        ·simp only [Act.put, sA, sB, sC, i64_w, i32_w]
         rfl
        refine pure_ (i := 22) (N := some 39) (v := undef) (a' := ?_) #[tT,tT,tT,tT,tT,tT,tT,tT,tT,tT,tT,tT,tT,tT,tT,tT,tT,tT,tT,tT,tT,tT,tT,fF,fF,fF,fF,fF,fF,fF,fF,fF,fF,fF,fF,fF,fF,fF,fF] rfl rfl (any_of HT_.out (by kernel_rfl)) (fun _ _ _ h => h) (Or.inr ⟨by rfl, rfl⟩) ?_ ?_
        rotate_left
        ·simp only [Act.put, sA, sB, sC, i64_w, i32_w]
         rfl
        refine pure_ (i := 23) (N := some 40) (v := undef) (a' := ?_) #[tT,tT,tT,tT,tT,tT,tT,tT,tT,tT,tT,tT,tT,tT,tT,tT,tT,tT,tT,tT,tT,tT,tT,tT,fF,fF,fF,fF,fF,fF,fF,fF,fF,fF,fF,fF,fF,fF,fF] rfl rfl (any_of HT_.out (by kernel_rfl)) (fun _ _ _ h => h) (Or.inr ⟨by rfl, rfl⟩) ?_ ?_
        rotate_left
        ·simp only [Act.put, sA, sB, sC, i64_w, i32_w]
         rfl
        refine pu 24 (some 41) ?_
        refine pu 25 (some 42) ?_
        refine pure_ (i := 26) (N := some 43) (v := undef) (a' := ?_) #[tT,tT,tT,tT,tT,tT,tT,tT,tT,tT,tT,tT,tT,tT,tT,tT,tT,tT,tT,tT,tT,tT,tT,tT,tT,tT,tT,fF,fF,fF,fF,fF,fF,fF,fF,fF,fF,fF,fF] rfl rfl (any_of HT_.out (by kernel_rfl)) (fun _ _ _ h => h) (Or.inr ⟨by rfl, rfl⟩) ?_ ?_
        rotate_left
        ·simp only [Act.put, sA, sB, sC, i64_w, i32_w]
         rfl
        refine pure_ (i := 27) (N := some 44) (v := undef) (a' := ?_) #[tT,tT,tT,tT,tT,tT,tT,tT,tT,tT,tT,tT,tT,tT,tT,tT,tT,tT,tT,tT,tT,tT,tT,tT,tT,tT,tT,tT,fF,fF,fF,fF,fF,fF,fF,fF,fF,fF,fF] rfl rfl (any_of HT_.out (by kernel_rfl)) (fun _ _ _ h => h) (Or.inr ⟨by rfl, rfl⟩) ?_ ?_
        rotate_left
        ·simp only [Act.put, sA, sB, sC, i64_w, i32_w]
         rfl
        refine pure_ (i := 28) (N := some 45) (v := undef) (a' := ?_) #[tT,tT,tT,tT,tT,tT,tT,tT,tT,tT,tT,tT,tT,tT,tT,tT,tT,tT,tT,tT,tT,tT,tT,tT,tT,tT,tT,tT,tT,fF,fF,fF,fF,fF,fF,fF,fF,fF,fF] rfl rfl (any_of HT_.out (by kernel_rfl)) (fun _ _ _ h => h) (Or.inr ⟨by rfl, rfl⟩) ?_ ?_
        rotate_left
        ·simp only [Act.put, sA, sB, sC, i64_w, i32_w]
         rfl
        refine pure_ (i := 29) (N := some 46) (v := undef) (a' := ?_) #[tT,tT,tT,tT,tT,tT,tT,tT,tT,tT,tT,tT,tT,tT,tT,tT,tT,tT,tT,tT,tT,tT,tT,tT,tT,tT,tT,tT,tT,tT,fF,fF,fF,fF,fF,fF,fF,fF,fF] rfl rfl (any_of HT_.out (by kernel_rfl)) (fun _ _ _ h => h) (Or.inr ⟨by rfl, rfl⟩) ?_ ?_
        rotate_left
        ·simp only [Act.put, sA, sB, sC, i64_w, i32_w]
         rfl
        refine pure_ (i := 30) (N := some 47) (v := undef) (a' := ?_) #[tT,tT,tT,tT,tT,tT,tT,tT,tT,tT,tT,tT,tT,tT,tT,tT,tT,tT,tT,tT,tT,tT,tT,tT,tT,tT,tT,tT,tT,tT,tT,fF,fF,fF,fF,fF,fF,fF,fF] rfl rfl (any_of HT_.out (by kernel_rfl)) (fun _ _ _ h => h) (Or.inr ⟨by rfl, rfl⟩) ?_ ?_
        rotate_left
        ·simp only [Act.put, sA, sB, sC, i64_w, i32_w]
         rfl
        refine pure_ (i := 31) (N := some 48) (v := undef) (a' := ?_) #[tT,tT,tT,tT,tT,tT,tT,tT,tT,tT,tT,tT,tT,tT,tT,tT,tT,tT,tT,tT,tT,tT,tT,tT,tT,tT,tT,tT,tT,tT,tT,tT,fF,fF,fF,fF,fF,fF,fF] rfl rfl (any_of HT_.out (by kernel_rfl)) (fun _ _ _ h => h) (Or.inr ⟨by rfl, rfl⟩) ?_ ?_
        rotate_left
        ·simp only [Act.put, sA, sB, sC, i64_w, i32_w]
         rfl
        refine pure_ (i := 32) (N := some 49) (v := undef) (a' := ?_) #[tT,tT,tT,tT,tT,tT,tT,tT,tT,tT,tT,tT,tT,tT,tT,tT,tT,tT,tT,tT,tT,tT,tT,tT,tT,tT,tT,tT,tT,tT,tT,tT,tT,fF,fF,fF,fF,fF,fF] rfl rfl (any_of HT_.out (by kernel_rfl)) (fun _ _ _ h => h) (Or.inr ⟨by rfl, rfl⟩) ?_ ?_
        rotate_left
        ·simp only [Act.put, sA, sB, sC, i64_w, i32_w]
         rfl
        refine pure_ (i := 33) (N := some 50) (v := undef) (a' := ?_) #[tT,tT,tT,tT,tT,tT,tT,tT,tT,tT,tT,tT,tT,tT,tT,tT,tT,tT,tT,tT,tT,tT,tT,tT,tT,tT,tT,tT,tT,tT,tT,tT,tT,tT,fF,fF,fF,fF,fF] rfl rfl (any_of HT_.out (by kernel_rfl)) (fun _ _ _ h => h) (Or.inr ⟨by rfl, rfl⟩) ?_ ?_
        rotate_left
        ·simp only [Act.put, sA, sB, sC, i64_w, i32_w]
         rfl
        refine pure_ (i := 34) (N := some 51) (v := undef) (a' := ?_) #[tT,tT,tT,tT,tT,tT,tT,tT,tT,tT,tT,tT,tT,tT,tT,tT,tT,tT,tT,tT,tT,tT,tT,tT,tT,tT,tT,tT,tT,tT,tT,tT,tT,tT,tT,fF,fF,fF,fF] rfl rfl (any_of HT_.out (by kernel_rfl)) (fun _ _ _ h => h) (Or.inr ⟨by rfl, rfl⟩) ?_ ?_
        rotate_left
        ·simp only [Act.put, sA, sB, sC, i64_w, i32_w]
         rfl
        refine pure_ (i := 35) (N := some 52) (v := undef) (a' := ?_) #[tT,tT,tT,tT,tT,tT,tT,tT,tT,tT,tT,tT,tT,tT,tT,tT,tT,tT,tT,tT,tT,tT,tT,tT,tT,tT,tT,tT,tT,tT,tT,tT,tT,tT,tT,tT,fF,fF,fF] rfl rfl (any_of HT_.out (by kernel_rfl)) (fun _ _ _ h => h) (Or.inr ⟨by rfl, rfl⟩) ?_ ?_
        rotate_left
        ·simp only [Act.put, sA, sB, sC, i64_w, i32_w]
         rfl
        refine pure_ (i := 36) (N := some 53) (v := undef) (a' := ?_) #[tT,tT,tT,tT,tT,tT,tT,tT,tT,tT,tT,tT,tT,tT,tT,tT,tT,tT,tT,tT,tT,tT,tT,tT,tT,tT,tT,tT,tT,tT,tT,tT,tT,tT,tT,tT,tT,fF,fF] rfl rfl (any_of HT_.out (by kernel_rfl)) (fun _ _ _ h => h) (Or.inr ⟨by rfl, rfl⟩) ?_ ?_
        rotate_left
        ·simp only [Act.put, sA, sB, sC, i64_w, i32_w]
         rfl
        refine pure_ (i := 37) (N := some 54) (v := undef) (a' := ?_) #[tT,tT,tT,tT,tT,tT,tT,tT,tT,tT,tT,tT,tT,tT,tT,tT,tT,tT,tT,tT,tT,tT,tT,tT,tT,tT,tT,tT,tT,tT,tT,tT,tT,tT,tT,tT,tT,tT,fF] rfl rfl (any_of HT_.out (by kernel_rfl)) (fun _ _ _ h => h) (Or.inr ⟨by rfl, rfl⟩) ?_ ?_
        rotate_left
        ·simp only [Act.put, sA, sB, sC, i64_w, i32_w]
         rfl
        refine pu 38 (some 55) ?_
        refine done_ (done_of HT_.out (by kernel_rfl)) ?_
        try go_wp2
        go_ret; exact ⟨ez, bz⟩
      ·rw [if_neg c6] at H
       exact absurd H (by simp)
     ·rw [if_neg c5] at H
      exact absurd H (by simp)
    ·rw [if_neg c4] at H
     have c4b0 : decide (x5_1 < (l0.length : Int)) = false := decide_eq_false c4; clear c4; obtain rfl := Option.some.inj H; go_wp2
     go_ret; exact ⟨ez, bz⟩
 ·rw [if_neg c3] at H
  have c3b0 : ((l0.length : Int) == (l1.length : Int)) = false := beq_eq_false_iff_ne.mpr c3; have c3b1 : ((l0.length : Int) != (l1.length : Int)) = true := bne_iff_ne.mpr c3; have c3b2 : (l0.length == l1.length) = false := by first | simpa using c3 | (simp at c3 ⊢; omega)
  obtain rfl := Option.some.inj H; go_enter Tryd.func13, Tryd.ntmps13; go_wp2
  go_ret; exact ⟨ez, bz⟩

end Go.Proofs.YtnbcmmgkdpekjaaDoor.P
