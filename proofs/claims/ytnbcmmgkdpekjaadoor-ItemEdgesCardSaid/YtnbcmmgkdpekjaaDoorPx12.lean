/- Laid by a program of this session (wip/pr), after the printer of the kit: the functions that a statement reaches as plain Lean functions, and that the calls of the machine come to them. No condition. -/
import Derived.Test.YtnbcmmgkdpekjaaDoorPx0
import Derived.Test.YtnbcmmgkdpekjaaDoorPx3
import Derived.Test.YtnbcmmgkdpekjaaDoorPx8
import Derived.Test.YtnbcmmgkdpekjaaDoorPx9
import Derived.Test.YtnbcmmgkdpekjaaDoorPx10
import Derived.Test.YtnbcmmgkdpekjaaDoorPx11
namespace Go.Proofs.YtnbcmmgkdpekjaaDoor.P
open Go.RowKit Go.Proofs.YtnbcmmgkdpekjaaDoorX Go.Proofs.YtnbcmmgkdpekjaaDoorW.PrintWords Go.Proofs.YtnbcmmgkdpekjaaDoorW.PrintLast Go.Proofs.YtnbcmmgkdpekjaaDoorW.PrintMore
attribute [local go_sem] max2_int min2_int max_two min_two max_three min_three max_four min_four   -- for this text's walks alone
set_option linter.unusedVariables false
set_option linter.unusedSimpArgs false

/-! ### hogsheadlaw7_ItemEdges: function 6 -/
mutual
def hogsheadlaw7_ItemEdges.j0 : Nat → Int → Bool → ByteArray → List ByteArray → List (S45) → Option (Bool)
  | 0, _, _, _, _, _ => none
  | k + 1, x1, x14, x228000, x228001, x228002 => if x14 = true then ((hogsheadlaw7_awake.f k).bind fun t230 => (some t230)) else ((item_Own.f x228000 x228001 x228002).bind fun bt231 => ((hogsheadlaw0_Low.f x1 6).bind fun t239 => (if t239 = 0 then (if bt231.1.size + 1 ≤ 9223372036854775807 then (hogsheadlaw7_ItemEdges.j2 k x228000 x228001 x228002 (bt231.1 ++ (⟨#[47]⟩ : ByteArray)) bt231.2.1 bt231.2.2) else (none)) else (if t239 = 1 then (hogsheadlaw7_ItemEdges.j2 k x228000 x228001 x228002 bt231.1 (([bt231.1, bt231.1] : List ByteArray)) bt231.2.2) else (if t239 = 2 then (hogsheadlaw7_ItemEdges.j2 k x228000 x228001 x228002 bt231.1 (([(⟨#[49, 49, 50, 51, 52, 53, 54, 97, 45, 120]⟩ : ByteArray), (⟨#[48, 49, 50, 51, 52, 53, 54, 97, 45, 120]⟩ : ByteArray)] : List ByteArray)) bt231.2.2) else (if t239 = 3 then (hogsheadlaw7_ItemEdges.j2 k x228000 x228001 x228002 bt231.1 bt231.2.1 ([] : List (S45))) else (if t239 = 4 then (if bt231.2.2.length < 3518437208883 then (hogsheadlaw7_ItemEdges.j2 k x228000 x228001 x228002 bt231.1 bt231.2.1 (bt231.2.2 ++ [(⟨(⟨#[]⟩ : ByteArray), 2, (⟨#[]⟩ : ByteArray)⟩ : S45)])) else (none)) else (hogsheadlaw7_ItemEdges.l0 k 0 x228000 x228001 x228002 bt231.1 bt231.2.1 (([(⟨(⟨#[]⟩ : ByteArray), 1, (⟨#[]⟩ : ByteArray)⟩ : S45)] : List (S45)))))))))))
def hogsheadlaw7_ItemEdges.j2 : Nat → ByteArray → List ByteArray → List (S45) → ByteArray → List ByteArray → List (S45) → Option (Bool)
  | 0, _, _, _, _, _, _ => none
  | k + 1, x228000, x228001, x228002, x239000, x239001, x239002 => (item_May.f k x239000 x239001 x239002).bind fun t258 => (if t258 = true then (some false) else ((item_Same.f k x228000 x228001 x228002 x239000 x239001 x239002).bind fun t259 => (if t259 = true then (some false) else ((hogsheadlaw7_awake.f k).bind fun t260 => (some t260)))))
def hogsheadlaw7_ItemEdges.l0 : Nat → Int → ByteArray → List ByteArray → List (S45) → ByteArray → List ByteArray → List (S45) → Option (Bool)
  | 0, _, _, _, _, _, _, _ => none
  | k + 1, x6, x228000, x228001, x228002, x239000, x239001, x239002 => if x6 < 24 then (if x239002.length < 3518437208883 then (hogsheadlaw7_ItemEdges.l0 k (wrap64 (x6 + 1)) x228000 x228001 x228002 x239000 x239001 (x239002 ++ [(⟨strOfNums (([(wrap64 (97 + x6)) % 256] : List Int)), 2, (⟨#[]⟩ : ByteArray)⟩ : S45)])) else (none)) else (hogsheadlaw7_ItemEdges.j2 k x228000 x228001 x228002 x239000 x239001 x239002)
end
def hogsheadlaw7_ItemEdges.f (k : Nat) (a0_0 : ByteArray) (l0_1 : List ByteArray) (l0_2 : List (S45)) (a1 : Int) : Option (Bool) := (item_LitGreat1.f k a0_0 l0_1 l0_2).bind fun t228 => (if t228 = true then (hogsheadlaw7_ItemEdges.j0 k a1 true a0_0 l0_1 l0_2) else ((item_May.f k a0_0 l0_1 l0_2).bind fun t229 => (hogsheadlaw7_ItemEdges.j0 k a1 (!t229) a0_0 l0_1 l0_2)))
theorem hogsheadlaw7_ItemEdges.mono_l : ∀ k, (∀ y0 y1 y2 y3 y4, LeO (hogsheadlaw7_ItemEdges.j0 k y0 y1 y2 y3 y4) (hogsheadlaw7_ItemEdges.j0 (k + 1) y0 y1 y2 y3 y4)) ∧ (∀ y0 y1 y2 y3 y4 y5, LeO (hogsheadlaw7_ItemEdges.j2 k y0 y1 y2 y3 y4 y5) (hogsheadlaw7_ItemEdges.j2 (k + 1) y0 y1 y2 y3 y4 y5)) ∧ (∀ y0 y1 y2 y3 y4 y5 y6, LeO (hogsheadlaw7_ItemEdges.l0 k y0 y1 y2 y3 y4 y5 y6) (hogsheadlaw7_ItemEdges.l0 (k + 1) y0 y1 y2 y3 y4 y5 y6))
  | 0 => ⟨fun _ _ _ _ _ r h => by simp [hogsheadlaw7_ItemEdges.j0] at h, fun _ _ _ _ _ _ r h => by simp [hogsheadlaw7_ItemEdges.j2] at h, fun _ _ _ _ _ _ _ r h => by simp [hogsheadlaw7_ItemEdges.l0] at h⟩
  | k + 1 => by
    obtain ⟨ih0, ih1, ih2⟩ := hogsheadlaw7_ItemEdges.mono_l k
    refine ⟨?_, ?_, ?_⟩
    · intro y0 y1 y2 y3 y4
      unfold hogsheadlaw7_ItemEdges.j0
      repeat' first
      | (with_reducible exact ih0 _ _ _ _ _)
      | (with_reducible exact ih1 _ _ _ _ _ _)
      | (with_reducible exact ih2 _ _ _ _ _ _ _)
      | (with_reducible exact item_LitGreat1.mono _ _ _ _)
      | (with_reducible exact hogsheadlaw7_awake.mono _)
      | (with_reducible exact item_May.mono _ _ _ _)
      | (with_reducible exact item_Same.mono _ _ _ _ _ _ _)
      | (with_reducible exact LeO.refl _)
      | (with_reducible exact LeO.none _)
      | (with_reducible refine LeO.ite ?_ ?_)
      | (with_reducible refine LeO.bind ?_ (fun _ => ?_))
      | exact ih0 _ _ _ _ _
      | exact ih1 _ _ _ _ _ _
      | exact ih2 _ _ _ _ _ _ _
      | exact item_LitGreat1.mono _ _ _ _
      | exact hogsheadlaw7_awake.mono _
      | exact item_May.mono _ _ _ _
      | exact item_Same.mono _ _ _ _ _ _ _
      | exact LeO.none _
      | refine LeO.ite ?_ ?_
      | refine LeO.bind ?_ (fun _ => ?_)
    · intro y0 y1 y2 y3 y4 y5
      unfold hogsheadlaw7_ItemEdges.j2
      repeat' first
      | (with_reducible exact ih0 _ _ _ _ _)
      | (with_reducible exact ih1 _ _ _ _ _ _)
      | (with_reducible exact ih2 _ _ _ _ _ _ _)
      | (with_reducible exact item_LitGreat1.mono _ _ _ _)
      | (with_reducible exact hogsheadlaw7_awake.mono _)
      | (with_reducible exact item_May.mono _ _ _ _)
      | (with_reducible exact item_Same.mono _ _ _ _ _ _ _)
      | (with_reducible exact LeO.refl _)
      | (with_reducible exact LeO.none _)
      | (with_reducible refine LeO.ite ?_ ?_)
      | (with_reducible refine LeO.bind ?_ (fun _ => ?_))
      | exact ih0 _ _ _ _ _
      | exact ih1 _ _ _ _ _ _
      | exact ih2 _ _ _ _ _ _ _
      | exact item_LitGreat1.mono _ _ _ _
      | exact hogsheadlaw7_awake.mono _
      | exact item_May.mono _ _ _ _
      | exact item_Same.mono _ _ _ _ _ _ _
      | exact LeO.none _
      | refine LeO.ite ?_ ?_
      | refine LeO.bind ?_ (fun _ => ?_)
    · intro y0 y1 y2 y3 y4 y5 y6
      unfold hogsheadlaw7_ItemEdges.l0
      repeat' first
      | (with_reducible exact ih0 _ _ _ _ _)
      | (with_reducible exact ih1 _ _ _ _ _ _)
      | (with_reducible exact ih2 _ _ _ _ _ _ _)
      | (with_reducible exact item_LitGreat1.mono _ _ _ _)
      | (with_reducible exact hogsheadlaw7_awake.mono _)
      | (with_reducible exact item_May.mono _ _ _ _)
      | (with_reducible exact item_Same.mono _ _ _ _ _ _ _)
      | (with_reducible exact LeO.refl _)
      | (with_reducible exact LeO.none _)
      | (with_reducible refine LeO.ite ?_ ?_)
      | (with_reducible refine LeO.bind ?_ (fun _ => ?_))
      | exact ih0 _ _ _ _ _
      | exact ih1 _ _ _ _ _ _
      | exact ih2 _ _ _ _ _ _ _
      | exact item_LitGreat1.mono _ _ _ _
      | exact hogsheadlaw7_awake.mono _
      | exact item_May.mono _ _ _ _
      | exact item_Same.mono _ _ _ _ _ _ _
      | exact LeO.none _
      | refine LeO.ite ?_ ?_
      | refine LeO.bind ?_ (fun _ => ?_)
theorem hogsheadlaw7_ItemEdges.mono : ∀ a0 a1 a2 a3 k, LeO (hogsheadlaw7_ItemEdges.f k a0 a1 a2 a3) (hogsheadlaw7_ItemEdges.f (k + 1) a0 a1 a2 a3) := by
  intro a0 a1 a2 a3 k
  obtain ⟨ih0, ih1, ih2⟩ := hogsheadlaw7_ItemEdges.mono_l k
  unfold hogsheadlaw7_ItemEdges.f
  repeat' first
      | (with_reducible exact ih0 _ _ _ _ _)
      | (with_reducible exact ih1 _ _ _ _ _ _)
      | (with_reducible exact ih2 _ _ _ _ _ _ _)
      | (with_reducible exact item_LitGreat1.mono _ _ _ _)
      | (with_reducible exact hogsheadlaw7_awake.mono _)
      | (with_reducible exact item_May.mono _ _ _ _)
      | (with_reducible exact item_Same.mono _ _ _ _ _ _ _)
      | (with_reducible exact LeO.refl _)
      | (with_reducible exact LeO.none _)
      | (with_reducible refine LeO.ite ?_ ?_)
      | (with_reducible refine LeO.bind ?_ (fun _ => ?_))
      | exact ih0 _ _ _ _ _
      | exact ih1 _ _ _ _ _ _
      | exact ih2 _ _ _ _ _ _ _
      | exact item_LitGreat1.mono _ _ _ _
      | exact hogsheadlaw7_awake.mono _
      | exact item_May.mono _ _ _ _
      | exact item_Same.mono _ _ _ _ _ _ _
      | exact LeO.none _
      | refine LeO.ite ?_ ?_
      | refine LeO.bind ?_ (fun _ => ?_)
set_option maxHeartbeats 8000000 in
set_option maxRecDepth 100000 in
theorem hogsheadlaw7_ItemEdges.calls (k : Nat) (a0_0 : ByteArray) (A0_1 : Option Addr) (c0_1 : Nat) (l0_1 : List ByteArray) (A0_2 : Option Addr) (c0_2 : Nat) (l0_2 : List (S45)) (a1 : Int) (r : Bool) (w : World) (hr0_1 : Kd.C Kd.string w A0_1 l0_1.length l0_1) (hc0_1 : l0_1.length ≤ c0_1) (hr0_2 : Kd.C k45 w A0_2 l0_2.length l0_2) (hc0_2 : l0_2.length ≤ c0_2) (h : hogsheadlaw7_ItemEdges.f k a0_0 l0_1 l0_2 a1 = some true) :
    Calls Tryd.prog 6 #[.agg #[.string a0_0, .slice A0_1 l0_1.length c0_1, .slice A0_2 l0_2.length c0_2], .int .i64 a1] w fun e w' => e = .returned (.bool true) ∧ Below w.heap.size w w' := by
  have hu34 := Tryd.underlying34
  have hu45 := Tryd.underlying45
  have HR0_1 := Aside0.mk hr0_1
  have HC0_1 := Aside0.mk hc0_1
  clear hr0_1 hc0_1
  have HR0_2 := Aside0.mk hr0_2
  have HC0_2 := Aside0.mk hc0_2
  clear hr0_2 hc0_2
  have HB := Aside0.mk (Below.refl w.heap.size w)
  have H : ((item_LitGreat1.f k a0_0 l0_1 l0_2).bind fun t228 => (if t228 = true then (hogsheadlaw7_ItemEdges.j0 k a1 true a0_0 l0_1 l0_2) else ((item_May.f k a0_0 l0_1 l0_2).bind fun t229 => (hogsheadlaw7_ItemEdges.j0 k a1 (!t229) a0_0 l0_1 l0_2)))) = some true := h
  clear h
  have HC3 := Aside0.mk H
  clear H
  go_enter Tryd.func6, Tryd.ntmps6
  go_upto_region 1 with (first | ((with_reducible refine gate_dst (N := 2) rfl ?_); refine box_event ?hg (N := 2) ?hd (cs := #[.string a0_0, .slice A0_1 l0_1.length c0_1, .slice A0_2 l0_2.length c0_2]) (t := 34) ?hr ?_; (case hd => rfl); (case hg => rfl); (case hr => first | (go_simp; done) | (go_simp; rfl)); intro gb227 hg w4 hbox hb; have n0_ := Aside0.mk (below_step (by repeat (first | (with_reducible first | exact HB.out | apply below_alloc | apply pw_below_drewN | apply below_drew1) | exact HB.out)) hb); have n1_ := Aside0.mk (hbox); have n2_ := Aside0.mk ((by rw [hg]; exact (below_size (by repeat (first | (with_reducible first | exact HB.out | apply below_alloc | apply pw_below_drewN | apply below_drew1) | exact HB.out))) : w.heap.size ≤ gb227)); have n3_ := Aside0.mk ((by rw [hg]; exact (below_size (by repeat (first | (with_reducible first | exact HB.out | apply below_alloc | apply pw_below_drewN | apply below_drew1) | exact HB.out))) : w.heap.size ≤ gb227)); clear HB; have HB := n0_; have BK227 := n1_; have GW227 := n2_; have GE227 := n3_; clear n0_ n1_ n2_ n3_; clear hb hbox hg))
  (try simp only [Act.put, List.setIfInBounds_toArray, List.set_cons_zero, List.set_cons_succ])
  go_cut [14] (fun v14 wc => ∃ (kq : Nat) (x14_2 : Bool), v14 = .bool x14_2 ∧ Aside0 (hogsheadlaw7_ItemEdges.j0 kq a1 x14_2 a0_0 l0_1 l0_2 = some true) ∧ Aside0 (kq ≤ k) ∧ Aside0 (wc.heap[gb227]? = some (.cells #[.string a0_0, (.slice A0_1 l0_1.length c0_1), (.slice A0_2 l0_2.length c0_2)] 34 (0, 0))) ∧ Aside0 (Below w.heap.size w wc))
  case first =>
    have H := HC3.out
    clear HC3
    replace H := Option.bind_eq_some_iff.mp H
    obtain ⟨t228, A50, H⟩ := H
    replace H : (if t228 = true then (hogsheadlaw7_ItemEdges.j0 k a1 true a0_0 l0_1 l0_2) else ((item_May.f k a0_0 l0_1 l0_2).bind fun t229 => (hogsheadlaw7_ItemEdges.j0 k a1 (!t229) a0_0 l0_1 l0_2))) = some true := H
    have A5 := Aside0.mk A50
    clear A50
    by_cases c6 : t228 = true
    · subst c6
      have H1 : (hogsheadlaw7_ItemEdges.j0 k a1 true a0_0 l0_1 l0_2) = some true := by rw [if_pos rfl] at H; exact H
      clear H
      have H := H1
      clear H1
      have H' := Aside0.mk H
      clear H
      have hcz7_0 : w4.cell? ⟨gb227, 0, none⟩ = some (.string a0_0) := (blk_cell BK227.out 0).trans rfl
      have hcz7_1 : w4.cell? ⟨gb227, 1, none⟩ = some (.slice A0_1 l0_1.length c0_1) := (blk_cell BK227.out 1).trans rfl
      have hcz7_2 : w4.cell? ⟨gb227, 2, none⟩ = some (.slice A0_2 l0_2.length c0_2) := (blk_cell BK227.out 2).trans rfl
      have hfz7_0 := blk_frozen BK227.out 0
      have hfz7_1 := blk_frozen BK227.out 1
      have hfz7_2 := blk_frozen BK227.out 2
      go_wp2_with (first | ((with_reducible refine gate_callee (f := 11) rfl ?_); refine goesL_ (some 9) rfl rfl Tryd.func11 (by kernel_rfl) rfl #[.slice (some ⟨_, 0, none⟩) 1 1] rfl (by (try simp only [List.map_toArray, List.map_cons, List.map_nil]); first | done | rfl | (simp only [List.length_drop, List.length_take]; rfl)) ?_; (with_reducible refine (item_LitGreat1.calls k a0_0 _ _ l0_1 _ _ l0_2 true _ ?side1 ?side2 ?side3 ?side4 A5.out).mono ?_); (case side1 => repeat (first | exact (Kd.C_below HR0_1.out HB.out) | (with_reducible refine Kd.C_alloc ?_ _) | (with_reducible refine Kd.C_drewN ?_ _) | (with_reducible refine Kd.C_drew ?_))); (case side2 => exact HC0_1.out); (case side3 => repeat (first | exact (Kd.C_below HR0_2.out HB.out) | (with_reducible refine Kd.C_alloc ?_ _) | (with_reducible refine Kd.C_drewN ?_ _) | (with_reducible refine Kd.C_drew ?_))); (case side4 => exact HC0_2.out); rintro e w8 ⟨rfl, hb⟩; refine ⟨_, rfl, ?_⟩; have n0_ := Aside0.mk (blk_below (g := gb227) (o := .cells #[.string a0_0, .slice A0_1 l0_1.length c0_1, .slice A0_2 l0_2.length c0_2] 34 (0, 0)) (by (with_reducible repeat (first | refine blk_drewN ?_ _ | refine blk_drew ?_ | refine blk_alloc ?_ _)); exact BK227.out) hb); have n1_ := Aside0.mk (below_step (by repeat (first | (with_reducible first | exact HB.out | apply below_alloc | apply pw_below_drewN | apply below_drew1 | refine below_set ?_ GE227.out) | exact HB.out)) hb); clear BK227; clear HB; have BK227 := n0_; have HB := n1_; clear n0_ n1_; (try clear hb); (try clear hb2); (try clear hk); (try clear hi)))
      go_meet
      case rel => exact ⟨_, (true), (by first | rfl | (simp; done) | (simp [*]; done)), H', ⟨by first | omega | exact Nat.le_refl _⟩, ⟨by (with_reducible repeat (first | refine blk_drewN ?_ _ | refine blk_drew ?_ | refine blk_alloc ?_ _)); exact BK227.out⟩, ⟨by repeat (first | (with_reducible first | exact HB.out | apply below_alloc | apply pw_below_drewN | apply below_drew1 | refine below_set ?_ GE227.out) | exact HB.out)⟩⟩
    · replace c6 := Bool.eq_false_iff.mpr c6
      subst c6
      have H1 : ((item_May.f k a0_0 l0_1 l0_2).bind fun t229 => (hogsheadlaw7_ItemEdges.j0 k a1 (!t229) a0_0 l0_1 l0_2)) = some true := by rw [if_neg (show ¬ (false = true) by decide)] at H; exact H
      clear H
      have H := H1
      clear H1
      replace H := Option.bind_eq_some_iff.mp H
      obtain ⟨t229, A90, H⟩ := H
      replace H : (hogsheadlaw7_ItemEdges.j0 k a1 (!t229) a0_0 l0_1 l0_2) = some true := H
      have A9 := Aside0.mk A90
      clear A90
      have H' := Aside0.mk H
      clear H
      have hcz10_0 : w4.cell? ⟨gb227, 0, none⟩ = some (.string a0_0) := (blk_cell BK227.out 0).trans rfl
      have hcz10_1 : w4.cell? ⟨gb227, 1, none⟩ = some (.slice A0_1 l0_1.length c0_1) := (blk_cell BK227.out 1).trans rfl
      have hcz10_2 : w4.cell? ⟨gb227, 2, none⟩ = some (.slice A0_2 l0_2.length c0_2) := (blk_cell BK227.out 2).trans rfl
      have hfz10_0 := blk_frozen BK227.out 0
      have hfz10_1 := blk_frozen BK227.out 1
      have hfz10_2 := blk_frozen BK227.out 2
      go_wp2_with (first | ((with_reducible refine gate_callee (f := 11) rfl ?_); refine goesL_ (some 9) rfl rfl Tryd.func11 (by kernel_rfl) rfl #[.slice (some ⟨_, 0, none⟩) 1 1] rfl (by (try simp only [List.map_toArray, List.map_cons, List.map_nil]); first | done | rfl | (simp only [List.length_drop, List.length_take]; rfl)) ?_; (with_reducible refine (item_LitGreat1.calls k a0_0 _ _ l0_1 _ _ l0_2 false _ ?side1 ?side2 ?side3 ?side4 A5.out).mono ?_); (case side1 => repeat (first | exact (Kd.C_below HR0_1.out HB.out) | (with_reducible refine Kd.C_alloc ?_ _) | (with_reducible refine Kd.C_drewN ?_ _) | (with_reducible refine Kd.C_drew ?_))); (case side2 => exact HC0_1.out); (case side3 => repeat (first | exact (Kd.C_below HR0_2.out HB.out) | (with_reducible refine Kd.C_alloc ?_ _) | (with_reducible refine Kd.C_drewN ?_ _) | (with_reducible refine Kd.C_drew ?_))); (case side4 => exact HC0_2.out); rintro e w11 ⟨rfl, hb⟩; refine ⟨_, rfl, ?_⟩; have n0_ := Aside0.mk (blk_below (g := gb227) (o := .cells #[.string a0_0, .slice A0_1 l0_1.length c0_1, .slice A0_2 l0_2.length c0_2] 34 (0, 0)) (by (with_reducible repeat (first | refine blk_drewN ?_ _ | refine blk_drew ?_ | refine blk_alloc ?_ _)); exact BK227.out) hb); have n1_ := Aside0.mk (below_step (by repeat (first | (with_reducible first | exact HB.out | apply below_alloc | apply pw_below_drewN | apply below_drew1 | refine below_set ?_ GE227.out) | exact HB.out)) hb); clear BK227; clear HB; have BK227 := n0_; have HB := n1_; clear n0_ n1_; (try clear hb); (try clear hb2); (try clear hk); (try clear hi); have hcz12_0 : w11.cell? ⟨gb227, 0, none⟩ = some (.string a0_0) := (blk_cell BK227.out 0).trans rfl; have hcz12_1 : w11.cell? ⟨gb227, 1, none⟩ = some (.slice A0_1 l0_1.length c0_1) := (blk_cell BK227.out 1).trans rfl; have hcz12_2 : w11.cell? ⟨gb227, 2, none⟩ = some (.slice A0_2 l0_2.length c0_2) := (blk_cell BK227.out 2).trans rfl; have hfz12_0 := blk_frozen BK227.out 0; have hfz12_1 := blk_frozen BK227.out 1; have hfz12_2 := blk_frozen BK227.out 2) | (go_at_call 18; (with_reducible refine (item_May.calls k a0_0 _ _ l0_1 _ _ l0_2 t229 _ ?side1 ?side2 ?side3 ?side4 A9.out).mono ?_); (case side1 => repeat (first | exact (Kd.C_below HR0_1.out HB.out) | (with_reducible refine Kd.C_alloc ?_ _) | (with_reducible refine Kd.C_drewN ?_ _) | (with_reducible refine Kd.C_drew ?_))); (case side2 => exact HC0_1.out); (case side3 => repeat (first | exact (Kd.C_below HR0_2.out HB.out) | (with_reducible refine Kd.C_alloc ?_ _) | (with_reducible refine Kd.C_drewN ?_ _) | (with_reducible refine Kd.C_drew ?_))); (case side4 => exact HC0_2.out); rintro e w13 ⟨rfl, hb⟩; have n0_ := Aside0.mk (blk_below (g := gb227) (o := .cells #[.string a0_0, .slice A0_1 l0_1.length c0_1, .slice A0_2 l0_2.length c0_2] 34 (0, 0)) (by (with_reducible repeat (first | refine blk_drewN ?_ _ | refine blk_drew ?_ | refine blk_alloc ?_ _)); exact BK227.out) hb); have n1_ := Aside0.mk (below_step (by repeat (first | (with_reducible first | exact HB.out | apply below_alloc | apply pw_below_drewN | apply below_drew1 | refine below_set ?_ GE227.out) | exact HB.out)) hb); clear BK227; clear HB; have BK227 := n0_; have HB := n1_; clear n0_ n1_; (try clear hb); (try clear hb2); (try clear hk); (try clear hi)))
      go_meet
      case rel => exact ⟨_, (!t229), (by first | rfl | (simp; done) | (simp [*]; done)), H', ⟨by first | omega | exact Nat.le_refl _⟩, ⟨by (with_reducible repeat (first | refine blk_drewN ?_ _ | refine blk_drew ?_ | refine blk_alloc ?_ _)); exact BK227.out⟩, ⟨by repeat (first | (with_reducible first | exact HB.out | apply below_alloc | apply pw_below_drewN | apply below_drew1 | refine below_set ?_ GE227.out) | exact HB.out)⟩⟩
  case rest =>
    clear HC3
    try clear p2
    try clear c3
    try clear c6
    try clear hcz10_0
    try clear hcz10_1
    try clear hcz10_2
    try clear hcz12_0
    try clear hcz12_1
    try clear hcz12_2
    try clear hcz7_0
    try clear hcz7_1
    try clear hcz7_2
    try clear hfz10_0
    try clear hfz10_1
    try clear hfz10_2
    try clear hfz12_0
    try clear hfz12_1
    try clear hfz12_2
    try clear hfz7_0
    try clear hfz7_1
    try clear hfz7_2
    obtain ⟨kq, x14_2, rfl, HA, HJ2, BK227, HB⟩ := hcut
    cases kq with
    | zero => exact absurd HA.out (by simp [hogsheadlaw7_ItemEdges.j0])
    | succ kj2 =>
      have H := HA.out
      clear HA
      simp only [hogsheadlaw7_ItemEdges.j0] at H
      by_cases c14 : x14_2 = true
      · subst c14
        have H1 : ((hogsheadlaw7_awake.f kj2).bind fun t230 => (some t230)) = some true := by rw [if_pos rfl] at H; exact H
        clear H
        have H := H1
        clear H1
        replace H := Option.bind_eq_some_iff.mp H
        obtain ⟨t230, A150, H⟩ := H
        replace H : (some t230) = some true := H
        have A15 := Aside0.mk A150
        clear A150
        obtain rfl := Option.some.inj H
        go_wp2_with (first | ((with_reducible refine gate_callee (f := 7) rfl ?_); refine goesL_ (some 15) rfl rfl Tryd.func7 (by kernel_rfl) rfl #[] rfl (by (try simp only [List.map_toArray, List.map_cons, List.map_nil]); first | done | rfl | (simp only [List.length_drop, List.length_take]; rfl)) ?_; (with_reducible refine (hogsheadlaw7_awake.calls kj2  true _ A15.out).mono ?_); rintro e w16 ⟨rfl, hb⟩; refine ⟨_, rfl, ?_⟩; have n0_ := Aside0.mk (blk_below (g := gb227) (o := .cells #[.string a0_0, .slice A0_1 l0_1.length c0_1, .slice A0_2 l0_2.length c0_2] 34 (0, 0)) (by (with_reducible repeat (first | refine blk_drewN ?_ _ | refine blk_drew ?_ | refine blk_alloc ?_ _)); exact BK227.out) hb); have n1_ := Aside0.mk (below_step (by repeat (first | (with_reducible first | exact HB.out | apply below_alloc | apply pw_below_drewN | apply below_drew1 | refine below_set ?_ GE227.out) | exact HB.out)) hb); clear BK227; clear HB; have BK227 := n0_; have HB := n1_; clear n0_ n1_; (try clear hb); (try clear hb2); (try clear hk); (try clear hi)))
        go_ret
        exact ⟨by first | rfl | (simp [errW_none, errW_some] <;> rfl) | (simp [*, errW_none, errW_some] <;> rfl), by repeat (first | (with_reducible first | exact HB.out | apply below_alloc | apply pw_below_drewN | apply below_drew1 | refine below_set ?_ GE227.out) | exact HB.out)⟩
      · replace c14 := Bool.eq_false_iff.mpr c14
        subst c14
        have H1 : ((item_Own.f a0_0 l0_1 l0_2).bind fun bt231 => ((hogsheadlaw0_Low.f a1 6).bind fun t239 => (if t239 = 0 then (if bt231.1.size + 1 ≤ 9223372036854775807 then (hogsheadlaw7_ItemEdges.j2 kj2 a0_0 l0_1 l0_2 (bt231.1 ++ (⟨#[47]⟩ : ByteArray)) bt231.2.1 bt231.2.2) else (none)) else (if t239 = 1 then (hogsheadlaw7_ItemEdges.j2 kj2 a0_0 l0_1 l0_2 bt231.1 (([bt231.1, bt231.1] : List ByteArray)) bt231.2.2) else (if t239 = 2 then (hogsheadlaw7_ItemEdges.j2 kj2 a0_0 l0_1 l0_2 bt231.1 (([(⟨#[49, 49, 50, 51, 52, 53, 54, 97, 45, 120]⟩ : ByteArray), (⟨#[48, 49, 50, 51, 52, 53, 54, 97, 45, 120]⟩ : ByteArray)] : List ByteArray)) bt231.2.2) else (if t239 = 3 then (hogsheadlaw7_ItemEdges.j2 kj2 a0_0 l0_1 l0_2 bt231.1 bt231.2.1 ([] : List (S45))) else (if t239 = 4 then (if bt231.2.2.length < 3518437208883 then (hogsheadlaw7_ItemEdges.j2 kj2 a0_0 l0_1 l0_2 bt231.1 bt231.2.1 (bt231.2.2 ++ [(⟨(⟨#[]⟩ : ByteArray), 2, (⟨#[]⟩ : ByteArray)⟩ : S45)])) else (none)) else (hogsheadlaw7_ItemEdges.l0 kj2 0 a0_0 l0_1 l0_2 bt231.1 bt231.2.1 (([(⟨(⟨#[]⟩ : ByteArray), 1, (⟨#[]⟩ : ByteArray)⟩ : S45)] : List (S45))))))))))) = some true := by rw [if_neg (show ¬ (false = true) by decide)] at H; exact H
        clear H
        have H := H1
        clear H1
        replace H := Option.bind_eq_some_iff.mp H
        obtain ⟨⟨t231, t232, t235⟩, A170, H⟩ := H
        replace H : ((hogsheadlaw0_Low.f a1 6).bind fun t239 => (if t239 = 0 then (if t231.size + 1 ≤ 9223372036854775807 then (hogsheadlaw7_ItemEdges.j2 kj2 a0_0 l0_1 l0_2 (t231 ++ (⟨#[47]⟩ : ByteArray)) t232 t235) else (none)) else (if t239 = 1 then (hogsheadlaw7_ItemEdges.j2 kj2 a0_0 l0_1 l0_2 t231 (([t231, t231] : List ByteArray)) t235) else (if t239 = 2 then (hogsheadlaw7_ItemEdges.j2 kj2 a0_0 l0_1 l0_2 t231 (([(⟨#[49, 49, 50, 51, 52, 53, 54, 97, 45, 120]⟩ : ByteArray), (⟨#[48, 49, 50, 51, 52, 53, 54, 97, 45, 120]⟩ : ByteArray)] : List ByteArray)) t235) else (if t239 = 3 then (hogsheadlaw7_ItemEdges.j2 kj2 a0_0 l0_1 l0_2 t231 t232 ([] : List (S45))) else (if t239 = 4 then (if t235.length < 3518437208883 then (hogsheadlaw7_ItemEdges.j2 kj2 a0_0 l0_1 l0_2 t231 t232 (t235 ++ [(⟨(⟨#[]⟩ : ByteArray), 2, (⟨#[]⟩ : ByteArray)⟩ : S45)])) else (none)) else (hogsheadlaw7_ItemEdges.l0 kj2 0 a0_0 l0_1 l0_2 t231 t232 (([(⟨(⟨#[]⟩ : ByteArray), 1, (⟨#[]⟩ : ByteArray)⟩ : S45)] : List (S45)))))))))) = some true := H
        have A17 := Aside0.mk A170
        clear A170
        replace H := Option.bind_eq_some_iff.mp H
        obtain ⟨t239, A180, H⟩ := H
        replace H : (if t239 = 0 then (if t231.size + 1 ≤ 9223372036854775807 then (hogsheadlaw7_ItemEdges.j2 kj2 a0_0 l0_1 l0_2 (t231 ++ (⟨#[47]⟩ : ByteArray)) t232 t235) else (none)) else (if t239 = 1 then (hogsheadlaw7_ItemEdges.j2 kj2 a0_0 l0_1 l0_2 t231 (([t231, t231] : List ByteArray)) t235) else (if t239 = 2 then (hogsheadlaw7_ItemEdges.j2 kj2 a0_0 l0_1 l0_2 t231 (([(⟨#[49, 49, 50, 51, 52, 53, 54, 97, 45, 120]⟩ : ByteArray), (⟨#[48, 49, 50, 51, 52, 53, 54, 97, 45, 120]⟩ : ByteArray)] : List ByteArray)) t235) else (if t239 = 3 then (hogsheadlaw7_ItemEdges.j2 kj2 a0_0 l0_1 l0_2 t231 t232 ([] : List (S45))) else (if t239 = 4 then (if t235.length < 3518437208883 then (hogsheadlaw7_ItemEdges.j2 kj2 a0_0 l0_1 l0_2 t231 t232 (t235 ++ [(⟨(⟨#[]⟩ : ByteArray), 2, (⟨#[]⟩ : ByteArray)⟩ : S45)])) else (none)) else (hogsheadlaw7_ItemEdges.l0 kj2 0 a0_0 l0_1 l0_2 t231 t232 (([(⟨(⟨#[]⟩ : ByteArray), 1, (⟨#[]⟩ : ByteArray)⟩ : S45)] : List (S45))))))))) = some true := H
        have A18 := Aside0.mk A180
        clear A180
        have HC19 := Aside0.mk H
        clear H
        have hcz20_0 : wc.cell? ⟨gb227, 0, none⟩ = some (.string a0_0) := (blk_cell BK227.out 0).trans rfl
        have hcz20_1 : wc.cell? ⟨gb227, 1, none⟩ = some (.slice A0_1 l0_1.length c0_1) := (blk_cell BK227.out 1).trans rfl
        have hcz20_2 : wc.cell? ⟨gb227, 2, none⟩ = some (.slice A0_2 l0_2.length c0_2) := (blk_cell BK227.out 2).trans rfl
        have hfz20_0 := blk_frozen BK227.out 0
        have hfz20_1 := blk_frozen BK227.out 1
        have hfz20_2 := blk_frozen BK227.out 2
        go_upto_block 0 with (first | ((with_reducible refine gate_callee (f := 12) rfl ?_); refine goesL_ (some 17) rfl rfl Tryd.func12 (by kernel_rfl) rfl #[.agg #[.string a0_0, .slice A0_1 l0_1.length c0_1, .slice A0_2 l0_2.length c0_2]] rfl (by (try simp only [List.map_toArray, List.map_cons, List.map_nil]); first | done | rfl | (simp only [List.length_drop, List.length_take]; rfl)) ?_; (with_reducible refine (item_Own.calls a0_0 _ _ l0_1 _ _ l0_2 t231 t232 t235 _ ?side1 ?side2 ?side3 ?side4 A17.out).mono ?_); (case side1 => repeat (first | exact (Kd.C_below HR0_1.out HB.out) | (with_reducible refine Kd.C_alloc ?_ _) | (with_reducible refine Kd.C_drewN ?_ _) | (with_reducible refine Kd.C_drew ?_))); (case side2 => exact HC0_1.out); (case side3 => repeat (first | exact (Kd.C_below HR0_2.out HB.out) | (with_reducible refine Kd.C_alloc ?_ _) | (with_reducible refine Kd.C_drewN ?_ _) | (with_reducible refine Kd.C_drew ?_))); (case side4 => exact HC0_2.out); rintro e w21 ⟨v233, v236, rfl, ho0, ho1, hb⟩; refine ⟨_, rfl, ?_⟩; have n0_ := Aside0.mk (Kd.R_lower ho0 (below_size (by repeat (first | (with_reducible first | exact HB.out | apply below_alloc | apply pw_below_drewN | apply below_drew1 | refine below_set ?_ GE227.out) | exact HB.out)))); have n1_ := Aside0.mk (Kd.R_lower ho1 (below_size (by repeat (first | (with_reducible first | exact HB.out | apply below_alloc | apply pw_below_drewN | apply below_drew1 | refine below_set ?_ GE227.out) | exact HB.out)))); have n2_ := Aside0.mk (blk_below (g := gb227) (o := .cells #[.string a0_0, .slice A0_1 l0_1.length c0_1, .slice A0_2 l0_2.length c0_2] 34 (0, 0)) (by (with_reducible repeat (first | refine blk_drewN ?_ _ | refine blk_drew ?_ | refine blk_alloc ?_ _)); exact BK227.out) hb); have n3_ := Aside0.mk (below_step (by repeat (first | (with_reducible first | exact HB.out | apply below_alloc | apply pw_below_drewN | apply below_drew1 | refine below_set ?_ GE227.out) | exact HB.out)) hb); clear BK227; clear HB; have HO234 := n0_; have HO237 := n1_; have BK227 := n2_; have HB := n3_; clear n0_ n1_ n2_ n3_; (try clear hb); (try clear hb2); (try clear hk); (try clear hi); (try clear ho0); (try clear ho1)) | ((with_reducible refine gate_dst (N := 5) rfl ?_); refine box_event ?hg (N := 5) ?hd (cs := #[.string (⟨#[]⟩ : ByteArray), .slice none 0 0, .slice none 0 0]) (t := 34) ?hr ?_; (case hd => rfl); (case hg => rfl); (case hr => first | (go_simp; done) | (go_simp; rfl)); intro gb238 hg w22 hbox hb; have n0_ := Aside0.mk (Kd.R_below (by (with_reducible repeat (first | apply Kd.R_alloc | apply Kd.R_drewN | apply Kd.R_drew)); exact HO234.out) hb); have n1_ := Aside0.mk (Kd.R_below (by (with_reducible repeat (first | apply Kd.R_alloc | apply Kd.R_drewN | apply Kd.R_drew)); exact HO237.out) hb); have n2_ := Aside0.mk (blk_below (g := gb227) (o := .cells #[.string a0_0, .slice A0_1 l0_1.length c0_1, .slice A0_2 l0_2.length c0_2] 34 (0, 0)) (by (with_reducible repeat (first | refine blk_drewN ?_ _ | refine blk_drew ?_ | refine blk_alloc ?_ _)); exact BK227.out) hb); have n3_ := Aside0.mk (below_step (by repeat (first | (with_reducible first | exact HB.out | apply below_alloc | apply pw_below_drewN | apply below_drew1 | refine below_set ?_ GE227.out) | exact HB.out)) hb); have n4_ := Aside0.mk (hbox); have n5_ := Aside0.mk ((by rw [hg]; exact (below_size (by repeat (first | (with_reducible first | exact HB.out | apply below_alloc | apply pw_below_drewN | apply below_drew1 | refine below_set ?_ GE227.out) | exact HB.out))) : w.heap.size ≤ gb238)); have n6_ := Aside0.mk ((by rw [hg]; exact (below_size (by repeat (first | (with_reducible first | exact HB.out | apply below_alloc | apply pw_below_drewN | apply below_drew1 | refine below_set ?_ GE227.out) | exact HB.out))) : w.heap.size ≤ gb238)); have n7_ := Aside0.mk ((by rw [hg]; exact Nat.ne_of_lt (blk_lt (g := gb227) (o := .cells #[.string a0_0, .slice A0_1 l0_1.length c0_1, .slice A0_2 l0_2.length c0_2] 34 (0, 0)) (by (with_reducible repeat (first | refine blk_drewN ?_ _ | refine blk_drew ?_ | refine blk_alloc ?_ _)); exact BK227.out)) : gb227 ≠ gb238)); have n8_ := Aside0.mk ((by rw [hg]; exact Nat.ne_of_gt (blk_lt (g := gb227) (o := .cells #[.string a0_0, .slice A0_1 l0_1.length c0_1, .slice A0_2 l0_2.length c0_2] 34 (0, 0)) (by (with_reducible repeat (first | refine blk_drewN ?_ _ | refine blk_drew ?_ | refine blk_alloc ?_ _)); exact BK227.out)) : gb238 ≠ gb227)); clear HO234; clear HO237; clear BK227; clear HB; have HO234 := n0_; have HO237 := n1_; have BK227 := n2_; have HB := n3_; have BK238 := n4_; have GW238 := n5_; have GE238 := n6_; have NB227_238 := n7_; have NB238_227 := n8_; clear n0_ n1_ n2_ n3_ n4_ n5_ n6_ n7_ n8_; clear hb hbox hg; have hnb23 := NB238_227.out; have hnc23 := NB227_238.out; have hcz24_0 : w22.cell? ⟨gb238, 0, none⟩ = some (.string (⟨#[]⟩ : ByteArray)) := (blk_cell BK238.out 0).trans rfl; have hcz24_1 : w22.cell? ⟨gb238, 1, none⟩ = some (.slice none 0 0) := (blk_cell BK238.out 1).trans rfl; have hcz24_2 : w22.cell? ⟨gb238, 2, none⟩ = some (.slice none 0 0) := (blk_cell BK238.out 2).trans rfl; have hfz24_0 := blk_frozen BK238.out 0; have hfz24_1 := blk_frozen BK238.out 1; have hfz24_2 := blk_frozen BK238.out 2; obtain ⟨Ao25, co25, eo25⟩ := Kd.R_slice HO234.out; subst eo25; obtain ⟨Ao26, co26, eo26⟩ := Kd.R_slice HO237.out; subst eo26) | ((with_reducible refine gate_callee (f := 8) rfl ?_); refine goesL_ (some 19) rfl rfl Tryd.func8 (by kernel_rfl) rfl #[.int .i64 a1, .int .i64 6] rfl (by (try simp only [List.map_toArray, List.map_cons, List.map_nil]); first | done | rfl | (simp only [List.length_drop, List.length_take]; rfl)) ?_; (with_reducible refine (hogsheadlaw0_Low.calls a1 6 t239 _ A18.out).mono ?_); rintro e w' ⟨rfl, ⟨nd, rfl⟩⟩; refine ⟨_, rfl, ?_⟩))
        (try simp only [Act.put, List.setIfInBounds_toArray, List.set_cons_zero, List.set_cons_succ])
        go_cut [] (fun wc => ∃ (kq : Nat) (x239000_18 : ByteArray) (x239001_18 : List ByteArray) (x239002_18 : List (S45)) (u239001 : Value) (u239002 : Value), Aside0 (hogsheadlaw7_ItemEdges.j2 kq a0_0 l0_1 l0_2 x239000_18 x239001_18 x239002_18 = some true) ∧ Aside0 (kq ≤ kj2) ∧ Aside0 (Kd.R Kd.string 9 wc w.heap.size (fun _ => True) u239001 x239001_18) ∧ Aside0 (Kd.R k45 45 wc w.heap.size (fun _ => True) u239002 x239002_18) ∧ Aside0 (wc.heap[gb227]? = some (.cells #[.string a0_0, (.slice A0_1 l0_1.length c0_1), (.slice A0_2 l0_2.length c0_2)] 34 (0, 0))) ∧ Aside0 (wc.heap[gb238]? = some (.cells #[.string x239000_18, u239001, u239002] 34 (0, 0))) ∧ Aside0 (Below w.heap.size w wc))
        case first =>
          have H := HC19.out
          clear HC19
          by_cases c27 : t239 = 0
          · rw [if_pos c27] at H
            have c27b0 : (t239 == 0) = true := beq_iff_eq.mpr c27
            have c27b1 : (t239 != 0) = false := bne_eq_false_iff_eq.mpr c27
            clear c27
            (first | rw [c27b0] | (simp only [i64_w, i32_w]; rw [c27b0]) | skip)
            by_cases c28 : t231.size + 1 ≤ 9223372036854775807
            · rw [if_pos c28] at H
              have c28b0 := eq_true c28
              have c28b1 : decide (t231.size + 1 ≤ 9223372036854775807) = true := decide_eq_true c28
              try have c28b2 : (9223372036854775807 < t231.size + 1) = False := eq_false (Nat.not_lt.2 c28)
              have H' := Aside0.mk H
              clear H
              have hnb29 := NB238_227.out
              have hnc29 := NB227_238.out
              have hcz30_0 : w22.cell? ⟨gb238, 0, none⟩ = some (.string (⟨#[]⟩ : ByteArray)) := (blk_cell BK238.out 0).trans rfl
              have hcz30_1 : w22.cell? ⟨gb238, 1, none⟩ = some (.slice none 0 0) := (blk_cell BK238.out 1).trans rfl
              have hcz30_2 : w22.cell? ⟨gb238, 2, none⟩ = some (.slice none 0 0) := (blk_cell BK238.out 2).trans rfl
              have hfz30_0 := blk_frozen BK238.out 0
              have hfz30_1 := blk_frozen BK238.out 1
              have hfz30_2 := blk_frozen BK238.out 2
              go_wp2
              go_meet
              case rel => exact ⟨_, (t231 ++ (⟨#[47]⟩ : ByteArray)), (t232), (t235), (.slice Ao25 t232.length co25), (.slice Ao26 t235.length co26), H', ⟨by have := HJ2.out; first | omega | exact Nat.le_refl _⟩, ⟨by (with_reducible repeat (first | apply Kd.R_alloc | apply Kd.R_drewN | apply Kd.R_drew)); exact Kd.R_mono (Kd.R_far (p := ⟨gb238, 0, none⟩) (Kd.R_far (p := ⟨gb238, 2, none⟩) (Kd.R_far (p := ⟨gb238, 1, none⟩) (Kd.R_far (p := ⟨gb238, 0, none⟩) (Kd.R_types HO234.out BK238.out (by decide)) (fun _ hk => hk.2) (.string t231)) (fun _ hk => hk.2) (.slice Ao25 t232.length co25)) (fun _ hk => hk.2) (.slice Ao26 t235.length co26)) (fun _ hk => hk.2) (.string (t231 ++ (⟨#[47]⟩ : ByteArray)))) (fun _ hk => trivial)⟩, ⟨by (with_reducible repeat (first | apply Kd.R_alloc | apply Kd.R_drewN | apply Kd.R_drew)); exact Kd.R_mono (Kd.R_far (p := ⟨gb238, 0, none⟩) (Kd.R_far (p := ⟨gb238, 2, none⟩) (Kd.R_far (p := ⟨gb238, 1, none⟩) (Kd.R_far (p := ⟨gb238, 0, none⟩) (Kd.R_types HO237.out BK238.out (by decide)) (fun _ hk => hk.2) (.string t231)) (fun _ hk => hk.2) (.slice Ao25 t232.length co25)) (fun _ hk => hk.2) (.slice Ao26 t235.length co26)) (fun _ hk => hk.2) (.string (t231 ++ (⟨#[47]⟩ : ByteArray)))) (fun _ hk => trivial)⟩, ⟨by (with_reducible repeat (first | refine blk_drewN ?_ _ | refine blk_drew ?_ | refine blk_alloc ?_ _)); refine blk_far ?_ NB227_238.out _; (with_reducible repeat (first | refine blk_drewN ?_ _ | refine blk_drew ?_ | refine blk_alloc ?_ _)); refine blk_far ?_ NB227_238.out _; (with_reducible repeat (first | refine blk_drewN ?_ _ | refine blk_drew ?_ | refine blk_alloc ?_ _)); refine blk_far ?_ NB227_238.out _; (with_reducible repeat (first | refine blk_drewN ?_ _ | refine blk_drew ?_ | refine blk_alloc ?_ _)); refine blk_far ?_ NB227_238.out _; (with_reducible repeat (first | refine blk_drewN ?_ _ | refine blk_drew ?_ | refine blk_alloc ?_ _)); exact BK227.out⟩, ⟨by (with_reducible repeat (first | refine blk_drewN ?_ _ | refine blk_drew ?_ | refine blk_alloc ?_ _)); refine blk_put (cs := #[.string t231, .slice Ao25 t232.length co25, .slice Ao26 t235.length co26]) ?_ 0 _ rfl; (with_reducible repeat (first | refine blk_drewN ?_ _ | refine blk_drew ?_ | refine blk_alloc ?_ _)); refine blk_put (cs := #[.string t231, .slice Ao25 t232.length co25, .slice none 0 0]) ?_ 2 _ rfl; (with_reducible repeat (first | refine blk_drewN ?_ _ | refine blk_drew ?_ | refine blk_alloc ?_ _)); refine blk_put (cs := #[.string t231, .slice none 0 0, .slice none 0 0]) ?_ 1 _ rfl; (with_reducible repeat (first | refine blk_drewN ?_ _ | refine blk_drew ?_ | refine blk_alloc ?_ _)); refine blk_put (cs := #[.string (⟨#[]⟩ : ByteArray), .slice none 0 0, .slice none 0 0]) ?_ 0 _ rfl; (with_reducible repeat (first | refine blk_drewN ?_ _ | refine blk_drew ?_ | refine blk_alloc ?_ _)); exact BK238.out⟩, ⟨by repeat (first | (with_reducible first | exact HB.out | apply below_alloc | apply pw_below_drewN | apply below_drew1 | refine below_set ?_ GE227.out | refine below_set ?_ GE238.out) | exact HB.out)⟩⟩
            · rw [if_neg c28] at H
              exact absurd H (by simp)
          · rw [if_neg c27] at H
            have c27b0 : (t239 == 0) = false := beq_eq_false_iff_ne.mpr c27
            have c27b1 : (t239 != 0) = true := bne_iff_ne.mpr c27
            (first | rw [c27b0] | (simp only [i64_w, i32_w]; rw [c27b0]) | skip)
            by_cases c31 : t239 = 1
            · rw [if_pos c31] at H
              have c31b0 : (t239 == 1) = true := beq_iff_eq.mpr c31
              have c31b1 : (t239 != 1) = false := bne_eq_false_iff_eq.mpr c31
              clear c31
              obtain ⟨y240, hy240⟩ : ∃ y_ : List ByteArray, y_ = (([t231, t231] : List ByteArray)) := ⟨_, rfl⟩
              replace H : (hogsheadlaw7_ItemEdges.j2 kj2 a0_0 l0_1 l0_2 t231 y240 t235) = some true := by first | (rw [hy240]; with_reducible exact H) | (have H2_ := (Option.bind_some _ _).symm.trans H; rw [hy240]; with_reducible exact H2_) | (have H2_ := (Option.bind_some _ _).symm.trans H; with_reducible exact H2_) | with_reducible exact H | (rw [hy240]; exact H) | exact H
              have Ny240 := Aside0.mk hy240
              clear hy240
              have H' := Aside0.mk H
              clear H
              have hnb32 := NB238_227.out
              have hnc32 := NB227_238.out
              have hcz33_0 : w22.cell? ⟨gb238, 0, none⟩ = some (.string (⟨#[]⟩ : ByteArray)) := (blk_cell BK238.out 0).trans rfl
              have hcz33_1 : w22.cell? ⟨gb238, 1, none⟩ = some (.slice none 0 0) := (blk_cell BK238.out 1).trans rfl
              have hcz33_2 : w22.cell? ⟨gb238, 2, none⟩ = some (.slice none 0 0) := (blk_cell BK238.out 2).trans rfl
              have hfz33_0 := blk_frozen BK238.out 0
              have hfz33_1 := blk_frozen BK238.out 1
              have hfz33_2 := blk_frozen BK238.out 2
              go_wp2_with (first | ((with_reducible refine gate_dst (N := 50) rfl ?_); refine Kd.R_lit Kd.string _ 9 ?hg (N := 50) ?hd (xs := ([t231, t231] : List ByteArray)) (inner := [.string t231, .string t231]) (ok := fun _ => True) (okp := fun _ => True) ?hr ?hp (fun _ hk => hk) trivial (Below.refl _ _) (Nat.le_refl _) (by simp) ?_; (case hd => rfl); (case hg => rfl); (case hr => first | (go_simp; done) | (go_simp; rfl)); (case hp => exact (Reps.one (show Kd.M Kd.string _ _ _ t231 [.string t231] from rfl) (Reps.one (show Kd.M Kd.string _ _ _ t231 [.string t231] from rfl) (Reps.none _ _)))); intro v241 w34 ho35 hb hg_ hnew_; clear hg_ hnew_; (first | rw [← Ny240.out] at ho35 | (simp only [Int.reduceToNat] at ho35; rw [← Ny240.out] at ho35)); have n0_ := Aside0.mk (Kd.R_elder' (by (with_reducible repeat (first | apply Kd.R_alloc | apply Kd.R_drewN | apply Kd.R_drew)); exact (Kd.R_mono (Kd.R_far (p := ⟨gb238, 2, none⟩) (Kd.R_far (p := ⟨gb238, 1, none⟩) (Kd.R_far (p := ⟨gb238, 0, none⟩) (Kd.R_types HO234.out BK238.out (by decide)) (fun _ hk => hk.2) (.string t231)) (fun _ hk => hk.2) (.slice Ao25 t232.length co25)) (fun _ hk => hk.2) (.slice Ao26 t235.length co26)) (fun _ h_ => h_.1))) (Kd.R_base ho35) hb); have n1_ := Aside0.mk (Kd.R_below (by (with_reducible repeat (first | apply Kd.R_alloc | apply Kd.R_drewN | apply Kd.R_drew)); exact (Kd.R_mono (Kd.R_far (p := ⟨gb238, 2, none⟩) (Kd.R_far (p := ⟨gb238, 1, none⟩) (Kd.R_far (p := ⟨gb238, 0, none⟩) (Kd.R_types HO237.out BK238.out (by decide)) (fun _ hk => hk.2) (.string t231)) (fun _ hk => hk.2) (.slice Ao25 t232.length co25)) (fun _ hk => hk.2) (.slice Ao26 t235.length co26)) (fun _ h_ => h_.1))) hb); have n2_ := Aside0.mk (Kd.R_lower (Kd.R_new' ho35 (Kd.R_lt (by (with_reducible repeat (first | apply Kd.R_alloc | apply Kd.R_drewN | apply Kd.R_drew)); exact (Kd.R_mono (Kd.R_far (p := ⟨gb238, 2, none⟩) (Kd.R_far (p := ⟨gb238, 1, none⟩) (Kd.R_far (p := ⟨gb238, 0, none⟩) (Kd.R_types HO234.out BK238.out (by decide)) (fun _ hk => hk.2) (.string t231)) (fun _ hk => hk.2) (.slice Ao25 t232.length co25)) (fun _ hk => hk.2) (.slice Ao26 t235.length co26)) (fun _ h_ => h_.1))))) (below_size (by repeat (first | (with_reducible first | exact HB.out | apply below_alloc | apply pw_below_drewN | apply below_drew1 | refine below_set ?_ GE227.out | refine below_set ?_ GE238.out) | exact HB.out)))); have n3_ := Aside0.mk (blk_below (g := gb227) (o := .cells #[.string a0_0, .slice A0_1 l0_1.length c0_1, .slice A0_2 l0_2.length c0_2] 34 (0, 0)) (by (with_reducible repeat (first | refine blk_drewN ?_ _ | refine blk_drew ?_ | refine blk_alloc ?_ _)); refine blk_far ?_ NB227_238.out _; (with_reducible repeat (first | refine blk_drewN ?_ _ | refine blk_drew ?_ | refine blk_alloc ?_ _)); refine blk_far ?_ NB227_238.out _; (with_reducible repeat (first | refine blk_drewN ?_ _ | refine blk_drew ?_ | refine blk_alloc ?_ _)); refine blk_far ?_ NB227_238.out _; (with_reducible repeat (first | refine blk_drewN ?_ _ | refine blk_drew ?_ | refine blk_alloc ?_ _)); exact BK227.out) hb); have n4_ := Aside0.mk (blk_below (g := gb238) (o := .cells #[.string t231, .slice Ao25 t232.length co25, .slice Ao26 t235.length co26] 34 (0, 0)) (by (with_reducible repeat (first | refine blk_drewN ?_ _ | refine blk_drew ?_ | refine blk_alloc ?_ _)); refine blk_put (cs := #[.string t231, .slice Ao25 t232.length co25, .slice none 0 0]) ?_ 2 _ rfl; (with_reducible repeat (first | refine blk_drewN ?_ _ | refine blk_drew ?_ | refine blk_alloc ?_ _)); refine blk_put (cs := #[.string t231, .slice none 0 0, .slice none 0 0]) ?_ 1 _ rfl; (with_reducible repeat (first | refine blk_drewN ?_ _ | refine blk_drew ?_ | refine blk_alloc ?_ _)); refine blk_put (cs := #[.string (⟨#[]⟩ : ByteArray), .slice none 0 0, .slice none 0 0]) ?_ 0 _ rfl; (with_reducible repeat (first | refine blk_drewN ?_ _ | refine blk_drew ?_ | refine blk_alloc ?_ _)); exact BK238.out) hb); have n5_ := Aside0.mk (below_step (by repeat (first | (with_reducible first | exact HB.out | apply below_alloc | apply pw_below_drewN | apply below_drew1 | refine below_set ?_ GE227.out | refine below_set ?_ GE238.out) | exact HB.out)) hb); clear HO234; clear HO237; clear BK227; clear BK238; clear HB; have HO234 := n0_; have HO237 := n1_; have HO242 := n2_; have BK227 := n3_; have BK238 := n4_; have HB := n5_; clear n0_ n1_ n2_ n3_ n4_ n5_; clear hb ho35; obtain ⟨Ao36, co36, eo36⟩ := Kd.R_slice HO242.out; subst eo36; have hcz37_0 : w34.cell? ⟨gb238, 0, none⟩ = some (.string t231) := (blk_cell BK238.out 0).trans rfl; have hcz37_1 : w34.cell? ⟨gb238, 1, none⟩ = some (.slice Ao25 t232.length co25) := (blk_cell BK238.out 1).trans rfl; have hcz37_2 : w34.cell? ⟨gb238, 2, none⟩ = some (.slice Ao26 t235.length co26) := (blk_cell BK238.out 2).trans rfl; have hfz37_0 := blk_frozen BK238.out 0; have hfz37_1 := blk_frozen BK238.out 1; have hfz37_2 := blk_frozen BK238.out 2))
              go_meet
              case rel => exact ⟨_, (t231), (y240), (t235), (.slice Ao36 y240.length co36), (.slice Ao26 t235.length co26), H', ⟨by have := HJ2.out; first | omega | exact Nat.le_refl _⟩, ⟨by (with_reducible repeat (first | apply Kd.R_alloc | apply Kd.R_drewN | apply Kd.R_drew)); exact Kd.R_mono (Kd.R_far (p := ⟨gb238, 1, none⟩) (Kd.R_types HO242.out BK238.out (by decide)) (fun _ hk => hk.2) (.slice Ao36 y240.length co36)) (fun _ hk => trivial)⟩, ⟨by (with_reducible repeat (first | apply Kd.R_alloc | apply Kd.R_drewN | apply Kd.R_drew)); exact Kd.R_mono (Kd.R_far (p := ⟨gb238, 1, none⟩) (Kd.R_types HO237.out BK238.out (by decide)) (fun _ hk => hk.2) (.slice Ao36 y240.length co36)) (fun _ hk => trivial)⟩, ⟨by (with_reducible repeat (first | refine blk_drewN ?_ _ | refine blk_drew ?_ | refine blk_alloc ?_ _)); refine blk_far ?_ NB227_238.out _; (with_reducible repeat (first | refine blk_drewN ?_ _ | refine blk_drew ?_ | refine blk_alloc ?_ _)); exact BK227.out⟩, ⟨by (with_reducible repeat (first | refine blk_drewN ?_ _ | refine blk_drew ?_ | refine blk_alloc ?_ _)); refine blk_put (cs := #[.string t231, .slice Ao25 t232.length co25, .slice Ao26 t235.length co26]) ?_ 1 _ rfl; (with_reducible repeat (first | refine blk_drewN ?_ _ | refine blk_drew ?_ | refine blk_alloc ?_ _)); exact BK238.out⟩, ⟨by repeat (first | (with_reducible first | exact HB.out | apply below_alloc | apply pw_below_drewN | apply below_drew1 | refine below_set ?_ GE227.out | refine below_set ?_ GE238.out) | exact HB.out)⟩⟩
            · rw [if_neg c31] at H
              have c31b0 : (t239 == 1) = false := beq_eq_false_iff_ne.mpr c31
              have c31b1 : (t239 != 1) = true := bne_iff_ne.mpr c31
              by_cases c38 : t239 = 2
              · rw [if_pos c38] at H
                have c38b0 : (t239 == 2) = true := beq_iff_eq.mpr c38
                have c38b1 : (t239 != 2) = false := bne_eq_false_iff_eq.mpr c38
                clear c38
                obtain ⟨y243, hy243⟩ : ∃ y_ : List ByteArray, y_ = (([(⟨#[49, 49, 50, 51, 52, 53, 54, 97, 45, 120]⟩ : ByteArray), (⟨#[48, 49, 50, 51, 52, 53, 54, 97, 45, 120]⟩ : ByteArray)] : List ByteArray)) := ⟨_, rfl⟩
                replace H : (hogsheadlaw7_ItemEdges.j2 kj2 a0_0 l0_1 l0_2 t231 y243 t235) = some true := by first | (rw [hy243]; with_reducible exact H) | (have H2_ := (Option.bind_some _ _).symm.trans H; rw [hy243]; with_reducible exact H2_) | (have H2_ := (Option.bind_some _ _).symm.trans H; with_reducible exact H2_) | with_reducible exact H | (rw [hy243]; exact H) | exact H
                have Ny243 := Aside0.mk hy243
                clear hy243
                have H' := Aside0.mk H
                clear H
                go_wp2_with (first | ((with_reducible refine gate_dst (N := 54) rfl ?_); refine Kd.R_lit Kd.string _ 9 ?hg (N := 54) ?hd (xs := ([(⟨#[49, 49, 50, 51, 52, 53, 54, 97, 45, 120]⟩ : ByteArray), (⟨#[48, 49, 50, 51, 52, 53, 54, 97, 45, 120]⟩ : ByteArray)] : List ByteArray)) (inner := [.string (⟨#[49, 49, 50, 51, 52, 53, 54, 97, 45, 120]⟩ : ByteArray), .string (⟨#[48, 49, 50, 51, 52, 53, 54, 97, 45, 120]⟩ : ByteArray)]) (ok := fun _ => True) (okp := fun _ => True) ?hr ?hp (fun _ hk => hk) trivial (Below.refl _ _) (Nat.le_refl _) (by simp) ?_; (case hd => rfl); (case hg => rfl); (case hr => first | (go_simp; done) | (go_simp; rfl)); (case hp => exact (Reps.one (show Kd.M Kd.string _ _ _ (⟨#[49, 49, 50, 51, 52, 53, 54, 97, 45, 120]⟩ : ByteArray) [.string (⟨#[49, 49, 50, 51, 52, 53, 54, 97, 45, 120]⟩ : ByteArray)] from rfl) (Reps.one (show Kd.M Kd.string _ _ _ (⟨#[48, 49, 50, 51, 52, 53, 54, 97, 45, 120]⟩ : ByteArray) [.string (⟨#[48, 49, 50, 51, 52, 53, 54, 97, 45, 120]⟩ : ByteArray)] from rfl) (Reps.none _ _)))); intro v244 w39 ho40 hb hg_ hnew_; clear hg_ hnew_; (first | rw [← Ny243.out] at ho40 | (simp only [Int.reduceToNat] at ho40; rw [← Ny243.out] at ho40)); have n0_ := Aside0.mk (Kd.R_elder' (by (with_reducible repeat (first | apply Kd.R_alloc | apply Kd.R_drewN | apply Kd.R_drew)); exact (Kd.R_mono (Kd.R_far (p := ⟨gb238, 2, none⟩) (Kd.R_far (p := ⟨gb238, 1, none⟩) (Kd.R_far (p := ⟨gb238, 0, none⟩) (Kd.R_types HO234.out BK238.out (by decide)) (fun _ hk => hk.2) (.string t231)) (fun _ hk => hk.2) (.slice Ao25 t232.length co25)) (fun _ hk => hk.2) (.slice Ao26 t235.length co26)) (fun _ h_ => h_.1))) (Kd.R_base ho40) hb); have n1_ := Aside0.mk (Kd.R_below (by (with_reducible repeat (first | apply Kd.R_alloc | apply Kd.R_drewN | apply Kd.R_drew)); exact (Kd.R_mono (Kd.R_far (p := ⟨gb238, 2, none⟩) (Kd.R_far (p := ⟨gb238, 1, none⟩) (Kd.R_far (p := ⟨gb238, 0, none⟩) (Kd.R_types HO237.out BK238.out (by decide)) (fun _ hk => hk.2) (.string t231)) (fun _ hk => hk.2) (.slice Ao25 t232.length co25)) (fun _ hk => hk.2) (.slice Ao26 t235.length co26)) (fun _ h_ => h_.1))) hb); have n2_ := Aside0.mk (Kd.R_lower (Kd.R_new' ho40 (Kd.R_lt (by (with_reducible repeat (first | apply Kd.R_alloc | apply Kd.R_drewN | apply Kd.R_drew)); exact (Kd.R_mono (Kd.R_far (p := ⟨gb238, 2, none⟩) (Kd.R_far (p := ⟨gb238, 1, none⟩) (Kd.R_far (p := ⟨gb238, 0, none⟩) (Kd.R_types HO234.out BK238.out (by decide)) (fun _ hk => hk.2) (.string t231)) (fun _ hk => hk.2) (.slice Ao25 t232.length co25)) (fun _ hk => hk.2) (.slice Ao26 t235.length co26)) (fun _ h_ => h_.1))))) (below_size (by repeat (first | (with_reducible first | exact HB.out | apply below_alloc | apply pw_below_drewN | apply below_drew1 | refine below_set ?_ GE227.out | refine below_set ?_ GE238.out) | exact HB.out)))); have n3_ := Aside0.mk (blk_below (g := gb227) (o := .cells #[.string a0_0, .slice A0_1 l0_1.length c0_1, .slice A0_2 l0_2.length c0_2] 34 (0, 0)) (by (with_reducible repeat (first | refine blk_drewN ?_ _ | refine blk_drew ?_ | refine blk_alloc ?_ _)); refine blk_far ?_ NB227_238.out _; (with_reducible repeat (first | refine blk_drewN ?_ _ | refine blk_drew ?_ | refine blk_alloc ?_ _)); refine blk_far ?_ NB227_238.out _; (with_reducible repeat (first | refine blk_drewN ?_ _ | refine blk_drew ?_ | refine blk_alloc ?_ _)); refine blk_far ?_ NB227_238.out _; (with_reducible repeat (first | refine blk_drewN ?_ _ | refine blk_drew ?_ | refine blk_alloc ?_ _)); exact BK227.out) hb); have n4_ := Aside0.mk (blk_below (g := gb238) (o := .cells #[.string t231, .slice Ao25 t232.length co25, .slice Ao26 t235.length co26] 34 (0, 0)) (by (with_reducible repeat (first | refine blk_drewN ?_ _ | refine blk_drew ?_ | refine blk_alloc ?_ _)); refine blk_put (cs := #[.string t231, .slice Ao25 t232.length co25, .slice none 0 0]) ?_ 2 _ rfl; (with_reducible repeat (first | refine blk_drewN ?_ _ | refine blk_drew ?_ | refine blk_alloc ?_ _)); refine blk_put (cs := #[.string t231, .slice none 0 0, .slice none 0 0]) ?_ 1 _ rfl; (with_reducible repeat (first | refine blk_drewN ?_ _ | refine blk_drew ?_ | refine blk_alloc ?_ _)); refine blk_put (cs := #[.string (⟨#[]⟩ : ByteArray), .slice none 0 0, .slice none 0 0]) ?_ 0 _ rfl; (with_reducible repeat (first | refine blk_drewN ?_ _ | refine blk_drew ?_ | refine blk_alloc ?_ _)); exact BK238.out) hb); have n5_ := Aside0.mk (below_step (by repeat (first | (with_reducible first | exact HB.out | apply below_alloc | apply pw_below_drewN | apply below_drew1 | refine below_set ?_ GE227.out | refine below_set ?_ GE238.out) | exact HB.out)) hb); clear HO234; clear HO237; clear BK227; clear BK238; clear HB; have HO234 := n0_; have HO237 := n1_; have HO245 := n2_; have BK227 := n3_; have BK238 := n4_; have HB := n5_; clear n0_ n1_ n2_ n3_ n4_ n5_; clear hb ho40; obtain ⟨Ao41, co41, eo41⟩ := Kd.R_slice HO245.out; subst eo41; have hnb42 := NB238_227.out; have hnc42 := NB227_238.out; have hcz43_0 : w39.cell? ⟨gb238, 0, none⟩ = some (.string t231) := (blk_cell BK238.out 0).trans rfl; have hcz43_1 : w39.cell? ⟨gb238, 1, none⟩ = some (.slice Ao25 t232.length co25) := (blk_cell BK238.out 1).trans rfl; have hcz43_2 : w39.cell? ⟨gb238, 2, none⟩ = some (.slice Ao26 t235.length co26) := (blk_cell BK238.out 2).trans rfl; have hfz43_0 := blk_frozen BK238.out 0; have hfz43_1 := blk_frozen BK238.out 1; have hfz43_2 := blk_frozen BK238.out 2))
                go_meet
                case rel => exact ⟨_, (t231), (y243), (t235), (.slice Ao41 y243.length co41), (.slice Ao26 t235.length co26), H', ⟨by have := HJ2.out; first | omega | exact Nat.le_refl _⟩, ⟨by (with_reducible repeat (first | apply Kd.R_alloc | apply Kd.R_drewN | apply Kd.R_drew)); exact Kd.R_mono (Kd.R_far (p := ⟨gb238, 1, none⟩) (Kd.R_types HO245.out BK238.out (by decide)) (fun _ hk => hk.2) (.slice Ao41 y243.length co41)) (fun _ hk => trivial)⟩, ⟨by (with_reducible repeat (first | apply Kd.R_alloc | apply Kd.R_drewN | apply Kd.R_drew)); exact Kd.R_mono (Kd.R_far (p := ⟨gb238, 1, none⟩) (Kd.R_types HO237.out BK238.out (by decide)) (fun _ hk => hk.2) (.slice Ao41 y243.length co41)) (fun _ hk => trivial)⟩, ⟨by (with_reducible repeat (first | refine blk_drewN ?_ _ | refine blk_drew ?_ | refine blk_alloc ?_ _)); refine blk_far ?_ NB227_238.out _; (with_reducible repeat (first | refine blk_drewN ?_ _ | refine blk_drew ?_ | refine blk_alloc ?_ _)); exact BK227.out⟩, ⟨by (with_reducible repeat (first | refine blk_drewN ?_ _ | refine blk_drew ?_ | refine blk_alloc ?_ _)); refine blk_put (cs := #[.string t231, .slice Ao25 t232.length co25, .slice Ao26 t235.length co26]) ?_ 1 _ rfl; (with_reducible repeat (first | refine blk_drewN ?_ _ | refine blk_drew ?_ | refine blk_alloc ?_ _)); exact BK238.out⟩, ⟨by repeat (first | (with_reducible first | exact HB.out | apply below_alloc | apply pw_below_drewN | apply below_drew1 | refine below_set ?_ GE227.out | refine below_set ?_ GE238.out) | exact HB.out)⟩⟩
              · rw [if_neg c38] at H
                have c38b0 : (t239 == 2) = false := beq_eq_false_iff_ne.mpr c38
                have c38b1 : (t239 != 2) = true := bne_iff_ne.mpr c38
                by_cases c44 : t239 = 3
                · rw [if_pos c44] at H
                  have c44b0 : (t239 == 3) = true := beq_iff_eq.mpr c44
                  have c44b1 : (t239 != 3) = false := bne_eq_false_iff_eq.mpr c44
                  clear c44
                  have H' := Aside0.mk H
                  clear H
                  have hnb45 := NB238_227.out
                  have hnc45 := NB227_238.out
                  have hcz46_0 : w22.cell? ⟨gb238, 0, none⟩ = some (.string (⟨#[]⟩ : ByteArray)) := (blk_cell BK238.out 0).trans rfl
                  have hcz46_1 : w22.cell? ⟨gb238, 1, none⟩ = some (.slice none 0 0) := (blk_cell BK238.out 1).trans rfl
                  have hcz46_2 : w22.cell? ⟨gb238, 2, none⟩ = some (.slice none 0 0) := (blk_cell BK238.out 2).trans rfl
                  have hfz46_0 := blk_frozen BK238.out 0
                  have hfz46_1 := blk_frozen BK238.out 1
                  have hfz46_2 := blk_frozen BK238.out 2
                  go_wp2
                  go_meet
                  case rel => exact ⟨_, (t231), (t232), (([] : List (S45))), (.slice Ao25 t232.length co25), (.slice none 0 0), H', ⟨by have := HJ2.out; first | omega | exact Nat.le_refl _⟩, ⟨by (with_reducible repeat (first | apply Kd.R_alloc | apply Kd.R_drewN | apply Kd.R_drew)); exact Kd.R_mono (Kd.R_far (p := ⟨gb238, 2, none⟩) (Kd.R_far (p := ⟨gb238, 2, none⟩) (Kd.R_far (p := ⟨gb238, 1, none⟩) (Kd.R_far (p := ⟨gb238, 0, none⟩) (Kd.R_types HO234.out BK238.out (by decide)) (fun _ hk => hk.2) (.string t231)) (fun _ hk => hk.2) (.slice Ao25 t232.length co25)) (fun _ hk => hk.2) (.slice Ao26 t235.length co26)) (fun _ hk => hk.2) (.slice none 0 0)) (fun _ hk => trivial)⟩, ⟨by first | exact Kd.R_nil _ _ _ _ _ | exact Kd.N_nil _ _ _ _ _ | exact Kd.V_nil _ _ _ _ _ | exact Kd.Q_nil _ _ _ _ _ | exact Kd.S_nil _ _ _ _ _⟩, ⟨by (with_reducible repeat (first | refine blk_drewN ?_ _ | refine blk_drew ?_ | refine blk_alloc ?_ _)); refine blk_far ?_ NB227_238.out _; (with_reducible repeat (first | refine blk_drewN ?_ _ | refine blk_drew ?_ | refine blk_alloc ?_ _)); refine blk_far ?_ NB227_238.out _; (with_reducible repeat (first | refine blk_drewN ?_ _ | refine blk_drew ?_ | refine blk_alloc ?_ _)); refine blk_far ?_ NB227_238.out _; (with_reducible repeat (first | refine blk_drewN ?_ _ | refine blk_drew ?_ | refine blk_alloc ?_ _)); refine blk_far ?_ NB227_238.out _; (with_reducible repeat (first | refine blk_drewN ?_ _ | refine blk_drew ?_ | refine blk_alloc ?_ _)); exact BK227.out⟩, ⟨by (with_reducible repeat (first | refine blk_drewN ?_ _ | refine blk_drew ?_ | refine blk_alloc ?_ _)); refine blk_put (cs := #[.string t231, .slice Ao25 t232.length co25, .slice Ao26 t235.length co26]) ?_ 2 _ rfl; (with_reducible repeat (first | refine blk_drewN ?_ _ | refine blk_drew ?_ | refine blk_alloc ?_ _)); refine blk_put (cs := #[.string t231, .slice Ao25 t232.length co25, .slice none 0 0]) ?_ 2 _ rfl; (with_reducible repeat (first | refine blk_drewN ?_ _ | refine blk_drew ?_ | refine blk_alloc ?_ _)); refine blk_put (cs := #[.string t231, .slice none 0 0, .slice none 0 0]) ?_ 1 _ rfl; (with_reducible repeat (first | refine blk_drewN ?_ _ | refine blk_drew ?_ | refine blk_alloc ?_ _)); refine blk_put (cs := #[.string (⟨#[]⟩ : ByteArray), .slice none 0 0, .slice none 0 0]) ?_ 0 _ rfl; (with_reducible repeat (first | refine blk_drewN ?_ _ | refine blk_drew ?_ | refine blk_alloc ?_ _)); exact BK238.out⟩, ⟨by repeat (first | (with_reducible first | exact HB.out | apply below_alloc | apply pw_below_drewN | apply below_drew1 | refine below_set ?_ GE227.out | refine below_set ?_ GE238.out) | exact HB.out)⟩⟩
                · rw [if_neg c44] at H
                  have c44b0 : (t239 == 3) = false := beq_eq_false_iff_ne.mpr c44
                  have c44b1 : (t239 != 3) = true := bne_iff_ne.mpr c44
                  by_cases c47 : t239 = 4
                  · rw [if_pos c47] at H
                    have c47b0 : (t239 == 4) = true := beq_iff_eq.mpr c47
                    have c47b1 : (t239 != 4) = false := bne_eq_false_iff_eq.mpr c47
                    clear c47
                    by_cases c48 : t235.length < 3518437208883
                    · rw [if_pos c48] at H
                      have LMc48 := Aside0.mk c48
                      clear c48
                      obtain ⟨y246, hy246⟩ : ∃ y_ : List (S45), y_ = (t235 ++ [(⟨(⟨#[]⟩ : ByteArray), 2, (⟨#[]⟩ : ByteArray)⟩ : S45)]) := ⟨_, rfl⟩
                      replace H : (hogsheadlaw7_ItemEdges.j2 kj2 a0_0 l0_1 l0_2 t231 t232 y246) = some true := by first | (rw [hy246]; with_reducible exact H) | (have H2_ := (Option.bind_some _ _).symm.trans H; rw [hy246]; with_reducible exact H2_) | (have H2_ := (Option.bind_some _ _).symm.trans H; with_reducible exact H2_) | with_reducible exact H | (rw [hy246]; exact H) | exact H
                      have Ny246 := Aside0.mk hy246
                      clear hy246
                      have H' := Aside0.mk H
                      clear H
                      have hnb49 := NB238_227.out
                      have hnc49 := NB227_238.out
                      have hcz50_0 : w22.cell? ⟨gb238, 0, none⟩ = some (.string (⟨#[]⟩ : ByteArray)) := (blk_cell BK238.out 0).trans rfl
                      have hcz50_1 : w22.cell? ⟨gb238, 1, none⟩ = some (.slice none 0 0) := (blk_cell BK238.out 1).trans rfl
                      have hcz50_2 : w22.cell? ⟨gb238, 2, none⟩ = some (.slice none 0 0) := (blk_cell BK238.out 2).trans rfl
                      have hfz50_0 := blk_frozen BK238.out 0
                      have hfz50_1 := blk_frozen BK238.out 1
                      have hfz50_2 := blk_frozen BK238.out 2
                      go_wp2_with (first | ((with_reducible refine gate_builtin (b := .append) (xs := #[.tmp 62, .tmp 64]) rfl ?_); at_builtin; refine Kd.R_append k45 (w0 := w) w.heap.size rfl (.tmp 62) (.tmp 64) 32 45 (.agg #[(.string ⟨#[]⟩), (.int .i64 0), (.string ⟨#[]⟩)]) 40 rfl Tryd.underlying32 info45 rfl (by decide) (by omega) (.slice Ao26 t235.length co26) t235 (⟨(⟨#[]⟩ : ByteArray), 2, (⟨#[]⟩ : ByteArray)⟩ : S45) [.string (⟨#[]⟩ : ByteArray), .int .i64 2, .string (⟨#[]⟩ : ByteArray)] (fun _ => True) (fun _ => False) rfl (by first | (go_simp; done) | (go_simp; rfl)) ?aP (fun _ hk => hk.elim) ?aF ?aO ?aB ?aS ?aL ?_; (case aP => exact k45_mkM _ _ _ (⟨(⟨#[]⟩ : ByteArray), 2, (⟨#[]⟩ : ByteArray)⟩ : S45)); (case aB => exact (by repeat (first | (with_reducible first | exact HB.out | apply below_alloc | apply pw_below_drewN | apply below_drew1 | refine below_set ?_ GE227.out | refine below_set ?_ GE238.out) | exact HB.out))); (case aF => exact (fun _ _ => trivial)); (case aO => exact (by (with_reducible repeat (first | apply Kd.R_alloc | apply Kd.R_drewN | apply Kd.R_drew)); exact Kd.R_mono (Kd.R_far (p := ⟨gb238, 2, none⟩) (Kd.R_far (p := ⟨gb238, 1, none⟩) (Kd.R_far (p := ⟨gb238, 0, none⟩) (Kd.R_types HO237.out BK238.out (by decide)) (fun _ hk => hk.2) (.string t231)) (fun _ hk => hk.2) (.slice Ao25 t232.length co25)) (fun _ hk => hk.2) (.slice Ao26 t235.length co26)) (fun _ hk => trivial))); (case aS => exact (below_size (by repeat (first | (with_reducible first | exact HB.out | apply below_alloc | apply pw_below_drewN | apply below_drew1 | refine below_set ?_ GE227.out | refine below_set ?_ GE238.out) | exact HB.out)))); (case aL => have := LMc48.out; omega); intro v247 w51 ho hb hg hat; rw [← Ny246.out] at ho; have n0_ := Aside0.mk (blk_grown (g := gb227) (o := .cells #[.string a0_0, .slice A0_1 l0_1.length c0_1, .slice A0_2 l0_2.length c0_2] 34 (0, 0)) (by (with_reducible repeat (first | refine blk_drewN ?_ _ | refine blk_drew ?_ | refine blk_alloc ?_ _)); refine blk_far ?_ NB227_238.out _; (with_reducible repeat (first | refine blk_drewN ?_ _ | refine blk_drew ?_ | refine blk_alloc ?_ _)); refine blk_far ?_ NB227_238.out _; (with_reducible repeat (first | refine blk_drewN ?_ _ | refine blk_drew ?_ | refine blk_alloc ?_ _)); refine blk_far ?_ NB227_238.out _; (with_reducible repeat (first | refine blk_drewN ?_ _ | refine blk_drew ?_ | refine blk_alloc ?_ _)); exact BK227.out) hg (Kd.R_ne HO237.out BK227.out (by decide))); have n1_ := Aside0.mk (Kd.R_over' (by (with_reducible repeat (first | apply Kd.R_alloc | apply Kd.R_drewN | apply Kd.R_drew)); exact (Kd.R_mono (Kd.R_far (p := ⟨gb238, 2, none⟩) (Kd.R_far (p := ⟨gb238, 1, none⟩) (Kd.R_far (p := ⟨gb238, 0, none⟩) (Kd.R_types HO234.out BK238.out (by decide)) (fun _ hk => hk.2) (.string t231)) (fun _ hk => hk.2) (.slice Ao25 t232.length co25)) (fun _ hk => hk.2) (.slice Ao26 t235.length co26)) (fun _ h_ => h_.1))) (Kd.R_typed (by (with_reducible repeat (first | apply Kd.R_alloc | apply Kd.R_drewN | apply Kd.R_drew)); exact (Kd.R_mono (Kd.R_far (p := ⟨gb238, 2, none⟩) (Kd.R_far (p := ⟨gb238, 1, none⟩) (Kd.R_far (p := ⟨gb238, 0, none⟩) (Kd.R_types HO237.out BK238.out (by decide)) (fun _ hk => hk.2) (.string t231)) (fun _ hk => hk.2) (.slice Ao25 t232.length co25)) (fun _ hk => hk.2) (.slice Ao26 t235.length co26)) (fun _ h_ => h_.1)))) (by decide) hg); have n2_ := Aside0.mk (blk_grown (g := gb238) (o := .cells #[.string t231, .slice Ao25 t232.length co25, .slice Ao26 t235.length co26] 34 (0, 0)) (by (with_reducible repeat (first | refine blk_drewN ?_ _ | refine blk_drew ?_ | refine blk_alloc ?_ _)); refine blk_put (cs := #[.string t231, .slice Ao25 t232.length co25, .slice none 0 0]) ?_ 2 _ rfl; (with_reducible repeat (first | refine blk_drewN ?_ _ | refine blk_drew ?_ | refine blk_alloc ?_ _)); refine blk_put (cs := #[.string t231, .slice none 0 0, .slice none 0 0]) ?_ 1 _ rfl; (with_reducible repeat (first | refine blk_drewN ?_ _ | refine blk_drew ?_ | refine blk_alloc ?_ _)); refine blk_put (cs := #[.string (⟨#[]⟩ : ByteArray), .slice none 0 0, .slice none 0 0]) ?_ 0 _ rfl; (with_reducible repeat (first | refine blk_drewN ?_ _ | refine blk_drew ?_ | refine blk_alloc ?_ _)); exact BK238.out) hg (Kd.R_ne HO237.out BK238.out (by decide))); have n3_ := Aside0.mk (hb); have n4_ := Aside0.mk (ho); clear BK227; clear HO234; clear BK238; clear HB; clear HO237; have BK227 := n0_; have HO234 := n1_; have BK238 := n2_; have HB := n3_; have HO248 := n4_; clear n0_ n1_ n2_ n3_ n4_; clear ho hb hg hat; obtain ⟨Ao52, co52, eo52⟩ := Kd.R_slice HO248.out; subst eo52; have hcz53_0 : w51.cell? ⟨gb238, 0, none⟩ = some (.string t231) := (blk_cell BK238.out 0).trans rfl; have hcz53_1 : w51.cell? ⟨gb238, 1, none⟩ = some (.slice Ao25 t232.length co25) := (blk_cell BK238.out 1).trans rfl; have hcz53_2 : w51.cell? ⟨gb238, 2, none⟩ = some (.slice Ao26 t235.length co26) := (blk_cell BK238.out 2).trans rfl; have hfz53_0 := blk_frozen BK238.out 0; have hfz53_1 := blk_frozen BK238.out 1; have hfz53_2 := blk_frozen BK238.out 2))
                      go_meet
                      case rel => exact ⟨_, (t231), (t232), (y246), (.slice Ao25 t232.length co25), (.slice Ao52 y246.length co52), H', ⟨by have := HJ2.out; first | omega | exact Nat.le_refl _⟩, ⟨by (with_reducible repeat (first | apply Kd.R_alloc | apply Kd.R_drewN | apply Kd.R_drew)); exact Kd.R_mono (Kd.R_far (p := ⟨gb238, 2, none⟩) (Kd.R_types HO234.out BK238.out (by decide)) (fun _ hk => hk.2) (.slice Ao52 y246.length co52)) (fun _ hk => trivial)⟩, ⟨by (with_reducible repeat (first | apply Kd.R_alloc | apply Kd.R_drewN | apply Kd.R_drew)); exact Kd.R_mono (Kd.R_far (p := ⟨gb238, 2, none⟩) (Kd.R_types HO248.out BK238.out (by decide)) (fun _ hk => hk.2) (.slice Ao52 y246.length co52)) (fun _ hk => trivial)⟩, ⟨by (with_reducible repeat (first | refine blk_drewN ?_ _ | refine blk_drew ?_ | refine blk_alloc ?_ _)); refine blk_far ?_ NB227_238.out _; (with_reducible repeat (first | refine blk_drewN ?_ _ | refine blk_drew ?_ | refine blk_alloc ?_ _)); exact BK227.out⟩, ⟨by (with_reducible repeat (first | refine blk_drewN ?_ _ | refine blk_drew ?_ | refine blk_alloc ?_ _)); refine blk_put (cs := #[.string t231, .slice Ao25 t232.length co25, .slice Ao26 t235.length co26]) ?_ 2 _ rfl; (with_reducible repeat (first | refine blk_drewN ?_ _ | refine blk_drew ?_ | refine blk_alloc ?_ _)); exact BK238.out⟩, ⟨by repeat (first | (with_reducible first | exact HB.out | apply below_alloc | apply pw_below_drewN | apply below_drew1 | refine below_set ?_ GE227.out | refine below_set ?_ GE238.out) | exact HB.out)⟩⟩
                    · rw [if_neg c48] at H
                      exact absurd H (by simp)
                  · rw [if_neg c47] at H
                    have c47b0 : (t239 == 4) = false := beq_eq_false_iff_ne.mpr c47
                    have c47b1 : (t239 != 4) = true := bne_iff_ne.mpr c47
                    obtain ⟨y249, hy249⟩ : ∃ y_ : List (S45), y_ = (([(⟨(⟨#[]⟩ : ByteArray), 1, (⟨#[]⟩ : ByteArray)⟩ : S45)] : List (S45))) := ⟨_, rfl⟩
                    replace H : (hogsheadlaw7_ItemEdges.l0 kj2 0 a0_0 l0_1 l0_2 t231 t232 y249) = some true := by first | (rw [hy249]; with_reducible exact H) | (have H2_ := (Option.bind_some _ _).symm.trans H; rw [hy249]; with_reducible exact H2_) | (have H2_ := (Option.bind_some _ _).symm.trans H; with_reducible exact H2_) | with_reducible exact H | (rw [hy249]; exact H) | exact H
                    have Ny249 := Aside0.mk hy249
                    clear hy249
                    have H' := Aside0.mk H
                    clear H
                    go_wp2_with (first | ((with_reducible refine gate_dst (N := 21) rfl ?_); refine Kd.R_lit k45 _ 45 ?hg (N := 21) ?hd (xs := ([(⟨(⟨#[]⟩ : ByteArray), 1, (⟨#[]⟩ : ByteArray)⟩ : S45)] : List (S45))) (inner := [.string (⟨#[]⟩ : ByteArray), .int .i64 1, .string (⟨#[]⟩ : ByteArray)]) (ok := fun _ => True) (okp := fun _ => True) ?hr ?hp (fun _ hk => hk) trivial (Below.refl _ _) (Nat.le_refl _) (by simp) ?_; (case hd => rfl); (case hg => rfl); (case hr => first | (go_simp; done) | (go_simp; rfl)); (case hp => exact (Reps.c3 (show Kd.M k45 _ _ _ (⟨(⟨#[]⟩ : ByteArray), 1, (⟨#[]⟩ : ByteArray)⟩ : S45) [.string (⟨#[]⟩ : ByteArray), .int .i64 1, .string (⟨#[]⟩ : ByteArray)] from (k45_mkM _ _ _ (⟨(⟨#[]⟩ : ByteArray), 1, (⟨#[]⟩ : ByteArray)⟩ : S45) )) (Reps.none _ _))); intro v250 w54 ho55 hb hg_ hnew_; clear hg_ hnew_; (first | rw [← Ny249.out] at ho55 | (simp only [Int.reduceToNat] at ho55; rw [← Ny249.out] at ho55)); have n0_ := Aside0.mk (Kd.R_below (by (with_reducible repeat (first | apply Kd.R_alloc | apply Kd.R_drewN | apply Kd.R_drew)); exact (Kd.R_mono (Kd.R_far (p := ⟨gb238, 2, none⟩) (Kd.R_far (p := ⟨gb238, 1, none⟩) (Kd.R_far (p := ⟨gb238, 0, none⟩) (Kd.R_types HO234.out BK238.out (by decide)) (fun _ hk => hk.2) (.string t231)) (fun _ hk => hk.2) (.slice Ao25 t232.length co25)) (fun _ hk => hk.2) (.slice Ao26 t235.length co26)) (fun _ h_ => h_.1))) hb); have n1_ := Aside0.mk (Kd.R_elder' (by (with_reducible repeat (first | apply Kd.R_alloc | apply Kd.R_drewN | apply Kd.R_drew)); exact (Kd.R_mono (Kd.R_far (p := ⟨gb238, 2, none⟩) (Kd.R_far (p := ⟨gb238, 1, none⟩) (Kd.R_far (p := ⟨gb238, 0, none⟩) (Kd.R_types HO237.out BK238.out (by decide)) (fun _ hk => hk.2) (.string t231)) (fun _ hk => hk.2) (.slice Ao25 t232.length co25)) (fun _ hk => hk.2) (.slice Ao26 t235.length co26)) (fun _ h_ => h_.1))) (Kd.R_base ho55) hb); have n2_ := Aside0.mk (Kd.R_lower (Kd.R_new' ho55 (Kd.R_lt (by (with_reducible repeat (first | apply Kd.R_alloc | apply Kd.R_drewN | apply Kd.R_drew)); exact (Kd.R_mono (Kd.R_far (p := ⟨gb238, 2, none⟩) (Kd.R_far (p := ⟨gb238, 1, none⟩) (Kd.R_far (p := ⟨gb238, 0, none⟩) (Kd.R_types HO237.out BK238.out (by decide)) (fun _ hk => hk.2) (.string t231)) (fun _ hk => hk.2) (.slice Ao25 t232.length co25)) (fun _ hk => hk.2) (.slice Ao26 t235.length co26)) (fun _ h_ => h_.1))))) (below_size (by repeat (first | (with_reducible first | exact HB.out | apply below_alloc | apply pw_below_drewN | apply below_drew1 | refine below_set ?_ GE227.out | refine below_set ?_ GE238.out) | exact HB.out)))); have n3_ := Aside0.mk (blk_below (g := gb227) (o := .cells #[.string a0_0, .slice A0_1 l0_1.length c0_1, .slice A0_2 l0_2.length c0_2] 34 (0, 0)) (by (with_reducible repeat (first | refine blk_drewN ?_ _ | refine blk_drew ?_ | refine blk_alloc ?_ _)); refine blk_far ?_ NB227_238.out _; (with_reducible repeat (first | refine blk_drewN ?_ _ | refine blk_drew ?_ | refine blk_alloc ?_ _)); refine blk_far ?_ NB227_238.out _; (with_reducible repeat (first | refine blk_drewN ?_ _ | refine blk_drew ?_ | refine blk_alloc ?_ _)); refine blk_far ?_ NB227_238.out _; (with_reducible repeat (first | refine blk_drewN ?_ _ | refine blk_drew ?_ | refine blk_alloc ?_ _)); exact BK227.out) hb); have n4_ := Aside0.mk (blk_below (g := gb238) (o := .cells #[.string t231, .slice Ao25 t232.length co25, .slice Ao26 t235.length co26] 34 (0, 0)) (by (with_reducible repeat (first | refine blk_drewN ?_ _ | refine blk_drew ?_ | refine blk_alloc ?_ _)); refine blk_put (cs := #[.string t231, .slice Ao25 t232.length co25, .slice none 0 0]) ?_ 2 _ rfl; (with_reducible repeat (first | refine blk_drewN ?_ _ | refine blk_drew ?_ | refine blk_alloc ?_ _)); refine blk_put (cs := #[.string t231, .slice none 0 0, .slice none 0 0]) ?_ 1 _ rfl; (with_reducible repeat (first | refine blk_drewN ?_ _ | refine blk_drew ?_ | refine blk_alloc ?_ _)); refine blk_put (cs := #[.string (⟨#[]⟩ : ByteArray), .slice none 0 0, .slice none 0 0]) ?_ 0 _ rfl; (with_reducible repeat (first | refine blk_drewN ?_ _ | refine blk_drew ?_ | refine blk_alloc ?_ _)); exact BK238.out) hb); have n5_ := Aside0.mk (below_step (by repeat (first | (with_reducible first | exact HB.out | apply below_alloc | apply pw_below_drewN | apply below_drew1 | refine below_set ?_ GE227.out | refine below_set ?_ GE238.out) | exact HB.out)) hb); clear HO234; clear HO237; clear BK227; clear BK238; clear HB; have HO234 := n0_; have HO237 := n1_; have HO251 := n2_; have BK227 := n3_; have BK238 := n4_; have HB := n5_; clear n0_ n1_ n2_ n3_ n4_ n5_; clear hb ho55; obtain ⟨Ao56, co56, eo56⟩ := Kd.R_slice HO251.out; subst eo56; have hnb57 := NB238_227.out; have hnc57 := NB227_238.out; have hcz58_0 : w54.cell? ⟨gb238, 0, none⟩ = some (.string t231) := (blk_cell BK238.out 0).trans rfl; have hcz58_1 : w54.cell? ⟨gb238, 1, none⟩ = some (.slice Ao25 t232.length co25) := (blk_cell BK238.out 1).trans rfl; have hcz58_2 : w54.cell? ⟨gb238, 2, none⟩ = some (.slice Ao26 t235.length co26) := (blk_cell BK238.out 2).trans rfl; have hfz58_0 := blk_frozen BK238.out 0; have hfz58_1 := blk_frozen BK238.out 1; have hfz58_2 := blk_frozen BK238.out 2))
                    go_loopg [6] kj2 (fun kq v6 w' => ∃ (x6_2 : Int) (x239002_2 : List (S45)) (u239002 : Value), v6 = .int .i64 x6_2 ∧ Aside0 (hogsheadlaw7_ItemEdges.l0 kq x6_2 a0_0 l0_1 l0_2 t231 t232 x239002_2 = some true) ∧ Aside0 (kq ≤ kj2) ∧ Aside0 (Kd.R Kd.string 9 w' w.heap.size (fun _ => True) (.slice Ao25 t232.length co25) t232) ∧ Aside0 (Kd.R k45 45 w' w.heap.size (fun _ => True) u239002 x239002_2) ∧ Aside0 (w'.heap[gb227]? = some (.cells #[.string a0_0, (.slice A0_1 l0_1.length c0_1), (.slice A0_2 l0_2.length c0_2)] 34 (0, 0))) ∧ Aside0 (w'.heap[gb238]? = some (.cells #[.string t231, (.slice Ao25 t232.length co25), u239002] 34 (0, 0))) ∧ Aside0 (Below w.heap.size w w'))
                    case atStart => exact ⟨(0), (y249), (.slice Ao56 y249.length co56), (by first | rfl | (simp; done) | (simp [*]; done)), H', ⟨Nat.le_refl _⟩, ⟨by (with_reducible repeat (first | apply Kd.R_alloc | apply Kd.R_drewN | apply Kd.R_drew)); exact Kd.R_mono (Kd.R_far (p := ⟨gb238, 2, none⟩) (Kd.R_types HO234.out BK238.out (by decide)) (fun _ hk => hk.2) (.slice Ao56 y249.length co56)) (fun _ hk => trivial)⟩, ⟨by (with_reducible repeat (first | apply Kd.R_alloc | apply Kd.R_drewN | apply Kd.R_drew)); exact Kd.R_mono (Kd.R_far (p := ⟨gb238, 2, none⟩) (Kd.R_types HO251.out BK238.out (by decide)) (fun _ hk => hk.2) (.slice Ao56 y249.length co56)) (fun _ hk => trivial)⟩, ⟨by (with_reducible repeat (first | refine blk_drewN ?_ _ | refine blk_drew ?_ | refine blk_alloc ?_ _)); refine blk_far ?_ NB227_238.out _; (with_reducible repeat (first | refine blk_drewN ?_ _ | refine blk_drew ?_ | refine blk_alloc ?_ _)); exact BK227.out⟩, ⟨by (with_reducible repeat (first | refine blk_drewN ?_ _ | refine blk_drew ?_ | refine blk_alloc ?_ _)); refine blk_put (cs := #[.string t231, .slice Ao25 t232.length co25, .slice Ao26 t235.length co26]) ?_ 2 _ rfl; (with_reducible repeat (first | refine blk_drewN ?_ _ | refine blk_drew ?_ | refine blk_alloc ?_ _)); exact BK238.out⟩, ⟨by repeat (first | (with_reducible first | exact HB.out | apply below_alloc | apply pw_below_drewN | apply below_drew1 | refine below_set ?_ GE227.out | refine below_set ?_ GE238.out) | exact HB.out)⟩⟩
                    case round =>
                      clear H'
                      try clear c1
                      try clear c2
                      try clear p2
                      try clear c3
                      try clear c4
                      try clear c5
                      try clear c6
                      try clear c7
                      try clear c8
                      try clear c12
                      try clear c14
                      try clear c23
                      try clear c27
                      try clear c27b0
                      try clear c27b1
                      try clear c28
                      try clear c28b0
                      try clear c28b1
                      try clear c28b2
                      try clear c29
                      try clear c31
                      try clear c31b0
                      try clear c31b1
                      try clear c32
                      try clear c38
                      try clear c38b0
                      try clear c38b1
                      try clear c42
                      try clear c44
                      try clear c44b0
                      try clear c44b1
                      try clear c45
                      try clear c47
                      try clear c47b0
                      try clear c47b1
                      try clear c48
                      try clear c49
                      try clear c57
                      try clear hcz10_0
                      try clear hcz10_1
                      try clear hcz10_2
                      try clear hcz12_0
                      try clear hcz12_1
                      try clear hcz12_2
                      try clear hcz20_0
                      try clear hcz20_1
                      try clear hcz20_2
                      try clear hcz24_0
                      try clear hcz24_1
                      try clear hcz24_2
                      try clear hcz30_0
                      try clear hcz30_1
                      try clear hcz30_2
                      try clear hcz33_0
                      try clear hcz33_1
                      try clear hcz33_2
                      try clear hcz37_0
                      try clear hcz37_1
                      try clear hcz37_2
                      try clear hcz43_0
                      try clear hcz43_1
                      try clear hcz43_2
                      try clear hcz46_0
                      try clear hcz46_1
                      try clear hcz46_2
                      try clear hcz50_0
                      try clear hcz50_1
                      try clear hcz50_2
                      try clear hcz53_0
                      try clear hcz53_1
                      try clear hcz53_2
                      try clear hcz58_0
                      try clear hcz58_1
                      try clear hcz58_2
                      try clear hcz7_0
                      try clear hcz7_1
                      try clear hcz7_2
                      try clear hfz10_0
                      try clear hfz10_1
                      try clear hfz10_2
                      try clear hfz12_0
                      try clear hfz12_1
                      try clear hfz12_2
                      try clear hfz20_0
                      try clear hfz20_1
                      try clear hfz20_2
                      try clear hfz24_0
                      try clear hfz24_1
                      try clear hfz24_2
                      try clear hfz30_0
                      try clear hfz30_1
                      try clear hfz30_2
                      try clear hfz33_0
                      try clear hfz33_1
                      try clear hfz33_2
                      try clear hfz37_0
                      try clear hfz37_1
                      try clear hfz37_2
                      try clear hfz43_0
                      try clear hfz43_1
                      try clear hfz43_2
                      try clear hfz46_0
                      try clear hfz46_1
                      try clear hfz46_2
                      try clear hfz50_0
                      try clear hfz50_1
                      try clear hfz50_2
                      try clear hfz53_0
                      try clear hfz53_1
                      try clear hfz53_2
                      try clear hfz58_0
                      try clear hfz58_1
                      try clear hfz58_2
                      try clear hfz7_0
                      try clear hfz7_1
                      try clear hfz7_2
                      try clear p2
                      obtain ⟨x6_2, x239002_2, u239002, rfl, HA, HK2, HO_239001, HO_239002, BK227, BK238, HB⟩ := hrel
                      cases gk with
                      | zero => exact absurd HA.out (by simp [hogsheadlaw7_ItemEdges.l0])
                      | succ k2 =>
                        have H := HA.out
                        clear HA
                        simp only [hogsheadlaw7_ItemEdges.l0] at H
                        by_cases c59 : x6_2 < 24
                        · rw [if_pos c59] at H
                          have c59b0 : decide (x6_2 < 24) = true := decide_eq_true c59
                          clear c59
                          obtain ⟨y252, hy252⟩ : ∃ y_ : List Int, y_ = (([(wrap64 (97 + x6_2)) % 256] : List Int)) := ⟨_, rfl⟩
                          replace H : (if x239002_2.length < 3518437208883 then (hogsheadlaw7_ItemEdges.l0 k2 (wrap64 (x6_2 + 1)) a0_0 l0_1 l0_2 t231 t232 (x239002_2 ++ [(⟨strOfNums y252, 2, (⟨#[]⟩ : ByteArray)⟩ : S45)])) else (none)) = some true := by first | (rw [hy252]; with_reducible exact H) | (have H2_ := (Option.bind_some _ _).symm.trans H; rw [hy252]; with_reducible exact H2_) | (have H2_ := (Option.bind_some _ _).symm.trans H; with_reducible exact H2_) | with_reducible exact H | (rw [hy252]; exact H) | exact H
                          have Ny252 := Aside0.mk hy252
                          clear hy252
                          by_cases c60 : x239002_2.length < 3518437208883
                          · rw [if_pos c60] at H
                            have LMc60 := Aside0.mk c60
                            clear c60
                            obtain ⟨y255, hy255⟩ : ∃ y_ : List (S45), y_ = (x239002_2 ++ [(⟨strOfNums y252, 2, (⟨#[]⟩ : ByteArray)⟩ : S45)]) := ⟨_, rfl⟩
                            replace H : (hogsheadlaw7_ItemEdges.l0 k2 (wrap64 (x6_2 + 1)) a0_0 l0_1 l0_2 t231 t232 y255) = some true := by first | (rw [hy255]; with_reducible exact H) | (have H2_ := (Option.bind_some _ _).symm.trans H; rw [hy255]; with_reducible exact H2_) | (have H2_ := (Option.bind_some _ _).symm.trans H; with_reducible exact H2_) | with_reducible exact H | (rw [hy255]; exact H) | exact H
                            have Ny255 := Aside0.mk hy255
                            clear hy255
                            have H' := Aside0.mk H
                            clear H
                            have hnb61 := NB238_227.out
                            have hnc61 := NB227_238.out
                            have hcz62_0 : wr.cell? ⟨gb238, 0, none⟩ = some (.string t231) := (blk_cell BK238.out 0).trans rfl
                            have hcz62_1 : wr.cell? ⟨gb238, 1, none⟩ = some (.slice Ao25 t232.length co25) := (blk_cell BK238.out 1).trans rfl
                            have hcz62_2 : wr.cell? ⟨gb238, 2, none⟩ = some (u239002) := (blk_cell BK238.out 2).trans rfl
                            have hfz62_0 := blk_frozen BK238.out 0
                            have hfz62_1 := blk_frozen BK238.out 1
                            have hfz62_2 := blk_frozen BK238.out 2
                            go_wp2_with (first | ((with_reducible refine gate_dst (N := 32) rfl ?_); refine Kd.R_lit (Kd.int .u8) _ 5 ?hg (N := 32) ?hd (xs := ([(wrap64 (97 + x6_2)) % 256] : List Int)) (inner := [.int .u8 ((wrap64 (97 + x6_2)) % 256)]) (ok := fun _ => True) (okp := fun _ => True) ?hr ?hp (fun _ hk => hk) trivial (Below.refl _ _) (Nat.le_refl _) (by simp) ?_; (case hd => rfl); (case hg => rfl); (case hr => first | (go_simp; done) | (go_simp; rfl)); (case hp => exact (Reps.one (show Kd.M (Kd.int .u8) _ _ _ ((wrap64 (97 + x6_2)) % 256) [.int .u8 ((wrap64 (97 + x6_2)) % 256)] from rfl) (Reps.none _ _))); intro v253 w63 ho64 hb hg_ hnew_; clear hg_ hnew_; (first | rw [← Ny252.out] at ho64 | (simp only [Int.reduceToNat] at ho64; rw [← Ny252.out] at ho64)); have n0_ := Aside0.mk (Kd.R_below (by (with_reducible repeat (first | apply Kd.R_alloc | apply Kd.R_drewN | apply Kd.R_drew)); exact HO_239001.out) hb); have n1_ := Aside0.mk (Kd.R_below (by (with_reducible repeat (first | apply Kd.R_alloc | apply Kd.R_drewN | apply Kd.R_drew)); exact HO_239002.out) hb); have n2_ := Aside0.mk (Kd.R_lower ho64 (below_size (by repeat (first | (with_reducible first | exact HB.out | apply below_alloc | apply pw_below_drewN | apply below_drew1 | refine below_set ?_ GE227.out | refine below_set ?_ GE238.out) | exact HB.out)))); have n3_ := Aside0.mk (blk_below (g := gb227) (o := .cells #[.string a0_0, .slice A0_1 l0_1.length c0_1, .slice A0_2 l0_2.length c0_2] 34 (0, 0)) (by (with_reducible repeat (first | refine blk_drewN ?_ _ | refine blk_drew ?_ | refine blk_alloc ?_ _)); exact BK227.out) hb); have n4_ := Aside0.mk (blk_below (g := gb238) (o := .cells #[.string t231, .slice Ao25 t232.length co25, u239002] 34 (0, 0)) (by (with_reducible repeat (first | refine blk_drewN ?_ _ | refine blk_drew ?_ | refine blk_alloc ?_ _)); exact BK238.out) hb); have n5_ := Aside0.mk (below_step (by repeat (first | (with_reducible first | exact HB.out | apply below_alloc | apply pw_below_drewN | apply below_drew1 | refine below_set ?_ GE227.out | refine below_set ?_ GE238.out) | exact HB.out)) hb); clear HO_239001; clear HO_239002; clear BK227; clear BK238; clear HB; have HO_239001 := n0_; have HO_239002 := n1_; have HO254 := n2_; have BK227 := n3_; have BK238 := n4_; have HB := n5_; clear n0_ n1_ n2_ n3_ n4_ n5_; clear hb ho64; have hcv65 := own_string (P := Tryd.prog) Tryd.underlying25 Tryd.underlying5 Tryd.underlying9 (Kd.own_of_R HO254.out)) | ((with_reducible refine gate_builtin (b := .append) (xs := #[.tmp 28, .tmp 35]) rfl ?_); at_builtin; refine Kd.R_append k45 (w0 := w) w.heap.size rfl (.tmp 28) (.tmp 35) 32 45 (.agg #[(.string ⟨#[]⟩), (.int .i64 0), (.string ⟨#[]⟩)]) 40 rfl Tryd.underlying32 info45 rfl (by decide) (by omega) u239002 x239002_2 (⟨strOfNums y252, 2, (⟨#[]⟩ : ByteArray)⟩ : S45) [.string (strOfNums y252), .int .i64 2, .string (⟨#[]⟩ : ByteArray)] (fun _ => True) (fun _ => False) rfl rfl ?aP (fun _ hk => hk.elim) ?aF ?aO ?aB ?aS ?aL ?_; (case aP => exact k45_mkM _ _ _ (⟨strOfNums y252, 2, (⟨#[]⟩ : ByteArray)⟩ : S45)); (case aB => exact (by repeat (first | (with_reducible first | exact HB.out | apply below_alloc | apply pw_below_drewN | apply below_drew1 | refine below_set ?_ GE227.out | refine below_set ?_ GE238.out) | exact HB.out))); (case aF => exact (fun _ _ => trivial)); (case aO => exact (by (with_reducible repeat (first | apply Kd.R_alloc | apply Kd.R_drewN | apply Kd.R_drew)); exact HO_239002.out)); (case aS => exact (below_size (by repeat (first | (with_reducible first | exact HB.out | apply below_alloc | apply pw_below_drewN | apply below_drew1 | refine below_set ?_ GE227.out | refine below_set ?_ GE238.out) | exact HB.out)))); (case aL => have := LMc60.out; omega); intro v256 w66 ho hb hg hat; rw [← Ny255.out] at ho; have n0_ := Aside0.mk (Kd.R_over' (by (with_reducible repeat (first | apply Kd.R_alloc | apply Kd.R_drewN | apply Kd.R_drew)); exact HO_239001.out) (Kd.R_typed (by (with_reducible repeat (first | apply Kd.R_alloc | apply Kd.R_drewN | apply Kd.R_drew)); exact HO_239002.out)) (by decide) hg); have n1_ := Aside0.mk (blk_grown (g := gb227) (o := .cells #[.string a0_0, .slice A0_1 l0_1.length c0_1, .slice A0_2 l0_2.length c0_2] 34 (0, 0)) (by (with_reducible repeat (first | refine blk_drewN ?_ _ | refine blk_drew ?_ | refine blk_alloc ?_ _)); exact BK227.out) hg (Kd.R_ne HO_239002.out BK227.out (by decide))); have n2_ := Aside0.mk (blk_grown (g := gb238) (o := .cells #[.string t231, .slice Ao25 t232.length co25, u239002] 34 (0, 0)) (by (with_reducible repeat (first | refine blk_drewN ?_ _ | refine blk_drew ?_ | refine blk_alloc ?_ _)); exact BK238.out) hg (Kd.R_ne HO_239002.out BK238.out (by decide))); have n3_ := Aside0.mk (Kd.R_over' (by (with_reducible repeat (first | apply Kd.R_alloc | apply Kd.R_drewN | apply Kd.R_drew)); exact HO254.out) (Kd.R_typed (by (with_reducible repeat (first | apply Kd.R_alloc | apply Kd.R_drewN | apply Kd.R_drew)); exact HO_239002.out)) (by decide) hg); have n4_ := Aside0.mk (hb); have n5_ := Aside0.mk (ho); clear HO_239001; clear BK227; clear BK238; clear HO254; clear HB; clear HO_239002; have HO_239001 := n0_; have BK227 := n1_; have BK238 := n2_; have HO254 := n3_; have HB := n4_; have HO257 := n5_; clear n0_ n1_ n2_ n3_ n4_ n5_; clear ho hb hg hat; obtain ⟨Ao67, co67, eo67⟩ := Kd.R_slice HO257.out; subst eo67; have hcz68_0 : w66.cell? ⟨gb238, 0, none⟩ = some (.string t231) := (blk_cell BK238.out 0).trans rfl; have hcz68_1 : w66.cell? ⟨gb238, 1, none⟩ = some (.slice Ao25 t232.length co25) := (blk_cell BK238.out 1).trans rfl; have hcz68_2 : w66.cell? ⟨gb238, 2, none⟩ = some (u239002) := (blk_cell BK238.out 2).trans rfl; have hfz68_0 := blk_frozen BK238.out 0; have hfz68_1 := blk_frozen BK238.out 1; have hfz68_2 := blk_frozen BK238.out 2))
                            go_roundg k2
                            case measure => have := HJ2.out; have := HK2.out; omega
                            case rel => exact ⟨(wrap64 (x6_2 + 1)), (y255), (.slice Ao67 y255.length co67), (by first | rfl | (simp; done) | (simp [*]; done)), H', ⟨by have := HJ2.out; have := HK2.out; omega⟩, ⟨by (with_reducible repeat (first | apply Kd.R_alloc | apply Kd.R_drewN | apply Kd.R_drew)); exact Kd.R_mono (Kd.R_far (p := ⟨gb238, 2, none⟩) (Kd.R_types HO_239001.out BK238.out (by decide)) (fun _ hk => hk.2) (.slice Ao67 y255.length co67)) (fun _ hk => trivial)⟩, ⟨by (with_reducible repeat (first | apply Kd.R_alloc | apply Kd.R_drewN | apply Kd.R_drew)); exact Kd.R_mono (Kd.R_far (p := ⟨gb238, 2, none⟩) (Kd.R_types HO257.out BK238.out (by decide)) (fun _ hk => hk.2) (.slice Ao67 y255.length co67)) (fun _ hk => trivial)⟩, ⟨by (with_reducible repeat (first | refine blk_drewN ?_ _ | refine blk_drew ?_ | refine blk_alloc ?_ _)); refine blk_far ?_ NB227_238.out _; (with_reducible repeat (first | refine blk_drewN ?_ _ | refine blk_drew ?_ | refine blk_alloc ?_ _)); exact BK227.out⟩, ⟨by (with_reducible repeat (first | refine blk_drewN ?_ _ | refine blk_drew ?_ | refine blk_alloc ?_ _)); refine blk_put (cs := #[.string t231, .slice Ao25 t232.length co25, u239002]) ?_ 2 _ rfl; (with_reducible repeat (first | refine blk_drewN ?_ _ | refine blk_drew ?_ | refine blk_alloc ?_ _)); exact BK238.out⟩, ⟨by repeat (first | (with_reducible first | exact HB.out | apply below_alloc | apply pw_below_drewN | apply below_drew1 | refine below_set ?_ GE227.out | refine below_set ?_ GE238.out) | exact HB.out)⟩⟩
                          · rw [if_neg c60] at H
                            exact absurd H (by simp)
                        · rw [if_neg c59] at H
                          have c59b0 : decide (x6_2 < 24) = false := decide_eq_false c59
                          clear c59
                          have H' := Aside0.mk H
                          clear H
                          go_wp2
                          go_meet
                          case rel => exact ⟨_, (t231), (t232), (x239002_2), (.slice Ao25 t232.length co25), (u239002), H', ⟨by have := HJ2.out; have := HK2.out; first | omega | exact Nat.le_refl _⟩, ⟨by (with_reducible repeat (first | apply Kd.R_alloc | apply Kd.R_drewN | apply Kd.R_drew)); exact HO_239001.out⟩, ⟨by (with_reducible repeat (first | apply Kd.R_alloc | apply Kd.R_drewN | apply Kd.R_drew)); exact HO_239002.out⟩, ⟨by (with_reducible repeat (first | refine blk_drewN ?_ _ | refine blk_drew ?_ | refine blk_alloc ?_ _)); exact BK227.out⟩, ⟨by (with_reducible repeat (first | refine blk_drewN ?_ _ | refine blk_drew ?_ | refine blk_alloc ?_ _)); exact BK238.out⟩, ⟨by repeat (first | (with_reducible first | exact HB.out | apply below_alloc | apply pw_below_drewN | apply below_drew1 | refine below_set ?_ GE227.out | refine below_set ?_ GE238.out) | exact HB.out)⟩⟩
        case rest =>
          clear HC19
          try clear c1
          try clear c2
          try clear p2
          try clear c3
          try clear c4
          try clear c5
          try clear c6
          try clear p6
          try clear hcv6
          try clear c7
          try clear c8
          try clear c12
          try clear c14
          try clear c23
          try clear c27
          try clear c27b0
          try clear c27b1
          try clear c28
          try clear c28b0
          try clear c28b1
          try clear c28b2
          try clear c29
          try clear c31
          try clear c31b0
          try clear c31b1
          try clear c32
          try clear c38
          try clear c38b0
          try clear c38b1
          try clear c42
          try clear c44
          try clear c44b0
          try clear c44b1
          try clear c45
          try clear c47
          try clear c47b0
          try clear c47b1
          try clear c48
          try clear c49
          try clear c57
          try clear c59
          try clear c59b0
          try clear c60
          try clear c61
          try clear p64
          try clear hcv65
          try clear hcz10_0
          try clear hcz10_1
          try clear hcz10_2
          try clear hcz12_0
          try clear hcz12_1
          try clear hcz12_2
          try clear hcz20_0
          try clear hcz20_1
          try clear hcz20_2
          try clear hcz24_0
          try clear hcz24_1
          try clear hcz24_2
          try clear hcz30_0
          try clear hcz30_1
          try clear hcz30_2
          try clear hcz33_0
          try clear hcz33_1
          try clear hcz33_2
          try clear hcz37_0
          try clear hcz37_1
          try clear hcz37_2
          try clear hcz43_0
          try clear hcz43_1
          try clear hcz43_2
          try clear hcz46_0
          try clear hcz46_1
          try clear hcz46_2
          try clear hcz50_0
          try clear hcz50_1
          try clear hcz50_2
          try clear hcz53_0
          try clear hcz53_1
          try clear hcz53_2
          try clear hcz58_0
          try clear hcz58_1
          try clear hcz58_2
          try clear hcz62_0
          try clear hcz62_1
          try clear hcz62_2
          try clear hcz68_0
          try clear hcz68_1
          try clear hcz68_2
          try clear hcz7_0
          try clear hcz7_1
          try clear hcz7_2
          try clear hfz10_0
          try clear hfz10_1
          try clear hfz10_2
          try clear hfz12_0
          try clear hfz12_1
          try clear hfz12_2
          try clear hfz20_0
          try clear hfz20_1
          try clear hfz20_2
          try clear hfz24_0
          try clear hfz24_1
          try clear hfz24_2
          try clear hfz30_0
          try clear hfz30_1
          try clear hfz30_2
          try clear hfz33_0
          try clear hfz33_1
          try clear hfz33_2
          try clear hfz37_0
          try clear hfz37_1
          try clear hfz37_2
          try clear hfz43_0
          try clear hfz43_1
          try clear hfz43_2
          try clear hfz46_0
          try clear hfz46_1
          try clear hfz46_2
          try clear hfz50_0
          try clear hfz50_1
          try clear hfz50_2
          try clear hfz53_0
          try clear hfz53_1
          try clear hfz53_2
          try clear hfz58_0
          try clear hfz58_1
          try clear hfz58_2
          try clear hfz62_0
          try clear hfz62_1
          try clear hfz62_2
          try clear hfz68_0
          try clear hfz68_1
          try clear hfz68_2
          try clear hfz7_0
          try clear hfz7_1
          try clear hfz7_2
          try clear p2
          obtain ⟨kq, x239000_18, x239001_18, x239002_18, u239001, u239002, HA, HJ18, HO_239001, HO_239002, BK227, BK238, HB⟩ := hcut
          cases kq with
          | zero => exact absurd HA.out (by simp [hogsheadlaw7_ItemEdges.j2])
          | succ kj18 =>
            have H := HA.out
            clear HA
            simp only [hogsheadlaw7_ItemEdges.j2] at H
            replace H := Option.bind_eq_some_iff.mp H
            obtain ⟨t258, A690, H⟩ := H
            replace H : (if t258 = true then (some false) else ((item_Same.f kj18 a0_0 l0_1 l0_2 x239000_18 x239001_18 x239002_18).bind fun t259 => (if t259 = true then (some false) else ((hogsheadlaw7_awake.f kj18).bind fun t260 => (some t260))))) = some true := H
            have A69 := Aside0.mk A690
            clear A690
            by_cases c70 : t258 = true
            · subst c70
              have H1 : (some false) = some true := by rw [if_pos rfl] at H; exact H
              exact absurd H1 (by simp)
            · replace c70 := Bool.eq_false_iff.mpr c70
              subst c70
              have H1 : ((item_Same.f kj18 a0_0 l0_1 l0_2 x239000_18 x239001_18 x239002_18).bind fun t259 => (if t259 = true then (some false) else ((hogsheadlaw7_awake.f kj18).bind fun t260 => (some t260)))) = some true := by rw [if_neg (show ¬ (false = true) by decide)] at H; exact H
              clear H
              have H := H1
              clear H1
              replace H := Option.bind_eq_some_iff.mp H
              obtain ⟨t259, A760, H⟩ := H
              replace H : (if t259 = true then (some false) else ((hogsheadlaw7_awake.f kj18).bind fun t260 => (some t260))) = some true := H
              have A76 := Aside0.mk A760
              clear A760
              by_cases c77 : t259 = true
              · subst c77
                have H1 : (some false) = some true := by rw [if_pos rfl] at H; exact H
                exact absurd H1 (by simp)
              · replace c77 := Bool.eq_false_iff.mpr c77
                subst c77
                have H1 : ((hogsheadlaw7_awake.f kj18).bind fun t260 => (some t260)) = some true := by rw [if_neg (show ¬ (false = true) by decide)] at H; exact H
                clear H
                have H := H1
                clear H1
                replace H := Option.bind_eq_some_iff.mp H
                obtain ⟨t260, A860, H⟩ := H
                replace H : (some t260) = some true := H
                have A86 := Aside0.mk A860
                clear A860
                obtain rfl := Option.some.inj H
                have hnb87 := NB238_227.out
                have hnc87 := NB227_238.out
                have hcz88_0 : wc.cell? ⟨gb238, 0, none⟩ = some (.string x239000_18) := (blk_cell BK238.out 0).trans rfl
                have hcz88_1 : wc.cell? ⟨gb238, 1, none⟩ = some (u239001) := (blk_cell BK238.out 1).trans rfl
                have hcz88_2 : wc.cell? ⟨gb238, 2, none⟩ = some (u239002) := (blk_cell BK238.out 2).trans rfl
                have hfz88_0 := blk_frozen BK238.out 0
                have hfz88_1 := blk_frozen BK238.out 1
                have hfz88_2 := blk_frozen BK238.out 2
                obtain ⟨Ao89, co89, eo89⟩ := Kd.R_slice HO_239001.out
                subst eo89
                obtain ⟨Ao90, co90, eo90⟩ := Kd.R_slice HO_239002.out
                subst eo90
                go_wp2_with (first | ((with_reducible refine gate_callee (f := 18) rfl ?_); refine goesL_ (some 68) rfl rfl Tryd.func18 (by kernel_rfl) rfl #[.agg #[.string x239000_18, .slice Ao89 x239001_18.length co89, .slice Ao90 x239002_18.length co90]] rfl (by (try simp only [List.map_toArray, List.map_cons, List.map_nil]); first | done | rfl | (simp only [List.length_drop, List.length_take]; rfl)) ?_; (with_reducible refine (item_May.calls kj18 x239000_18 _ _ x239001_18 _ _ x239002_18 false _ ?side1 ?side2 ?side3 ?side4 A69.out).mono ?_); (case side1 => repeat (first | exact (Kd.R_reads' HO_239001.out).2.2 | (with_reducible refine Kd.C_alloc ?_ _) | (with_reducible refine Kd.C_drewN ?_ _) | (with_reducible refine Kd.C_drew ?_))); (case side2 => exact (Kd.R_reads' HO_239001.out).2.1); (case side3 => repeat (first | exact (Kd.R_reads' HO_239002.out).2.2 | (with_reducible refine Kd.C_alloc ?_ _) | (with_reducible refine Kd.C_drewN ?_ _) | (with_reducible refine Kd.C_drew ?_))); (case side4 => exact (Kd.R_reads' HO_239002.out).2.1); rintro e w91 ⟨rfl, hb⟩; refine ⟨_, rfl, ?_⟩; have n0_ := Aside0.mk (Kd.R_below (by (with_reducible repeat (first | apply Kd.R_alloc | apply Kd.R_drewN | apply Kd.R_drew)); exact HO_239001.out) hb); have n1_ := Aside0.mk (Kd.R_below (by (with_reducible repeat (first | apply Kd.R_alloc | apply Kd.R_drewN | apply Kd.R_drew)); exact HO_239002.out) hb); have n2_ := Aside0.mk (blk_below (g := gb227) (o := .cells #[.string a0_0, .slice A0_1 l0_1.length c0_1, .slice A0_2 l0_2.length c0_2] 34 (0, 0)) (by (with_reducible repeat (first | refine blk_drewN ?_ _ | refine blk_drew ?_ | refine blk_alloc ?_ _)); exact BK227.out) hb); have n3_ := Aside0.mk (blk_below (g := gb238) (o := .cells #[.string x239000_18, .slice Ao89 x239001_18.length co89, .slice Ao90 x239002_18.length co90] 34 (0, 0)) (by (with_reducible repeat (first | refine blk_drewN ?_ _ | refine blk_drew ?_ | refine blk_alloc ?_ _)); exact BK238.out) hb); have n4_ := Aside0.mk (below_step (by repeat (first | (with_reducible first | exact HB.out | apply below_alloc | apply pw_below_drewN | apply below_drew1 | refine below_set ?_ GE227.out | refine below_set ?_ GE238.out) | exact HB.out)) hb); clear HO_239001; clear HO_239002; clear BK227; clear BK238; clear HB; have HO_239001 := n0_; have HO_239002 := n1_; have BK227 := n2_; have BK238 := n3_; have HB := n4_; clear n0_ n1_ n2_ n3_ n4_; (try clear hb); (try clear hb2); (try clear hk); (try clear hi); have hcz92_0 : w91.cell? ⟨gb227, 0, none⟩ = some (.string a0_0) := (blk_cell BK227.out 0).trans rfl; have hcz92_1 : w91.cell? ⟨gb227, 1, none⟩ = some (.slice A0_1 l0_1.length c0_1) := (blk_cell BK227.out 1).trans rfl; have hcz92_2 : w91.cell? ⟨gb227, 2, none⟩ = some (.slice A0_2 l0_2.length c0_2) := (blk_cell BK227.out 2).trans rfl; have hfz92_0 := blk_frozen BK227.out 0; have hfz92_1 := blk_frozen BK227.out 1; have hfz92_2 := blk_frozen BK227.out 2; have hcz93_0 : w91.cell? ⟨gb238, 0, none⟩ = some (.string x239000_18) := (blk_cell BK238.out 0).trans rfl; have hcz93_1 : w91.cell? ⟨gb238, 1, none⟩ = some (.slice Ao89 x239001_18.length co89) := (blk_cell BK238.out 1).trans rfl; have hcz93_2 : w91.cell? ⟨gb238, 2, none⟩ = some (.slice Ao90 x239002_18.length co90) := (blk_cell BK238.out 2).trans rfl; have hfz93_0 := blk_frozen BK238.out 0; have hfz93_1 := blk_frozen BK238.out 1; have hfz93_2 := blk_frozen BK238.out 2) | (go_at_call 20; (with_reducible refine (item_Same.calls kj18 a0_0 _ _ l0_1 _ _ l0_2 x239000_18 _ _ x239001_18 _ _ x239002_18 false _ ?side1 ?side2 ?side3 ?side4 ?side5 ?side6 ?side7 ?side8 A76.out).mono ?_); (case side1 => repeat (first | exact (Kd.C_below HR0_1.out HB.out) | (with_reducible refine Kd.C_alloc ?_ _) | (with_reducible refine Kd.C_drewN ?_ _) | (with_reducible refine Kd.C_drew ?_))); (case side2 => exact HC0_1.out); (case side3 => repeat (first | exact (Kd.C_below HR0_2.out HB.out) | (with_reducible refine Kd.C_alloc ?_ _) | (with_reducible refine Kd.C_drewN ?_ _) | (with_reducible refine Kd.C_drew ?_))); (case side4 => exact HC0_2.out); (case side5 => repeat (first | exact (Kd.R_reads' HO_239001.out).2.2 | (with_reducible refine Kd.C_alloc ?_ _) | (with_reducible refine Kd.C_drewN ?_ _) | (with_reducible refine Kd.C_drew ?_))); (case side6 => exact (Kd.R_reads' HO_239001.out).2.1); (case side7 => repeat (first | exact (Kd.R_reads' HO_239002.out).2.2 | (with_reducible refine Kd.C_alloc ?_ _) | (with_reducible refine Kd.C_drewN ?_ _) | (with_reducible refine Kd.C_drew ?_))); (case side8 => exact (Kd.R_reads' HO_239002.out).2.1); rintro e w94 ⟨rfl, hb⟩; have n0_ := Aside0.mk (Kd.R_below (by (with_reducible repeat (first | apply Kd.R_alloc | apply Kd.R_drewN | apply Kd.R_drew)); exact HO_239001.out) hb); have n1_ := Aside0.mk (Kd.R_below (by (with_reducible repeat (first | apply Kd.R_alloc | apply Kd.R_drewN | apply Kd.R_drew)); exact HO_239002.out) hb); have n2_ := Aside0.mk (blk_below (g := gb227) (o := .cells #[.string a0_0, .slice A0_1 l0_1.length c0_1, .slice A0_2 l0_2.length c0_2] 34 (0, 0)) (by (with_reducible repeat (first | refine blk_drewN ?_ _ | refine blk_drew ?_ | refine blk_alloc ?_ _)); exact BK227.out) hb); have n3_ := Aside0.mk (blk_below (g := gb238) (o := .cells #[.string x239000_18, .slice Ao89 x239001_18.length co89, .slice Ao90 x239002_18.length co90] 34 (0, 0)) (by (with_reducible repeat (first | refine blk_drewN ?_ _ | refine blk_drew ?_ | refine blk_alloc ?_ _)); exact BK238.out) hb); have n4_ := Aside0.mk (below_step (by repeat (first | (with_reducible first | exact HB.out | apply below_alloc | apply pw_below_drewN | apply below_drew1 | refine below_set ?_ GE227.out | refine below_set ?_ GE238.out) | exact HB.out)) hb); clear HO_239001; clear HO_239002; clear BK227; clear BK238; clear HB; have HO_239001 := n0_; have HO_239002 := n1_; have BK227 := n2_; have BK238 := n3_; have HB := n4_; clear n0_ n1_ n2_ n3_ n4_; (try clear hb); (try clear hb2); (try clear hk); (try clear hi)) | (go_at_call 7; (with_reducible refine (hogsheadlaw7_awake.calls kj18  true _ A86.out).mono ?_); rintro e w95 ⟨rfl, hb⟩; have n0_ := Aside0.mk (Kd.R_below (by (with_reducible repeat (first | apply Kd.R_alloc | apply Kd.R_drewN | apply Kd.R_drew)); exact HO_239001.out) hb); have n1_ := Aside0.mk (Kd.R_below (by (with_reducible repeat (first | apply Kd.R_alloc | apply Kd.R_drewN | apply Kd.R_drew)); exact HO_239002.out) hb); have n2_ := Aside0.mk (blk_below (g := gb227) (o := .cells #[.string a0_0, .slice A0_1 l0_1.length c0_1, .slice A0_2 l0_2.length c0_2] 34 (0, 0)) (by (with_reducible repeat (first | refine blk_drewN ?_ _ | refine blk_drew ?_ | refine blk_alloc ?_ _)); exact BK227.out) hb); have n3_ := Aside0.mk (blk_below (g := gb238) (o := .cells #[.string x239000_18, .slice Ao89 x239001_18.length co89, .slice Ao90 x239002_18.length co90] 34 (0, 0)) (by (with_reducible repeat (first | refine blk_drewN ?_ _ | refine blk_drew ?_ | refine blk_alloc ?_ _)); exact BK238.out) hb); have n4_ := Aside0.mk (below_step (by repeat (first | (with_reducible first | exact HB.out | apply below_alloc | apply pw_below_drewN | apply below_drew1 | refine below_set ?_ GE227.out | refine below_set ?_ GE238.out) | exact HB.out)) hb); clear HO_239001; clear HO_239002; clear BK227; clear BK238; clear HB; have HO_239001 := n0_; have HO_239002 := n1_; have BK227 := n2_; have BK238 := n3_; have HB := n4_; clear n0_ n1_ n2_ n3_ n4_; (try clear hb); (try clear hb2); (try clear hk); (try clear hi)))
                go_ret
                exact ⟨by first | rfl | (simp [errW_none, errW_some] <;> rfl) | (simp [*, errW_none, errW_some] <;> rfl), by repeat (first | (with_reducible first | exact HB.out | apply below_alloc | apply pw_below_drewN | apply below_drew1 | refine below_set ?_ GE227.out | refine below_set ?_ GE238.out) | exact HB.out)⟩

/-- The one plain statement of hogsheadlaw7_ItemEdges. -/
def hogsheadlaw7_ItemEdges.Pure : Prop := ∀ (x0 : S34) (a1 : Int), ((x0.f0.size ≤ maxLen) ∧ (x0.f1.length ≤ maxLen ∧ ∀ y1 ∈ x0.f1, y1.size ≤ maxLen) ∧ (x0.f2.length ≤ maxLen ∧ ∀ y1 ∈ x0.f2, (y1.f0.size ≤ maxLen) ∧ ((Lit.int .i64 y1.f1).wf = true) ∧ (y1.f2.size ≤ maxLen))) → (Lit.int .i64 a1).wf = true → ∃ k, hogsheadlaw7_ItemEdges.f k x0.f0 x0.f1 x0.f2 a1 = some true

end Go.Proofs.YtnbcmmgkdpekjaaDoor.P
