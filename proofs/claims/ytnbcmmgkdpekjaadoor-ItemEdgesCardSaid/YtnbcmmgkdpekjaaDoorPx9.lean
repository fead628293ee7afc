/- Laid by a program of this session (wip/pr), after the printer of the kit: the functions that a statement reaches as plain Lean functions, and that the calls of the machine come to them. No condition. -/
import Derived.Lib.SliceRun
import Derived.Test.YtnbcmmgkdpekjaaDoorPx0
import Derived.Test.YtnbcmmgkdpekjaaDoorPx4
import Derived.Test.YtnbcmmgkdpekjaaDoorPx8
namespace Go.Proofs.YtnbcmmgkdpekjaaDoor.P
open Go.RowKit Go.Proofs.YtnbcmmgkdpekjaaDoorX Go.Proofs.YtnbcmmgkdpekjaaDoorW.PrintWords Go.Proofs.YtnbcmmgkdpekjaaDoorW.PrintLast Go.Proofs.YtnbcmmgkdpekjaaDoorW.PrintMore
attribute [local go_sem] max2_int min2_int max_two min_two max_three min_three max_four min_four   -- for this text's walks alone
set_option linter.unusedVariables false
set_option linter.unusedSimpArgs false

/-! ### hogsheadlaw0_SameTexts: function 23 -/
def hogsheadlaw0_SameTexts.l0 : Nat → List ByteArray → List ByteArray → Int → Option (Bool)
  | 0, _, _, _ => none
  | k + 1, x0, x1, x5 => if x5 < (x0.length : Int) then (if 0 ≤ x5 then (if x5 < (x1.length : Int) then (if (rdOf ByteArray.empty x0 x5).toList = (rdOf ByteArray.empty x1 x5).toList then (hogsheadlaw0_SameTexts.l0 k x0 x1 (wrap64 (x5 + 1))) else (some false)) else (none)) else (none)) else (some true)
def hogsheadlaw0_SameTexts.f (k : Nat) (l0 : List ByteArray) (l1 : List ByteArray) : Option (Bool) := if (l0.length : Int) = (l1.length : Int) then (hogsheadlaw0_SameTexts.l0 k l0 l1 0) else (some false)
theorem hogsheadlaw0_SameTexts.mono_l : ∀ k, (∀ y0 y1 y2, LeO (hogsheadlaw0_SameTexts.l0 k y0 y1 y2) (hogsheadlaw0_SameTexts.l0 (k + 1) y0 y1 y2))
  | 0 => fun _ _ _ r h => by simp [hogsheadlaw0_SameTexts.l0] at h
  | k + 1 => by
    have ih0 := hogsheadlaw0_SameTexts.mono_l k
    · intro y0 y1 y2
      unfold hogsheadlaw0_SameTexts.l0
      repeat' first
      | (with_reducible exact ih0 _ _ _)
      | (with_reducible exact LeO.refl _)
      | (with_reducible exact LeO.none _)
      | (with_reducible refine LeO.ite ?_ ?_)
      | (with_reducible refine LeO.bind ?_ (fun _ => ?_))
      | exact ih0 _ _ _
      | exact LeO.none _
      | refine LeO.ite ?_ ?_
      | refine LeO.bind ?_ (fun _ => ?_)
theorem hogsheadlaw0_SameTexts.mono : ∀ a0 a1 k, LeO (hogsheadlaw0_SameTexts.f k a0 a1) (hogsheadlaw0_SameTexts.f (k + 1) a0 a1) := by
  intro a0 a1 k
  have ih0 := hogsheadlaw0_SameTexts.mono_l k
  unfold hogsheadlaw0_SameTexts.f
  repeat' first
      | (with_reducible exact ih0 _ _ _)
      | (with_reducible exact LeO.refl _)
      | (with_reducible exact LeO.none _)
      | (with_reducible refine LeO.ite ?_ ?_)
      | (with_reducible refine LeO.bind ?_ (fun _ => ?_))
      | exact ih0 _ _ _
      | exact LeO.none _
      | refine LeO.ite ?_ ?_
      | refine LeO.bind ?_ (fun _ => ?_)
set_option maxHeartbeats 8000000 in
set_option maxRecDepth 100000 in
theorem hogsheadlaw0_SameTexts.calls (k : Nat) (A0 : Option Addr) (c0 : Nat) (l0 : List ByteArray) (A1 : Option Addr) (c1 : Nat) (l1 : List ByteArray) (r : Bool) (w : World) (hr0 : Kd.C Kd.string w A0 l0.length l0) (hc0 : l0.length ≤ c0) (hr1 : Kd.C Kd.string w A1 l1.length l1) (hc1 : l1.length ≤ c1) (h : hogsheadlaw0_SameTexts.f k l0 l1 = some r) :
    Calls Tryd.prog 23 #[.slice A0 l0.length c0, .slice A1 l1.length c1] w fun e w' => e = .returned (.bool r) ∧ Drawn0 w w' := by
  have HR0 := Aside0.mk hr0
  have HC0 := Aside0.mk hc0
  clear hr0 hc0
  have HR1 := Aside0.mk hr1
  have HC1 := Aside0.mk hc1
  clear hr1 hc1
  have H : (if (l0.length : Int) = (l1.length : Int) then (hogsheadlaw0_SameTexts.l0 k l0 l1 0) else (some false)) = some r := h
  clear h
  by_cases c3 : (l0.length : Int) = (l1.length : Int)
  · rw [if_pos c3] at H
    have c3b0 : ((l0.length : Int) == (l1.length : Int)) = true := beq_iff_eq.mpr c3
    have c3b1 : ((l0.length : Int) != (l1.length : Int)) = false := bne_eq_false_iff_eq.mpr c3
    have c3b2 : (l0.length == l1.length) = true := by first | simpa using c3 | (simp at c3 ⊢; omega)
    clear c3
    have H' := Aside0.mk H
    clear H
    go_enter Tryd.func23, Tryd.ntmps23
    go_wp2
    repeat (go_quiet (fail); try go_wp2)
    go_loopg [5] k (fun kq v5 w' => ∃ (x5_1 : Int), v5 = .int .i64 x5_1 ∧ Aside0 (hogsheadlaw0_SameTexts.l0 kq l0 l1 x5_1 = some r) ∧ Aside0 (kq ≤ k) ∧ Drawn0 w w')
    case atStart => exact ⟨(0), (by first | rfl | (simp; done) | (simp [*]; done)), H', ⟨Nat.le_refl _⟩, by repeat (first | exact Drawn0.refl _ | apply Drawn0.step)⟩
    case round =>
      clear H'
      try clear c1
      try clear c2
      try clear p2
      try clear c3
      try clear c3b0
      try clear c3b1
      try clear c3b2
      obtain ⟨x5_1, rfl, HA, HK1, ⟨m1, rfl⟩⟩ := hrel
      cases gk with
      | zero => exact absurd HA.out (by simp [hogsheadlaw0_SameTexts.l0])
      | succ k1 =>
        have H := HA.out
        clear HA
        simp only [hogsheadlaw0_SameTexts.l0] at H
        by_cases c4 : x5_1 < (l0.length : Int)
        · rw [if_pos c4] at H
          have c4b0 : decide (x5_1 < (l0.length : Int)) = true := decide_eq_true c4
          clear c4
          by_cases c5 : 0 ≤ x5_1
          · rw [if_pos c5] at H
            have c5b0 : decide (0 ≤ x5_1) = true := decide_eq_true c5
            clear c5
            by_cases c6 : x5_1 < (l1.length : Int)
            · rw [if_pos c6] at H
              have c6b0 : decide (x5_1 < (l1.length : Int)) = true := decide_eq_true c6
              clear c6
              by_cases c7 : (rdOf ByteArray.empty l0 x5_1).toList = (rdOf ByteArray.empty l1 x5_1).toList
              · rw [if_pos c7] at H
                have c7b0 : ((rdOf ByteArray.empty l0 x5_1).toList == (rdOf ByteArray.empty l1 x5_1).toList) = true := beq_iff_eq.mpr c7
                have c7b1 : ((rdOf ByteArray.empty l0 x5_1).toList != (rdOf ByteArray.empty l1 x5_1).toList) = false := bne_eq_false_iff_eq.mpr c7
                clear c7
                have H' := Aside0.mk H
                clear H
                have p156 : 0 ≤ (x5_1 : Int) := of_decide_eq_true (by first | (with_reducible assumption) | assumption)
                have q156 : x5_1 < (l0.length : Int) := of_decide_eq_true (by first | (with_reducible assumption) | assumption)
                obtain ⟨ad156, e156, hx156_0⟩ := Kd.at_string HR0.out x5_1 p156 q156
                cases e156
                replace p156 := eq_true p156
                replace q156 := eq_true q156
                have p157 : 0 ≤ (x5_1 : Int) := of_decide_eq_true (by first | (with_reducible assumption) | assumption)
                have q157 : x5_1 < (l1.length : Int) := of_decide_eq_true (by first | (with_reducible assumption) | assumption)
                obtain ⟨ad157, e157, hx157_0⟩ := Kd.at_string HR1.out x5_1 p157 q157
                cases e157
                replace p157 := eq_true p157
                replace q157 := eq_true q157
                go_wp2
                repeat (go_quiet (fail); try go_wp2)
                go_roundg k1
                case measure => have := HK1.out; omega
                case rel => exact ⟨(wrap64 (x5_1 + 1)), (by first | rfl | (simp; done) | (simp [*]; done)), H', ⟨by have := HK1.out; omega⟩, by repeat (first | exact Drawn0.refl _ | apply Drawn0.step)⟩
              · rw [if_neg c7] at H
                have c7b0 : ((rdOf ByteArray.empty l0 x5_1).toList == (rdOf ByteArray.empty l1 x5_1).toList) = false := beq_eq_false_iff_ne.mpr c7
                have c7b1 : ((rdOf ByteArray.empty l0 x5_1).toList != (rdOf ByteArray.empty l1 x5_1).toList) = true := bne_iff_ne.mpr c7
                obtain rfl := Option.some.inj H
                have p156 : 0 ≤ (x5_1 : Int) := of_decide_eq_true (by first | (with_reducible assumption) | assumption)
                have q156 : x5_1 < (l0.length : Int) := of_decide_eq_true (by first | (with_reducible assumption) | assumption)
                obtain ⟨ad156, e156, hx156_0⟩ := Kd.at_string HR0.out x5_1 p156 q156
                cases e156
                replace p156 := eq_true p156
                replace q156 := eq_true q156
                have p157 : 0 ≤ (x5_1 : Int) := of_decide_eq_true (by first | (with_reducible assumption) | assumption)
                have q157 : x5_1 < (l1.length : Int) := of_decide_eq_true (by first | (with_reducible assumption) | assumption)
                obtain ⟨ad157, e157, hx157_0⟩ := Kd.at_string HR1.out x5_1 p157 q157
                cases e157
                replace p157 := eq_true p157
                replace q157 := eq_true q157
                go_wp2
                repeat (go_quiet (fail); try go_wp2)
                go_ret
                exact ⟨by first | rfl | (simp; done) | (simp [*]; done), by repeat (first | exact Drawn0.refl _ | apply Drawn0.step)⟩
            · rw [if_neg c6] at H
              exact absurd H (by simp)
          · rw [if_neg c5] at H
            exact absurd H (by simp)
        · rw [if_neg c4] at H
          have c4b0 : decide (x5_1 < (l0.length : Int)) = false := decide_eq_false c4
          clear c4
          obtain rfl := Option.some.inj H
          go_wp2
          repeat (go_quiet (fail); try go_wp2)
          go_ret
          exact ⟨by first | rfl | (simp; done) | (simp [*]; done), by repeat (first | exact Drawn0.refl _ | apply Drawn0.step)⟩
  · rw [if_neg c3] at H
    have c3b0 : ((l0.length : Int) == (l1.length : Int)) = false := beq_eq_false_iff_ne.mpr c3
    have c3b1 : ((l0.length : Int) != (l1.length : Int)) = true := bne_iff_ne.mpr c3
    have c3b2 : (l0.length == l1.length) = false := by first | simpa using c3 | (simp at c3 ⊢; omega)
    obtain rfl := Option.some.inj H
    go_enter Tryd.func23, Tryd.ntmps23
    go_wp2
    repeat (go_quiet (fail); try go_wp2)
    go_ret
    exact ⟨by first | rfl | (simp; done) | (simp [*]; done), by repeat (first | exact Drawn0.refl _ | apply Drawn0.step)⟩

/-! ### item_Names: function 24 -/
def item_Names.l0 : Nat → List ByteArray → List (S34) → Int → Int → Option (List ByteArray)
  | 0, _, _, _, _ => none
  | k + 1, x3, x6, x7, x8 => if x8 < x7 then (if 0 ≤ x8 then (if x8 < (x6.length : Int) then (if x3.length < 8796093022208 then (item_Names.l0 k (x3 ++ [(rd_T34 x6 x8).f0]) x6 x7 (wrap64 (x8 + 1))) else (none)) else (none)) else (none)) else (some x3)
def item_Names.f (k : Nat) (l0 : List (S34)) : Option (List ByteArray) := item_Names.l0 k ([] : List ByteArray) l0 (l0.length : Int) 0
theorem item_Names.mono_l : ∀ k, (∀ y0 y1 y2 y3, LeO (item_Names.l0 k y0 y1 y2 y3) (item_Names.l0 (k + 1) y0 y1 y2 y3))
  | 0 => fun _ _ _ _ r h => by simp [item_Names.l0] at h
  | k + 1 => by
    have ih0 := item_Names.mono_l k
    · intro y0 y1 y2 y3
      unfold item_Names.l0
      repeat' first
      | (with_reducible exact ih0 _ _ _ _)
      | (with_reducible exact LeO.refl _)
      | (with_reducible exact LeO.none _)
      | (with_reducible refine LeO.ite ?_ ?_)
      | (with_reducible refine LeO.bind ?_ (fun _ => ?_))
      | exact ih0 _ _ _ _
      | exact LeO.none _
      | refine LeO.ite ?_ ?_
      | refine LeO.bind ?_ (fun _ => ?_)
theorem item_Names.mono : ∀ a0 k, LeO (item_Names.f k a0) (item_Names.f (k + 1) a0) := by
  intro a0 k
  have ih0 := item_Names.mono_l k
  unfold item_Names.f
  repeat' first
      | (with_reducible exact ih0 _ _ _ _)
      | (with_reducible exact LeO.refl _)
      | (with_reducible exact LeO.none _)
      | (with_reducible refine LeO.ite ?_ ?_)
      | (with_reducible refine LeO.bind ?_ (fun _ => ?_))
      | exact ih0 _ _ _ _
      | exact LeO.none _
      | refine LeO.ite ?_ ?_
      | refine LeO.bind ?_ (fun _ => ?_)
set_option maxHeartbeats 8000000 in
set_option maxRecDepth 100000 in
theorem item_Names.calls (k : Nat) (A0 : Option Addr) (c0 : Nat) (l0 : List (S34)) (r : List ByteArray) (w : World) (hr0 : Kd.C k34 w A0 l0.length l0) (hc0 : l0.length ≤ c0) (h : item_Names.f k l0 = some r) :
    Calls Tryd.prog 24 #[.slice A0 l0.length c0] w fun e w' => ∃ v0_ : Value, e = .returned (v0_) ∧ Kd.R Kd.string 9 w' w.heap.size (fun _ => True) v0_ r ∧ Below w.heap.size w w' := by
  have hu34 := Tryd.underlying34
  have HR0 := Aside0.mk hr0
  have HC0 := Aside0.mk hc0
  clear hr0 hc0
  have HB := Aside0.mk (Below.refl w.heap.size w)
  have H : (item_Names.l0 k ([] : List ByteArray) l0 (l0.length : Int) 0) = some r := h
  clear h
  have H' := Aside0.mk H
  clear H
  go_enter Tryd.func24, Tryd.ntmps24
  go_wp2
  go_loopg [3, 8] k (fun kq v3 v8 w' => ∃ (x3_1 : List ByteArray) (x8_1 : Int), v8 = .int .i64 x8_1 ∧ Aside0 (item_Names.l0 kq x3_1 l0 (l0.length : Int) x8_1 = some r) ∧ Aside0 (kq ≤ k) ∧ Aside0 (Kd.R Kd.string 9 w' w.heap.size (fun _ => True) v3 x3_1) ∧ Aside0 (Below w.heap.size w w'))
  case atStart => exact ⟨(([] : List ByteArray)), (0), (by first | rfl | (simp; done) | (simp [*]; done)), H', ⟨Nat.le_refl _⟩, ⟨by first | exact Kd.R_nil _ _ _ _ _ | exact Kd.N_nil _ _ _ _ _ | exact Kd.V_nil _ _ _ _ _ | exact Kd.Q_nil _ _ _ _ _ | exact Kd.S_nil _ _ _ _ _⟩, ⟨by repeat (first | (with_reducible first | exact HB.out | apply below_alloc | apply pw_below_drewN | apply below_drew1) | exact HB.out)⟩⟩
  case round =>
    clear H'
    obtain ⟨x3_1, x8_1, rfl, HA, HK1, HO_3, HB⟩ := hrel
    cases gk with
    | zero => exact absurd HA.out (by simp [item_Names.l0])
    | succ k1 =>
      have H := HA.out
      clear HA
      simp only [item_Names.l0] at H
      by_cases c2 : x8_1 < (l0.length : Int)
      · rw [if_pos c2] at H
        have c2b0 : decide (x8_1 < (l0.length : Int)) = true := decide_eq_true c2
        clear c2
        by_cases c3 : 0 ≤ x8_1
        · rw [if_pos c3] at H
          have c3b0 : decide (0 ≤ x8_1) = true := decide_eq_true c3
          clear c3
          by_cases c4 : x8_1 < (l0.length : Int)
          · rw [if_pos c4] at H
            have c4b0 : decide (x8_1 < (l0.length : Int)) = true := decide_eq_true c4
            clear c4
            by_cases c5 : x3_1.length < 8796093022208
            · rw [if_pos c5] at H
              have LMc5 := Aside0.mk c5
              clear c5
              obtain ⟨y160, hy160⟩ : ∃ y_ : List ByteArray, y_ = (x3_1 ++ [(rd_T34 l0 x8_1).f0]) := ⟨_, rfl⟩
              replace H : (item_Names.l0 k1 y160 l0 (l0.length : Int) (wrap64 (x8_1 + 1))) = some r := by first | (rw [hy160]; with_reducible exact H) | (have H2_ := (Option.bind_some _ _).symm.trans H; rw [hy160]; with_reducible exact H2_) | (have H2_ := (Option.bind_some _ _).symm.trans H; with_reducible exact H2_) | with_reducible exact H | (rw [hy160]; exact H) | exact H
              have Ny160 := Aside0.mk hy160
              clear hy160
              have H' := Aside0.mk H
              clear H
              have p158 : 0 ≤ (x8_1 : Int) := of_decide_eq_true (by first | (with_reducible assumption) | assumption)
              have q158 : x8_1 < (l0.length : Int) := of_decide_eq_true (by first | (with_reducible assumption) | assumption)
              obtain ⟨ad158, A158_1, c158_1, A158_2, c158_2, e158, hx158_0, hx158_1, hx158_2, hl158_1, hi158_1, hl158_2, hi158_2⟩ := at_T34 HR0.out x8_1 p158 q158
              cases e158
              replace hx158_0 := (HB.out.cell (World.block_lt_of_cell? w _ hx158_0)).trans hx158_0
              replace hx158_1 := (HB.out.cell (World.block_lt_of_cell? w _ hx158_1)).trans hx158_1
              replace hx158_2 := (HB.out.cell (World.block_lt_of_cell? w _ hx158_2)).trans hx158_2
              have HR158_1 := Aside0.mk hi158_1
              have HC158_1 := Aside0.mk hl158_1
              clear hi158_1 hl158_1
              have HR158_2 := Aside0.mk hi158_2
              have HC158_2 := Aside0.mk hl158_2
              clear hi158_2 hl158_2
              replace p158 := eq_true p158
              replace q158 := eq_true q158
              go_wp2_with (first | ((with_reducible refine gate_dst (N := 5) rfl ?_); refine box_event ?hg (N := 5) ?hd (cs := #[.string (⟨#[]⟩ : ByteArray), .slice none 0 0, .slice none 0 0]) (t := 34) ?hr ?_; (case hd => rfl); (case hg => rfl); (case hr => first | (go_simp; done) | (go_simp; rfl)); intro gb159 hg w6 hbox hb; have n0_ := Aside0.mk (Kd.R_below (by (with_reducible repeat (first | apply Kd.R_alloc | apply Kd.R_drewN | apply Kd.R_drew)); exact HO_3.out) hb); have n1_ := Aside0.mk (below_step (by repeat (first | (with_reducible first | exact HB.out | apply below_alloc | apply pw_below_drewN | apply below_drew1) | exact HB.out)) hb); have n2_ := Aside0.mk (hbox); have n3_ := Aside0.mk ((by rw [hg]; exact (below_size (by repeat (first | (with_reducible first | exact HB.out | apply below_alloc | apply pw_below_drewN | apply below_drew1) | exact HB.out))) : w.heap.size ≤ gb159)); have n4_ := Aside0.mk ((by rw [hg]; exact (below_size (by repeat (first | (with_reducible first | exact HB.out | apply below_alloc | apply pw_below_drewN | apply below_drew1) | exact HB.out))) : w.heap.size ≤ gb159)); clear HO_3; clear HB; have HO_3 := n0_; have HB := n1_; have BK159 := n2_; have GW159 := n3_; have GE159 := n4_; clear n0_ n1_ n2_ n3_ n4_; clear hb hbox hg; have hcz7_0 : w6.cell? ⟨gb159, 0, none⟩ = some (.string (⟨#[]⟩ : ByteArray)) := (blk_cell BK159.out 0).trans rfl; have hcz7_1 : w6.cell? ⟨gb159, 1, none⟩ = some (.slice none 0 0) := (blk_cell BK159.out 1).trans rfl; have hcz7_2 : w6.cell? ⟨gb159, 2, none⟩ = some (.slice none 0 0) := (blk_cell BK159.out 2).trans rfl; have hfz7_0 := blk_frozen BK159.out 0; have hfz7_1 := blk_frozen BK159.out 1; have hfz7_2 := blk_frozen BK159.out 2) | ((with_reducible refine gate_builtin (b := .append) (xs := #[.tmp 12, .tmp 15]) rfl ?_); at_builtin; refine Kd.R_append Kd.string (w0 := w) w.heap.size rfl (.tmp 12) (.tmp 15) 31 9 (.string ⟨#[]⟩) 16 rfl Tryd.underlying31 info9 rfl (by decide) (by omega) u3 x3_1 ((rd_T34 l0 x8_1).f0) [.string ((rd_T34 l0 x8_1).f0)] (fun _ => True) (fun _ => False) rfl (by first | (go_simp; done) | (go_simp; rfl)) ?aP (fun _ hk => hk.elim) ?aF ?aO ?aB ?aS ?aL ?_; (case aP => exact rfl); (case aB => exact (by repeat (first | (with_reducible first | exact HB.out | apply below_alloc | apply pw_below_drewN | apply below_drew1 | refine below_set ?_ GE159.out) | exact HB.out))); (case aF => exact (fun _ _ => trivial)); (case aO => exact (by (with_reducible repeat (first | apply Kd.R_alloc | apply Kd.R_drewN | apply Kd.R_drew)); exact Kd.R_mono (Kd.R_far (p := ⟨gb159, 2, none⟩) (Kd.R_far (p := ⟨gb159, 1, none⟩) (Kd.R_far (p := ⟨gb159, 0, none⟩) (Kd.R_types HO_3.out BK159.out (by decide)) (fun _ hk => hk.2) (.string ((rd_T34 l0 x8_1).f0))) (fun _ hk => hk.2) (.slice A158_1 ((rd_T34 l0 x8_1).f1).length c158_1)) (fun _ hk => hk.2) (.slice A158_2 ((rd_T34 l0 x8_1).f2).length c158_2)) (fun _ hk => trivial))); (case aS => exact (below_size (by repeat (first | (with_reducible first | exact HB.out | apply below_alloc | apply pw_below_drewN | apply below_drew1 | refine below_set ?_ GE159.out) | exact HB.out)))); (case aL => have := LMc5.out; omega); intro v161 w8 ho hb hg hat; rw [← Ny160.out] at ho; have n0_ := Aside0.mk (blk_grown (g := gb159) (o := .cells #[.string ((rd_T34 l0 x8_1).f0), .slice A158_1 ((rd_T34 l0 x8_1).f1).length c158_1, .slice A158_2 ((rd_T34 l0 x8_1).f2).length c158_2] 34 (0, 0)) (by (with_reducible repeat (first | refine blk_drewN ?_ _ | refine blk_drew ?_ | refine blk_alloc ?_ _)); refine blk_put (cs := #[.string ((rd_T34 l0 x8_1).f0), .slice A158_1 ((rd_T34 l0 x8_1).f1).length c158_1, .slice none 0 0]) ?_ 2 _ rfl; (with_reducible repeat (first | refine blk_drewN ?_ _ | refine blk_drew ?_ | refine blk_alloc ?_ _)); refine blk_put (cs := #[.string ((rd_T34 l0 x8_1).f0), .slice none 0 0, .slice none 0 0]) ?_ 1 _ rfl; (with_reducible repeat (first | refine blk_drewN ?_ _ | refine blk_drew ?_ | refine blk_alloc ?_ _)); refine blk_put (cs := #[.string (⟨#[]⟩ : ByteArray), .slice none 0 0, .slice none 0 0]) ?_ 0 _ rfl; (with_reducible repeat (first | refine blk_drewN ?_ _ | refine blk_drew ?_ | refine blk_alloc ?_ _)); exact BK159.out) hg (Kd.R_ne HO_3.out BK159.out (by decide))); have n1_ := Aside0.mk (hb); have n2_ := Aside0.mk (ho); clear BK159; clear HB; clear HO_3; have BK159 := n0_; have HB := n1_; have HO162 := n2_; clear n0_ n1_ n2_; clear ho hb hg hat))
              go_roundg k1
              case measure => have := HK1.out; omega
              case rel => exact ⟨(y160), (wrap64 (x8_1 + 1)), (by first | rfl | (simp; done) | (simp [*]; done)), H', ⟨by have := HK1.out; omega⟩, ⟨by (with_reducible repeat (first | apply Kd.R_alloc | apply Kd.R_drewN | apply Kd.R_drew)); exact HO162.out⟩, ⟨by repeat (first | (with_reducible first | exact HB.out | apply below_alloc | apply pw_below_drewN | apply below_drew1 | refine below_set ?_ GE159.out) | exact HB.out)⟩⟩
            · rw [if_neg c5] at H
              exact absurd H (by simp)
          · rw [if_neg c4] at H
            exact absurd H (by simp)
        · rw [if_neg c3] at H
          exact absurd H (by simp)
      · rw [if_neg c2] at H
        have c2b0 : decide (x8_1 < (l0.length : Int)) = false := decide_eq_false c2
        clear c2
        obtain rfl := Option.some.inj H
        go_wp2
        go_ret
        exact ⟨_, by first | rfl | (simp [errW_none, errW_some] <;> rfl) | (simp [*, errW_none, errW_some] <;> rfl), by (with_reducible repeat (first | apply Kd.R_alloc | apply Kd.R_drewN | apply Kd.R_drew)); exact HO_3.out, by repeat (first | (with_reducible first | exact HB.out | apply below_alloc | apply pw_below_drewN | apply below_drew1) | exact HB.out)⟩

/-! ### hogsheadlaw7_awake: function 7 -/
def hogsheadlaw7_awake.f (k : Nat)  : Option (Bool) := (item_Name.f k (⟨#[48, 49, 50, 51, 52, 53, 54, 97, 45, 120]⟩ : ByteArray)).bind fun t163 => (if t163 = true then ((item_Name.f k (⟨#[48, 49, 50, 51, 52, 53, 54, 101, 45, 120]⟩ : ByteArray)).bind fun t164 => (if t164 = true then (some false) else ((item_Hash.f k (⟨#[48, 49, 50, 51, 52, 53, 54, 97, 45, 120]⟩ : ByteArray)).bind fun t165 => (if t165.toList = ([48, 49, 50, 51, 52, 53, 54, 97] : List UInt8) then ((hogsheadlaw7_one.f).bind fun bt166 => ((item_May.f k bt166.1 bt166.2.1 bt166.2.2).bind fun t173 => (if t173 = true then ((hogsheadlaw7_one.f).bind fun bt174 => ((hogsheadlaw7_one.f).bind fun bt181 => ((item_Names.f k (([(⟨bt174.1, bt174.2.1, bt174.2.2⟩ : S34), (⟨bt181.1, bt181.2.1, bt181.2.2⟩ : S34)] : List (S34)))).bind fun t191 => ((hogsheadlaw0_SameTexts.f k t191 (([(⟨#[48, 49, 50, 51, 52, 53, 54, 97, 45, 120]⟩ : ByteArray), (⟨#[48, 49, 50, 51, 52, 53, 54, 97, 45, 120]⟩ : ByteArray)] : List ByteArray))).bind fun t197 => (some t197))))) else (some false)))) else (some false))))) else (some false))
theorem hogsheadlaw7_awake.mono : ∀ k, LeO (hogsheadlaw7_awake.f k ) (hogsheadlaw7_awake.f (k + 1) ) := by
  intro  k
  unfold hogsheadlaw7_awake.f
  repeat' first
      | (with_reducible exact hogsheadlaw0_SameTexts.mono _ _ _)
      | (with_reducible exact item_Hash.mono _ _)
      | (with_reducible exact item_May.mono _ _ _ _)
      | (with_reducible exact item_Name.mono _ _)
      | (with_reducible exact item_Names.mono _ _)
      | (with_reducible exact LeO.refl _)
      | (with_reducible exact LeO.none _)
      | (with_reducible refine LeO.ite ?_ ?_)
      | (with_reducible refine LeO.bind ?_ (fun _ => ?_))
      | exact hogsheadlaw0_SameTexts.mono _ _ _
      | exact item_Hash.mono _ _
      | exact item_May.mono _ _ _ _
      | exact item_Name.mono _ _
      | exact item_Names.mono _ _
      | exact LeO.none _
      | refine LeO.ite ?_ ?_
      | refine LeO.bind ?_ (fun _ => ?_)
set_option maxHeartbeats 8000000 in
set_option maxRecDepth 100000 in
theorem hogsheadlaw7_awake.calls (k : Nat)  (r : Bool) (w : World) (h : hogsheadlaw7_awake.f k  = some true) :
    Calls Tryd.prog 7 #[] w fun e w' => e = .returned (.bool true) ∧ Below w.heap.size w w' := by
  have HB := Aside0.mk (Below.refl w.heap.size w)
  have H : ((item_Name.f k (⟨#[48, 49, 50, 51, 52, 53, 54, 97, 45, 120]⟩ : ByteArray)).bind fun t163 => (if t163 = true then ((item_Name.f k (⟨#[48, 49, 50, 51, 52, 53, 54, 101, 45, 120]⟩ : ByteArray)).bind fun t164 => (if t164 = true then (some false) else ((item_Hash.f k (⟨#[48, 49, 50, 51, 52, 53, 54, 97, 45, 120]⟩ : ByteArray)).bind fun t165 => (if t165.toList = ([48, 49, 50, 51, 52, 53, 54, 97] : List UInt8) then ((hogsheadlaw7_one.f).bind fun bt166 => ((item_May.f k bt166.1 bt166.2.1 bt166.2.2).bind fun t173 => (if t173 = true then ((hogsheadlaw7_one.f).bind fun bt174 => ((hogsheadlaw7_one.f).bind fun bt181 => ((item_Names.f k (([(⟨bt174.1, bt174.2.1, bt174.2.2⟩ : S34), (⟨bt181.1, bt181.2.1, bt181.2.2⟩ : S34)] : List (S34)))).bind fun t191 => ((hogsheadlaw0_SameTexts.f k t191 (([(⟨#[48, 49, 50, 51, 52, 53, 54, 97, 45, 120]⟩ : ByteArray), (⟨#[48, 49, 50, 51, 52, 53, 54, 97, 45, 120]⟩ : ByteArray)] : List ByteArray))).bind fun t197 => (some t197))))) else (some false)))) else (some false))))) else (some false))) = some true := h
  clear h
  replace H := Option.bind_eq_some_iff.mp H
  obtain ⟨t163, A10, H⟩ := H
  replace H : (if t163 = true then ((item_Name.f k (⟨#[48, 49, 50, 51, 52, 53, 54, 101, 45, 120]⟩ : ByteArray)).bind fun t164 => (if t164 = true then (some false) else ((item_Hash.f k (⟨#[48, 49, 50, 51, 52, 53, 54, 97, 45, 120]⟩ : ByteArray)).bind fun t165 => (if t165.toList = ([48, 49, 50, 51, 52, 53, 54, 97] : List UInt8) then ((hogsheadlaw7_one.f).bind fun bt166 => ((item_May.f k bt166.1 bt166.2.1 bt166.2.2).bind fun t173 => (if t173 = true then ((hogsheadlaw7_one.f).bind fun bt174 => ((hogsheadlaw7_one.f).bind fun bt181 => ((item_Names.f k (([(⟨bt174.1, bt174.2.1, bt174.2.2⟩ : S34), (⟨bt181.1, bt181.2.1, bt181.2.2⟩ : S34)] : List (S34)))).bind fun t191 => ((hogsheadlaw0_SameTexts.f k t191 (([(⟨#[48, 49, 50, 51, 52, 53, 54, 97, 45, 120]⟩ : ByteArray), (⟨#[48, 49, 50, 51, 52, 53, 54, 97, 45, 120]⟩ : ByteArray)] : List ByteArray))).bind fun t197 => (some t197))))) else (some false)))) else (some false))))) else (some false)) = some true := H
  have A1 := Aside0.mk A10
  clear A10
  by_cases c2 : t163 = true
  · subst c2
    have H1 : ((item_Name.f k (⟨#[48, 49, 50, 51, 52, 53, 54, 101, 45, 120]⟩ : ByteArray)).bind fun t164 => (if t164 = true then (some false) else ((item_Hash.f k (⟨#[48, 49, 50, 51, 52, 53, 54, 97, 45, 120]⟩ : ByteArray)).bind fun t165 => (if t165.toList = ([48, 49, 50, 51, 52, 53, 54, 97] : List UInt8) then ((hogsheadlaw7_one.f).bind fun bt166 => ((item_May.f k bt166.1 bt166.2.1 bt166.2.2).bind fun t173 => (if t173 = true then ((hogsheadlaw7_one.f).bind fun bt174 => ((hogsheadlaw7_one.f).bind fun bt181 => ((item_Names.f k (([(⟨bt174.1, bt174.2.1, bt174.2.2⟩ : S34), (⟨bt181.1, bt181.2.1, bt181.2.2⟩ : S34)] : List (S34)))).bind fun t191 => ((hogsheadlaw0_SameTexts.f k t191 (([(⟨#[48, 49, 50, 51, 52, 53, 54, 97, 45, 120]⟩ : ByteArray), (⟨#[48, 49, 50, 51, 52, 53, 54, 97, 45, 120]⟩ : ByteArray)] : List ByteArray))).bind fun t197 => (some t197))))) else (some false)))) else (some false))))) = some true := by rw [if_pos rfl] at H; exact H
    clear H
    have H := H1
    clear H1
    replace H := Option.bind_eq_some_iff.mp H
    obtain ⟨t164, A30, H⟩ := H
    replace H : (if t164 = true then (some false) else ((item_Hash.f k (⟨#[48, 49, 50, 51, 52, 53, 54, 97, 45, 120]⟩ : ByteArray)).bind fun t165 => (if t165.toList = ([48, 49, 50, 51, 52, 53, 54, 97] : List UInt8) then ((hogsheadlaw7_one.f).bind fun bt166 => ((item_May.f k bt166.1 bt166.2.1 bt166.2.2).bind fun t173 => (if t173 = true then ((hogsheadlaw7_one.f).bind fun bt174 => ((hogsheadlaw7_one.f).bind fun bt181 => ((item_Names.f k (([(⟨bt174.1, bt174.2.1, bt174.2.2⟩ : S34), (⟨bt181.1, bt181.2.1, bt181.2.2⟩ : S34)] : List (S34)))).bind fun t191 => ((hogsheadlaw0_SameTexts.f k t191 (([(⟨#[48, 49, 50, 51, 52, 53, 54, 97, 45, 120]⟩ : ByteArray), (⟨#[48, 49, 50, 51, 52, 53, 54, 97, 45, 120]⟩ : ByteArray)] : List ByteArray))).bind fun t197 => (some t197))))) else (some false)))) else (some false)))) = some true := H
    have A3 := Aside0.mk A30
    clear A30
    by_cases c4 : t164 = true
    · subst c4
      have H1 : (some false) = some true := by rw [if_pos rfl] at H; exact H
      exact absurd H1 (by simp)
    · replace c4 := Bool.eq_false_iff.mpr c4
      subst c4
      have H1 : ((item_Hash.f k (⟨#[48, 49, 50, 51, 52, 53, 54, 97, 45, 120]⟩ : ByteArray)).bind fun t165 => (if t165.toList = ([48, 49, 50, 51, 52, 53, 54, 97] : List UInt8) then ((hogsheadlaw7_one.f).bind fun bt166 => ((item_May.f k bt166.1 bt166.2.1 bt166.2.2).bind fun t173 => (if t173 = true then ((hogsheadlaw7_one.f).bind fun bt174 => ((hogsheadlaw7_one.f).bind fun bt181 => ((item_Names.f k (([(⟨bt174.1, bt174.2.1, bt174.2.2⟩ : S34), (⟨bt181.1, bt181.2.1, bt181.2.2⟩ : S34)] : List (S34)))).bind fun t191 => ((hogsheadlaw0_SameTexts.f k t191 (([(⟨#[48, 49, 50, 51, 52, 53, 54, 97, 45, 120]⟩ : ByteArray), (⟨#[48, 49, 50, 51, 52, 53, 54, 97, 45, 120]⟩ : ByteArray)] : List ByteArray))).bind fun t197 => (some t197))))) else (some false)))) else (some false))) = some true := by rw [if_neg (show ¬ (false = true) by decide)] at H; exact H
      clear H
      have H := H1
      clear H1
      replace H := Option.bind_eq_some_iff.mp H
      obtain ⟨t165, A70, H⟩ := H
      replace H : (if t165.toList = ([48, 49, 50, 51, 52, 53, 54, 97] : List UInt8) then ((hogsheadlaw7_one.f).bind fun bt166 => ((item_May.f k bt166.1 bt166.2.1 bt166.2.2).bind fun t173 => (if t173 = true then ((hogsheadlaw7_one.f).bind fun bt174 => ((hogsheadlaw7_one.f).bind fun bt181 => ((item_Names.f k (([(⟨bt174.1, bt174.2.1, bt174.2.2⟩ : S34), (⟨bt181.1, bt181.2.1, bt181.2.2⟩ : S34)] : List (S34)))).bind fun t191 => ((hogsheadlaw0_SameTexts.f k t191 (([(⟨#[48, 49, 50, 51, 52, 53, 54, 97, 45, 120]⟩ : ByteArray), (⟨#[48, 49, 50, 51, 52, 53, 54, 97, 45, 120]⟩ : ByteArray)] : List ByteArray))).bind fun t197 => (some t197))))) else (some false)))) else (some false)) = some true := H
      have A7 := Aside0.mk A70
      clear A70
      by_cases c8 : t165.toList = ([48, 49, 50, 51, 52, 53, 54, 97] : List UInt8)
      · rw [if_pos c8] at H
        have c8b0 : (t165.toList == ([48, 49, 50, 51, 52, 53, 54, 97] : List UInt8)) = true := beq_iff_eq.mpr c8
        have c8b1 : (t165.toList != ([48, 49, 50, 51, 52, 53, 54, 97] : List UInt8)) = false := bne_eq_false_iff_eq.mpr c8
        clear c8
        replace H := Option.bind_eq_some_iff.mp H
        obtain ⟨⟨t166, t167, t170⟩, A90, H⟩ := H
        replace H : ((item_May.f k t166 t167 t170).bind fun t173 => (if t173 = true then ((hogsheadlaw7_one.f).bind fun bt174 => ((hogsheadlaw7_one.f).bind fun bt181 => ((item_Names.f k (([(⟨bt174.1, bt174.2.1, bt174.2.2⟩ : S34), (⟨bt181.1, bt181.2.1, bt181.2.2⟩ : S34)] : List (S34)))).bind fun t191 => ((hogsheadlaw0_SameTexts.f k t191 (([(⟨#[48, 49, 50, 51, 52, 53, 54, 97, 45, 120]⟩ : ByteArray), (⟨#[48, 49, 50, 51, 52, 53, 54, 97, 45, 120]⟩ : ByteArray)] : List ByteArray))).bind fun t197 => (some t197))))) else (some false))) = some true := H
        have A9 := Aside0.mk A90
        clear A90
        replace H := Option.bind_eq_some_iff.mp H
        obtain ⟨t173, A100, H⟩ := H
        replace H : (if t173 = true then ((hogsheadlaw7_one.f).bind fun bt174 => ((hogsheadlaw7_one.f).bind fun bt181 => ((item_Names.f k (([(⟨bt174.1, bt174.2.1, bt174.2.2⟩ : S34), (⟨bt181.1, bt181.2.1, bt181.2.2⟩ : S34)] : List (S34)))).bind fun t191 => ((hogsheadlaw0_SameTexts.f k t191 (([(⟨#[48, 49, 50, 51, 52, 53, 54, 97, 45, 120]⟩ : ByteArray), (⟨#[48, 49, 50, 51, 52, 53, 54, 97, 45, 120]⟩ : ByteArray)] : List ByteArray))).bind fun t197 => (some t197))))) else (some false)) = some true := H
        have A10 := Aside0.mk A100
        clear A100
        by_cases c11 : t173 = true
        · subst c11
          have H1 : ((hogsheadlaw7_one.f).bind fun bt174 => ((hogsheadlaw7_one.f).bind fun bt181 => ((item_Names.f k (([(⟨bt174.1, bt174.2.1, bt174.2.2⟩ : S34), (⟨bt181.1, bt181.2.1, bt181.2.2⟩ : S34)] : List (S34)))).bind fun t191 => ((hogsheadlaw0_SameTexts.f k t191 (([(⟨#[48, 49, 50, 51, 52, 53, 54, 97, 45, 120]⟩ : ByteArray), (⟨#[48, 49, 50, 51, 52, 53, 54, 97, 45, 120]⟩ : ByteArray)] : List ByteArray))).bind fun t197 => (some t197))))) = some true := by rw [if_pos rfl] at H; exact H
          clear H
          have H := H1
          clear H1
          replace H := Option.bind_eq_some_iff.mp H
          obtain ⟨⟨t174, t175, t178⟩, A120, H⟩ := H
          replace H : ((hogsheadlaw7_one.f).bind fun bt181 => ((item_Names.f k (([(⟨t174, t175, t178⟩ : S34), (⟨bt181.1, bt181.2.1, bt181.2.2⟩ : S34)] : List (S34)))).bind fun t191 => ((hogsheadlaw0_SameTexts.f k t191 (([(⟨#[48, 49, 50, 51, 52, 53, 54, 97, 45, 120]⟩ : ByteArray), (⟨#[48, 49, 50, 51, 52, 53, 54, 97, 45, 120]⟩ : ByteArray)] : List ByteArray))).bind fun t197 => (some t197)))) = some true := H
          have A12 := Aside0.mk A120
          clear A120
          replace H := Option.bind_eq_some_iff.mp H
          obtain ⟨⟨t181, t182, t185⟩, A130, H⟩ := H
          replace H : ((item_Names.f k (([(⟨t174, t175, t178⟩ : S34), (⟨t181, t182, t185⟩ : S34)] : List (S34)))).bind fun t191 => ((hogsheadlaw0_SameTexts.f k t191 (([(⟨#[48, 49, 50, 51, 52, 53, 54, 97, 45, 120]⟩ : ByteArray), (⟨#[48, 49, 50, 51, 52, 53, 54, 97, 45, 120]⟩ : ByteArray)] : List ByteArray))).bind fun t197 => (some t197))) = some true := H
          have A13 := Aside0.mk A130
          clear A130
          obtain ⟨y188, hy188⟩ : ∃ y_ : List (S34), y_ = (([(⟨t174, t175, t178⟩ : S34), (⟨t181, t182, t185⟩ : S34)] : List (S34))) := ⟨_, rfl⟩
          replace H : ((item_Names.f k y188).bind fun t191 => ((hogsheadlaw0_SameTexts.f k t191 (([(⟨#[48, 49, 50, 51, 52, 53, 54, 97, 45, 120]⟩ : ByteArray), (⟨#[48, 49, 50, 51, 52, 53, 54, 97, 45, 120]⟩ : ByteArray)] : List ByteArray))).bind fun t197 => (some t197))) = some true := by first | (rw [hy188]; with_reducible exact H) | (have H2_ := (Option.bind_some _ _).symm.trans H; rw [hy188]; with_reducible exact H2_) | (have H2_ := (Option.bind_some _ _).symm.trans H; with_reducible exact H2_) | with_reducible exact H | (rw [hy188]; exact H) | exact H
          have Ny188 := Aside0.mk hy188
          clear hy188
          replace H := Option.bind_eq_some_iff.mp H
          obtain ⟨t191, A140, H⟩ := H
          replace H : ((hogsheadlaw0_SameTexts.f k t191 (([(⟨#[48, 49, 50, 51, 52, 53, 54, 97, 45, 120]⟩ : ByteArray), (⟨#[48, 49, 50, 51, 52, 53, 54, 97, 45, 120]⟩ : ByteArray)] : List ByteArray))).bind fun t197 => (some t197)) = some true := H
          have A14 := Aside0.mk A140
          clear A140
          obtain ⟨y194, hy194⟩ : ∃ y_ : List ByteArray, y_ = (([(⟨#[48, 49, 50, 51, 52, 53, 54, 97, 45, 120]⟩ : ByteArray), (⟨#[48, 49, 50, 51, 52, 53, 54, 97, 45, 120]⟩ : ByteArray)] : List ByteArray)) := ⟨_, rfl⟩
          replace H : ((hogsheadlaw0_SameTexts.f k t191 y194).bind fun t197 => (some t197)) = some true := by first | (rw [hy194]; with_reducible exact H) | (have H2_ := (Option.bind_some _ _).symm.trans H; rw [hy194]; with_reducible exact H2_) | (have H2_ := (Option.bind_some _ _).symm.trans H; with_reducible exact H2_) | with_reducible exact H | (rw [hy194]; exact H) | exact H
          have Ny194 := Aside0.mk hy194
          clear hy194
          replace H := Option.bind_eq_some_iff.mp H
          obtain ⟨t197, A150, H⟩ := H
          replace H : (some t197) = some true := H
          have A15 := Aside0.mk A150
          clear A150
          have hr_ := Option.some.inj H
          go_enter Tryd.func7, Tryd.ntmps7
          have tk0_1 : True := trivial
          have tk0_2 : True := trivial
          have tk0_3 : True := trivial
          go_wp2_with (first | ((with_reducible refine gate_callee (f := 9) rfl ?_); refine goesL_ (some 1) rfl rfl Tryd.func9 (by kernel_rfl) rfl #[.string (⟨#[48, 49, 50, 51, 52, 53, 54, 97, 45, 120]⟩ : ByteArray)] rfl (by (try simp only [List.map_toArray, List.map_cons, List.map_nil]); first | done | rfl | (simp only [List.length_drop, List.length_take]; rfl)) ?_; (with_reducible refine (item_Name.calls k (⟨#[48, 49, 50, 51, 52, 53, 54, 97, 45, 120]⟩ : ByteArray) true _ A1.out).mono ?_); rintro e w16 ⟨rfl, hb⟩; refine ⟨_, rfl, ?_⟩; have n0_ := Aside0.mk (below_step (by repeat (first | (with_reducible first | exact HB.out | apply below_alloc | apply pw_below_drewN | apply below_drew1) | exact HB.out)) hb); clear HB; have HB := n0_; clear n0_; (try clear hb); (try clear hb2); (try clear hk); (try clear hi)) | (go_at_call 9; (with_reducible refine (item_Name.calls k (⟨#[48, 49, 50, 51, 52, 53, 54, 101, 45, 120]⟩ : ByteArray) false _ A3.out).mono ?_); rintro e w17 ⟨rfl, hb⟩; have n0_ := Aside0.mk (below_step (by repeat (first | (with_reducible first | exact HB.out | apply below_alloc | apply pw_below_drewN | apply below_drew1) | exact HB.out)) hb); clear HB; have HB := n0_; clear n0_; (try clear hb); (try clear hb2); (try clear hk); (try clear hi)) | (go_at_call 10; (with_reducible refine (item_Hash.calls k (⟨#[48, 49, 50, 51, 52, 53, 54, 97, 45, 120]⟩ : ByteArray) t165 _ A7.out).mono ?_); rintro e w18 ⟨rfl, hb⟩; have n0_ := Aside0.mk (below_step (by repeat (first | (with_reducible first | exact HB.out | apply below_alloc | apply pw_below_drewN | apply below_drew1) | exact HB.out)) hb); clear HB; have HB := n0_; clear n0_; (try clear hb); (try clear hb2); (try clear hk); (try clear hi)) | (go_at_call 22; clear tk0_1; (with_reducible refine (hogsheadlaw7_one.calls  t166 t167 t170 _ A9.out).mono ?_); rintro e w19 ⟨v168, v171, rfl, ho0, ho1, hb⟩; have n0_ := Aside0.mk (Kd.R_lower ho0 (below_size (by repeat (first | (with_reducible first | exact HB.out | apply below_alloc | apply pw_below_drewN | apply below_drew1) | exact HB.out)))); have n1_ := Aside0.mk (Kd.R_lower ho1 (below_size (by repeat (first | (with_reducible first | exact HB.out | apply below_alloc | apply pw_below_drewN | apply below_drew1) | exact HB.out)))); have n2_ := Aside0.mk (below_step (by repeat (first | (with_reducible first | exact HB.out | apply below_alloc | apply pw_below_drewN | apply below_drew1) | exact HB.out)) hb); clear HB; have HO169 := n0_; have HO172 := n1_; have HB := n2_; clear n0_ n1_ n2_; (try clear hb); (try clear hb2); (try clear hk); (try clear hi); (try clear ho0); (try clear ho1); obtain ⟨Ao20, co20, eo20⟩ := Kd.R_slice HO169.out; subst eo20; obtain ⟨Ao21, co21, eo21⟩ := Kd.R_slice HO172.out; subst eo21) | (go_at_call 18; (with_reducible refine (item_May.calls k t166 _ _ t167 _ _ t170 true _ ?side1 ?side2 ?side3 ?side4 A10.out).mono ?_); (case side1 => repeat (first | exact (Kd.R_reads' HO169.out).2.2 | (with_reducible refine Kd.C_alloc ?_ _) | (with_reducible refine Kd.C_drewN ?_ _) | (with_reducible refine Kd.C_drew ?_))); (case side2 => exact (Kd.R_reads' HO169.out).2.1); (case side3 => repeat (first | exact (Kd.R_reads' HO172.out).2.2 | (with_reducible refine Kd.C_alloc ?_ _) | (with_reducible refine Kd.C_drewN ?_ _) | (with_reducible refine Kd.C_drew ?_))); (case side4 => exact (Kd.R_reads' HO172.out).2.1); rintro e w22 ⟨rfl, hb⟩; have n0_ := Aside0.mk (Kd.R_below (by (with_reducible repeat (first | apply Kd.R_alloc | apply Kd.R_drewN | apply Kd.R_drew)); exact HO169.out) hb); have n1_ := Aside0.mk (Kd.R_below (by (with_reducible repeat (first | apply Kd.R_alloc | apply Kd.R_drewN | apply Kd.R_drew)); exact HO172.out) hb); have n2_ := Aside0.mk (below_step (by repeat (first | (with_reducible first | exact HB.out | apply below_alloc | apply pw_below_drewN | apply below_drew1) | exact HB.out)) hb); clear HO169; clear HO172; clear HB; have HO169 := n0_; have HO172 := n1_; have HB := n2_; clear n0_ n1_ n2_; (try clear hb); (try clear hb2); (try clear hk); (try clear hi)) | (go_at_call 22; clear tk0_2; (with_reducible refine (hogsheadlaw7_one.calls  t174 t175 t178 _ A12.out).mono ?_); rintro e w23 ⟨v176, v179, rfl, ho0, ho1, hb⟩; have n0_ := Aside0.mk (Kd.R_elder' (by (with_reducible repeat (first | apply Kd.R_alloc | apply Kd.R_drewN | apply Kd.R_drew)); exact HO169.out) (Kd.R_base ho0) hb); have n1_ := Aside0.mk (Kd.R_elder' (by (with_reducible repeat (first | apply Kd.R_alloc | apply Kd.R_drewN | apply Kd.R_drew)); exact HO172.out) (Kd.R_base ho1) hb); have n2_ := Aside0.mk (Kd.R_lower (Kd.R_new' ho0 (Kd.R_lt (by (with_reducible repeat (first | apply Kd.R_alloc | apply Kd.R_drewN | apply Kd.R_drew)); exact HO169.out))) (below_size (by repeat (first | (with_reducible first | exact HB.out | apply below_alloc | apply pw_below_drewN | apply below_drew1) | exact HB.out)))); have n3_ := Aside0.mk (Kd.R_lower (Kd.R_new' ho1 (Kd.R_lt (by (with_reducible repeat (first | apply Kd.R_alloc | apply Kd.R_drewN | apply Kd.R_drew)); exact HO172.out))) (below_size (by repeat (first | (with_reducible first | exact HB.out | apply below_alloc | apply pw_below_drewN | apply below_drew1) | exact HB.out)))); have n4_ := Aside0.mk (below_step (by repeat (first | (with_reducible first | exact HB.out | apply below_alloc | apply pw_below_drewN | apply below_drew1) | exact HB.out)) hb); clear HO169; clear HO172; clear HB; have HO169 := n0_; have HO172 := n1_; have HO177 := n2_; have HO180 := n3_; have HB := n4_; clear n0_ n1_ n2_ n3_ n4_; (try clear hb); (try clear hb2); (try clear hk); (try clear hi); (try clear ho0); (try clear ho1)) | (go_at_call 22; clear tk0_3; (with_reducible refine (hogsheadlaw7_one.calls  t181 t182 t185 _ A13.out).mono ?_); rintro e w24 ⟨v183, v186, rfl, ho0, ho1, hb⟩; have n0_ := Aside0.mk (Kd.R_elder' (by (with_reducible repeat (first | apply Kd.R_alloc | apply Kd.R_drewN | apply Kd.R_drew)); exact HO169.out) (Kd.R_base ho0) hb); have n1_ := Aside0.mk (Kd.R_elder' (by (with_reducible repeat (first | apply Kd.R_alloc | apply Kd.R_drewN | apply Kd.R_drew)); exact HO172.out) (Kd.R_base ho1) hb); have n2_ := Aside0.mk (Kd.R_elder' (by (with_reducible repeat (first | apply Kd.R_alloc | apply Kd.R_drewN | apply Kd.R_drew)); exact HO177.out) (Kd.R_base ho0) hb); have n3_ := Aside0.mk (Kd.R_elder' (by (with_reducible repeat (first | apply Kd.R_alloc | apply Kd.R_drewN | apply Kd.R_drew)); exact HO180.out) (Kd.R_base ho1) hb); have n4_ := Aside0.mk (Kd.R_lower (Kd.R_new' (Kd.R_new' ho0 (Kd.R_lt (by (with_reducible repeat (first | apply Kd.R_alloc | apply Kd.R_drewN | apply Kd.R_drew)); exact HO169.out))) (Kd.R_lt (by (with_reducible repeat (first | apply Kd.R_alloc | apply Kd.R_drewN | apply Kd.R_drew)); exact HO177.out))) (below_size (by repeat (first | (with_reducible first | exact HB.out | apply below_alloc | apply pw_below_drewN | apply below_drew1) | exact HB.out)))); have n5_ := Aside0.mk (Kd.R_lower (Kd.R_new' (Kd.R_new' ho1 (Kd.R_lt (by (with_reducible repeat (first | apply Kd.R_alloc | apply Kd.R_drewN | apply Kd.R_drew)); exact HO172.out))) (Kd.R_lt (by (with_reducible repeat (first | apply Kd.R_alloc | apply Kd.R_drewN | apply Kd.R_drew)); exact HO180.out))) (below_size (by repeat (first | (with_reducible first | exact HB.out | apply below_alloc | apply pw_below_drewN | apply below_drew1) | exact HB.out)))); have n6_ := Aside0.mk (below_step (by repeat (first | (with_reducible first | exact HB.out | apply below_alloc | apply pw_below_drewN | apply below_drew1) | exact HB.out)) hb); clear HO169; clear HO172; clear HO177; clear HO180; clear HB; have HO169 := n0_; have HO172 := n1_; have HO177 := n2_; have HO180 := n3_; have HO184 := n4_; have HO187 := n5_; have HB := n6_; clear n0_ n1_ n2_ n3_ n4_ n5_ n6_; (try clear hb); (try clear hb2); (try clear hk); (try clear hi); (try clear ho0); (try clear ho1); obtain ⟨Ao25, co25, eo25⟩ := Kd.R_slice HO177.out; subst eo25; obtain ⟨Ao26, co26, eo26⟩ := Kd.R_slice HO180.out; subst eo26; obtain ⟨Ao27, co27, eo27⟩ := Kd.R_slice HO184.out; subst eo27; obtain ⟨Ao28, co28, eo28⟩ := Kd.R_slice HO187.out; subst eo28) | ((with_reducible refine gate_dst (N := 17) rfl ?_); (try (refine gate_guard (by rfl) ?_; dsimp only)); refine Kd.N_lit k34 _ 34 ?hg (N' := 17) ?hd (xs := ([(⟨t174, t175, t178⟩ : S34), (⟨t181, t182, t185⟩ : S34)] : List (S34))) (inner := [.string t174, .slice Ao25 t175.length co25, .slice Ao26 t178.length co26, .string t181, .slice Ao27 t182.length co27, .slice Ao28 t185.length co28]) (ok := (fun k_ => some k_ ≠ (.slice Ao20 t167.length co20 : Value).ownBlock ∧ some k_ ≠ (.slice Ao21 t170.length co21 : Value).ownBlock)) (okp := (fun k_ => some k_ ≠ (.slice Ao20 t167.length co20 : Value).ownBlock ∧ some k_ ≠ (.slice Ao21 t170.length co21 : Value).ownBlock)) ?hr ?hp (fun _ hk => hk) ((show ∀ k_, w24.heap.size ≤ k_ → (fun k_ => some k_ ≠ (.slice Ao20 t167.length co20 : Value).ownBlock ∧ some k_ ≠ (.slice Ao21 t170.length co21 : Value).ownBlock) k_ from fun k_ hk => ⟨Kd.fresh' (Kd.R_lt (by (with_reducible repeat (first | apply Kd.R_alloc | apply Kd.R_drewN | apply Kd.R_drew)); exact HO169.out)) k_ hk, Kd.fresh' (Kd.R_lt (by (with_reducible repeat (first | apply Kd.R_alloc | apply Kd.R_drewN | apply Kd.R_drew)); exact HO172.out)) k_ hk⟩) _ (Nat.le_refl _)) (Below.refl _ _) (Nat.le_refl _) (by simp) ?_; (case hd => rfl); (case hg => rfl); (case hr => first | (go_simp; done) | (go_simp; rfl)); (case hp => exact (Reps.c3 (show Kd.FK k34 _ _ (⟨t174, t175, t178⟩ : S34) [.string t174, .slice Ao25 t175.length co25, .slice Ao26 t178.length co26] from (k34_mkF _ _ (⟨t174, t175, t178⟩ : S34) (Kd.R_reads' (Kd.R_mono (ok' := (fun k_ => some k_ ≠ (.slice Ao20 t167.length co20 : Value).ownBlock ∧ some k_ ≠ (.slice Ao21 t170.length co21 : Value).ownBlock)) (Kd.R_apart' (HO177.out) (Kd.R_typed HO172.out) (by decide)) (fun k_ hk => ⟨hk.1.1.2, hk.2⟩))).2.1 (Kd.R_F (Kd.R_mono (ok' := (fun k_ => some k_ ≠ (.slice Ao20 t167.length co20 : Value).ownBlock ∧ some k_ ≠ (.slice Ao21 t170.length co21 : Value).ownBlock)) (Kd.R_apart' (HO177.out) (Kd.R_typed HO172.out) (by decide)) (fun k_ hk => ⟨hk.1.1.2, hk.2⟩))) (Kd.R_reads' (Kd.R_mono (ok' := (fun k_ => some k_ ≠ (.slice Ao20 t167.length co20 : Value).ownBlock ∧ some k_ ≠ (.slice Ao21 t170.length co21 : Value).ownBlock)) (Kd.R_apart' (HO180.out) (Kd.R_typed HO169.out) (by decide)) (fun k_ hk => ⟨hk.2, hk.1.1.2⟩))).2.1 (Kd.R_F (Kd.R_mono (ok' := (fun k_ => some k_ ≠ (.slice Ao20 t167.length co20 : Value).ownBlock ∧ some k_ ≠ (.slice Ao21 t170.length co21 : Value).ownBlock)) (Kd.R_apart' (HO180.out) (Kd.R_typed HO169.out) (by decide)) (fun k_ hk => ⟨hk.2, hk.1.1.2⟩))))) (Reps.c3 (show Kd.FK k34 _ _ (⟨t181, t182, t185⟩ : S34) [.string t181, .slice Ao27 t182.length co27, .slice Ao28 t185.length co28] from (k34_mkF _ _ (⟨t181, t182, t185⟩ : S34) (Kd.R_reads' (Kd.R_mono (ok' := (fun k_ => some k_ ≠ (.slice Ao20 t167.length co20 : Value).ownBlock ∧ some k_ ≠ (.slice Ao21 t170.length co21 : Value).ownBlock)) (Kd.R_apart' (HO184.out) (Kd.R_typed HO172.out) (by decide)) (fun k_ hk => ⟨hk.1.1.2, hk.2⟩))).2.1 (Kd.R_F (Kd.R_mono (ok' := (fun k_ => some k_ ≠ (.slice Ao20 t167.length co20 : Value).ownBlock ∧ some k_ ≠ (.slice Ao21 t170.length co21 : Value).ownBlock)) (Kd.R_apart' (HO184.out) (Kd.R_typed HO172.out) (by decide)) (fun k_ hk => ⟨hk.1.1.2, hk.2⟩))) (Kd.R_reads' (Kd.R_mono (ok' := (fun k_ => some k_ ≠ (.slice Ao20 t167.length co20 : Value).ownBlock ∧ some k_ ≠ (.slice Ao21 t170.length co21 : Value).ownBlock)) (Kd.R_apart' (HO187.out) (Kd.R_typed HO169.out) (by decide)) (fun k_ hk => ⟨hk.2, hk.1.1.2⟩))).2.1 (Kd.R_F (Kd.R_mono (ok' := (fun k_ => some k_ ≠ (.slice Ao20 t167.length co20 : Value).ownBlock ∧ some k_ ≠ (.slice Ao21 t170.length co21 : Value).ownBlock)) (Kd.R_apart' (HO187.out) (Kd.R_typed HO169.out) (by decide)) (fun k_ hk => ⟨hk.2, hk.1.1.2⟩))))) (Reps.none _ _)))); intro v189 w29 ho30 hb hg_ hnew_; clear hg_ hnew_; (first | rw [← Ny188.out] at ho30 | (simp only [Int.reduceToNat] at ho30; rw [← Ny188.out] at ho30)); have n0_ := Aside0.mk (Kd.R_below (by (with_reducible repeat (first | apply Kd.R_alloc | apply Kd.R_drewN | apply Kd.R_drew)); exact HO169.out) hb); have n1_ := Aside0.mk (Kd.R_below (by (with_reducible repeat (first | apply Kd.R_alloc | apply Kd.R_drewN | apply Kd.R_drew)); exact HO172.out) hb); have n2_ := Aside0.mk (Kd.N_lower ho30 (below_size (by repeat (first | (with_reducible first | exact HB.out | apply below_alloc | apply pw_below_drewN | apply below_drew1) | exact HB.out)))); have n3_ := Aside0.mk (below_step (by repeat (first | (with_reducible first | exact HB.out | apply below_alloc | apply pw_below_drewN | apply below_drew1) | exact HB.out)) hb); clear HO169; clear HO172; clear HB; clear HO177; clear HO180; clear HO184; clear HO187; have HO169 := n0_; have HO172 := n1_; have HO190 := n2_; have HB := n3_; clear n0_ n1_ n2_ n3_; clear hb ho30; obtain ⟨Ao31, co31, eo31⟩ := Kd.N_slice HO190.out; subst eo31) | (go_at_call 24; (with_reducible refine (item_Names.calls k _ _ y188 t191 _ ?side1 ?side2 A14.out).mono ?_); (case side1 => repeat (first | exact (Kd.N_reads' HO190.out).2.2 | (with_reducible refine Kd.C_alloc ?_ _) | (with_reducible refine Kd.C_drewN ?_ _) | (with_reducible refine Kd.C_drew ?_))); (case side2 => exact (Kd.N_reads' HO190.out).2.1); rintro e w32 ⟨v192, rfl, ho0, hb⟩; have n0_ := Aside0.mk (Kd.R_elder' (by (with_reducible repeat (first | apply Kd.R_alloc | apply Kd.R_drewN | apply Kd.R_drew)); exact HO169.out) (Kd.R_base ho0) hb); have n1_ := Aside0.mk (Kd.R_below (by (with_reducible repeat (first | apply Kd.R_alloc | apply Kd.R_drewN | apply Kd.R_drew)); exact HO172.out) hb); have n2_ := Aside0.mk (Kd.N_elder' (by (with_reducible repeat (first | apply Kd.N_alloc | apply Kd.N_drewN | apply Kd.N_drew)); exact HO190.out) (Kd.R_base ho0) hb); have n3_ := Aside0.mk (Kd.R_lower (Kd.R_new' ho0 (Kd.R_lt (by (with_reducible repeat (first | apply Kd.R_alloc | apply Kd.R_drewN | apply Kd.R_drew)); exact HO169.out))) (below_size (by repeat (first | (with_reducible first | exact HB.out | apply below_alloc | apply pw_below_drewN | apply below_drew1) | exact HB.out)))); have n4_ := Aside0.mk (below_step (by repeat (first | (with_reducible first | exact HB.out | apply below_alloc | apply pw_below_drewN | apply below_drew1) | exact HB.out)) hb); clear HO169; clear HO172; clear HO190; clear HB; have HO169 := n0_; have HO172 := n1_; have HO190 := n2_; have HO193 := n3_; have HB := n4_; clear n0_ n1_ n2_ n3_ n4_; (try clear hb); (try clear hb2); (try clear hk); (try clear hi); (try clear ho0)) | ((with_reducible refine gate_dst (N := 19) rfl ?_); (try (refine gate_guard (by rfl) ?_; dsimp only)); refine Kd.R_lit Kd.string _ 9 ?hg (N := 19) ?hd (xs := ([(⟨#[48, 49, 50, 51, 52, 53, 54, 97, 45, 120]⟩ : ByteArray), (⟨#[48, 49, 50, 51, 52, 53, 54, 97, 45, 120]⟩ : ByteArray)] : List ByteArray)) (inner := [.string (⟨#[48, 49, 50, 51, 52, 53, 54, 97, 45, 120]⟩ : ByteArray), .string (⟨#[48, 49, 50, 51, 52, 53, 54, 97, 45, 120]⟩ : ByteArray)]) (ok := fun _ => True) (okp := fun _ => True) ?hr ?hp (fun _ hk => hk) trivial (Below.refl _ _) (Nat.le_refl _) (by simp) ?_; (case hd => rfl); (case hg => rfl); (case hr => first | (go_simp; done) | (go_simp; rfl)); (case hp => exact (Reps.one (show Kd.M Kd.string _ _ _ (⟨#[48, 49, 50, 51, 52, 53, 54, 97, 45, 120]⟩ : ByteArray) [.string (⟨#[48, 49, 50, 51, 52, 53, 54, 97, 45, 120]⟩ : ByteArray)] from rfl) (Reps.one (show Kd.M Kd.string _ _ _ (⟨#[48, 49, 50, 51, 52, 53, 54, 97, 45, 120]⟩ : ByteArray) [.string (⟨#[48, 49, 50, 51, 52, 53, 54, 97, 45, 120]⟩ : ByteArray)] from rfl) (Reps.none _ _)))); intro v195 w33 ho34 hb hg_ hnew_; clear hg_ hnew_; (first | rw [← Ny194.out] at ho34 | (simp only [Int.reduceToNat] at ho34; rw [← Ny194.out] at ho34)); have n0_ := Aside0.mk (Kd.R_elder' (by (with_reducible repeat (first | apply Kd.R_alloc | apply Kd.R_drewN | apply Kd.R_drew)); exact HO169.out) (Kd.R_base ho34) hb); have n1_ := Aside0.mk (Kd.R_below (by (with_reducible repeat (first | apply Kd.R_alloc | apply Kd.R_drewN | apply Kd.R_drew)); exact HO172.out) hb); have n2_ := Aside0.mk (Kd.N_elder' (by (with_reducible repeat (first | apply Kd.N_alloc | apply Kd.N_drewN | apply Kd.N_drew)); exact HO190.out) (Kd.R_base ho34) hb); have n3_ := Aside0.mk (Kd.R_elder' (by (with_reducible repeat (first | apply Kd.R_alloc | apply Kd.R_drewN | apply Kd.R_drew)); exact HO193.out) (Kd.R_base ho34) hb); have n4_ := Aside0.mk (Kd.R_lower (Kd.R_new' (Kd.R_new' ho34 (Kd.R_lt (by (with_reducible repeat (first | apply Kd.R_alloc | apply Kd.R_drewN | apply Kd.R_drew)); exact HO169.out))) (Kd.R_lt (by (with_reducible repeat (first | apply Kd.R_alloc | apply Kd.R_drewN | apply Kd.R_drew)); exact HO193.out))) (below_size (by repeat (first | (with_reducible first | exact HB.out | apply below_alloc | apply pw_below_drewN | apply below_drew1) | exact HB.out)))); have n5_ := Aside0.mk (below_step (by repeat (first | (with_reducible first | exact HB.out | apply below_alloc | apply pw_below_drewN | apply below_drew1) | exact HB.out)) hb); clear HO169; clear HO172; clear HO190; clear HO193; clear HB; have HO169 := n0_; have HO172 := n1_; have HO190 := n2_; have HO193 := n3_; have HO196 := n4_; have HB := n5_; clear n0_ n1_ n2_ n3_ n4_ n5_; clear hb ho34; obtain ⟨Ao35, co35, eo35⟩ := Kd.R_slice HO193.out; subst eo35; obtain ⟨Ao36, co36, eo36⟩ := Kd.R_slice HO196.out; subst eo36) | (go_at_call 23; (with_reducible refine (hogsheadlaw0_SameTexts.calls k _ _ t191 _ _ y194 t197 _ ?side1 ?side2 ?side3 ?side4 A15.out).mono ?_); (case side1 => repeat (first | exact (Kd.R_reads' HO193.out).2.2 | (with_reducible refine Kd.C_alloc ?_ _) | (with_reducible refine Kd.C_drewN ?_ _) | (with_reducible refine Kd.C_drew ?_))); (case side2 => exact (Kd.R_reads' HO193.out).2.1); (case side3 => repeat (first | exact (Kd.R_reads' HO196.out).2.2 | (with_reducible refine Kd.C_alloc ?_ _) | (with_reducible refine Kd.C_drewN ?_ _) | (with_reducible refine Kd.C_drew ?_))); (case side4 => exact (Kd.R_reads' HO196.out).2.1); rintro e w' ⟨rfl, ⟨nd, rfl⟩⟩))
          go_ret
          exact ⟨by first | rfl | (simp [errW_none, errW_some] <;> rfl) | (simp [*, errW_none, errW_some] <;> rfl), by repeat (first | (with_reducible first | exact HB.out | apply below_alloc | apply pw_below_drewN | apply below_drew1) | exact HB.out)⟩
        · replace c11 := Bool.eq_false_iff.mpr c11
          subst c11
          have H1 : (some false) = some true := by rw [if_neg (show ¬ (false = true) by decide)] at H; exact H
          exact absurd H1 (by simp)
      · rw [if_neg c8] at H
        exact absurd H (by simp)
  · replace c2 := Bool.eq_false_iff.mpr c2
    subst c2
    have H1 : (some false) = some true := by rw [if_neg (show ¬ (false = true) by decide)] at H; exact H
    exact absurd H1 (by simp)
/-! ### hogsheadlaw0_Low: function 8 -/
def hogsheadlaw0_Low.f (a0 : Int) (a1 : Int) : Option (Int) := if (IntKind.u64.wrap (a1)) = 0 then (none) else (some (wrap64 (Int.tmod (IntKind.u64.wrap (a0)) (IntKind.u64.wrap (a1)))))
set_option maxHeartbeats 8000000 in
set_option maxRecDepth 100000 in
theorem hogsheadlaw0_Low.calls (a0 : Int) (a1 : Int) (r : Int) (w : World) (h : hogsheadlaw0_Low.f a0 a1 = some r) :
    Calls Tryd.prog 8 #[.int .i64 a0, .int .i64 a1] w fun e w' => e = .returned (.int .i64 r) ∧ Drawn0 w w' := by
  have H : (if (IntKind.u64.wrap (a1)) = 0 then (none) else (some (wrap64 (Int.tmod (IntKind.u64.wrap (a0)) (IntKind.u64.wrap (a1)))))) = some r := h
  clear h
  by_cases c3 : (IntKind.u64.wrap (a1)) = 0
  · rw [if_pos c3] at H
    exact absurd H (by simp)
  · rw [if_neg c3] at H
    have c3b0 : ((IntKind.u64.wrap (a1)) == 0) = false := beq_eq_false_iff_ne.mpr c3
    have c3b1 : ((IntKind.u64.wrap (a1)) != 0) = true := bne_iff_ne.mpr c3
    obtain rfl := Option.some.inj H
    go_enter Tryd.func8, Tryd.ntmps8
    go_wp2
    go_ret
    exact ⟨by first | rfl | (simp; done) | (simp [*]; done), by repeat (first | exact Drawn0.refl _ | apply Drawn0.step)⟩

/-! ### slices_Clone_string_string: function 28 -/
def slices_Clone_string_string.f (l0 : List ByteArray) : Option (List ByteArray) := (some (([] : List ByteArray) : List ByteArray)).bind fun y198 => (if y198.length + l0.length < 8796093022208 then (some (y198 ++ l0)) else (none))
set_option maxHeartbeats 8000000 in
set_option maxRecDepth 100000 in
theorem slices_Clone_string_string.calls (A0 : Option Addr) (c0 : Nat) (l0 : List ByteArray) (r : List ByteArray) (w : World) (hr0 : Kd.C Kd.string w A0 l0.length l0) (hc0 : l0.length ≤ c0) (h : slices_Clone_string_string.f l0 = some r) :
    Calls Tryd.prog 28 #[.slice A0 l0.length c0] w fun e w' => ∃ v0_ : Value, e = .returned (v0_) ∧ Kd.R Kd.string 9 w' w.heap.size (fun _ => True) v0_ r ∧ Below w.heap.size w w' := by
  rcases A0 with _ | a0x
  · have hl_ : l0 = [] := List.eq_nil_of_length_eq_zero (by
      rcases Nat.eq_zero_or_pos l0.length with h_ | h_
      · exact h_
      · obtain ⟨ad_, e_, _⟩ := hr0.2.2 h_
        cases e_)
    subst hl_
    have hnl : ∀ (W : World) (n c : Nat), (binOp .eql 31 (.slice none n c) (.slice none 0 0)).run Tryd.prog W = .ok (.bool true) W := fun W n c => Lib.run_eql_slice_nil W _ _ none n c 0 0 Tryd.underlying31
    obtain rfl : r = [] := by
      unfold slices_Clone_string_string.f at h
      simpa using h.symm
    go_enter Tryd.func28, Tryd.ntmps28
    go_wp2
    go_ret
    exact ⟨_, rfl, Kd.R_nil _ _ _ _ _, Below.refl _ _⟩
  have hnl : ∀ (W : World) (n c : Nat), (binOp .eql 31 (.slice (some a0x) n c) (.slice none 0 0)).run Tryd.prog W = .ok (.bool false) W := fun W n c => Lib.run_eql_slice_nil W _ _ (some a0x) n c 0 0 Tryd.underlying31
  have HR0 := Aside0.mk hr0
  have HC0 := Aside0.mk hc0
  clear hr0 hc0
  have HB := Aside0.mk (Below.refl w.heap.size w)
  have H : ((some (([] : List ByteArray) : List ByteArray)).bind fun y198 => (if y198.length + l0.length < 8796093022208 then (some (y198 ++ l0)) else (none))) = some r := h
  clear h
  obtain ⟨y198, hy198⟩ : ∃ y_ : List ByteArray, y_ = (([] : List ByteArray)) := ⟨_, rfl⟩
  replace H : (if y198.length + l0.length < 8796093022208 then (some (y198 ++ l0)) else (none)) = some r := by first | (rw [hy198]; with_reducible exact H) | (have H2_ := (Option.bind_some _ _).symm.trans H; rw [hy198]; with_reducible exact H2_) | (have H2_ := (Option.bind_some _ _).symm.trans H; with_reducible exact H2_) | with_reducible exact H | (rw [hy198]; exact H) | exact H
  have Ny198 := Aside0.mk hy198
  clear hy198
  by_cases c2 : y198.length + l0.length < 8796093022208
  · rw [if_pos c2] at H
    have LMc2 := Aside0.mk c2
    clear c2
    obtain ⟨y201, hy201⟩ : ∃ y_ : List ByteArray, y_ = (y198 ++ l0) := ⟨_, rfl⟩
    replace H : (some y201) = some r := by first | (rw [hy201]; with_reducible exact H) | (have H2_ := (Option.bind_some _ _).symm.trans H; rw [hy201]; with_reducible exact H2_) | (have H2_ := (Option.bind_some _ _).symm.trans H; with_reducible exact H2_) | with_reducible exact H | (rw [hy201]; exact H) | exact H
    have Ny201 := Aside0.mk hy201
    clear hy201
    obtain rfl := Option.some.inj H
    go_enter Tryd.func28, Tryd.ntmps28
    go_wp2_with (first | ((with_reducible refine gate_dst (N := 5) rfl ?_); refine Kd.R_lit Kd.string _ 9 ?hg (N := 5) ?hd (xs := ([] : List ByteArray)) (inner := []) (ok := fun _ => True) (okp := fun _ => True) ?hr ?hp (fun _ hk => hk) trivial (Below.refl _ _) (Nat.le_refl _) (by simp) ?_; (case hd => rfl); (case hg => rfl); (case hr => first | (go_simp; done) | (go_simp; rfl)); (case hp => exact (Reps.none _ _)); intro v199 w3 ho4 hb hg_ hnew_; clear hg_ hnew_; (first | rw [← Ny198.out] at ho4 | (simp only [Int.reduceToNat] at ho4; rw [← Ny198.out] at ho4)); have n0_ := Aside0.mk (Kd.R_lower ho4 (below_size (by repeat (first | (with_reducible first | exact HB.out | apply below_alloc | apply pw_below_drewN | apply below_drew1) | exact HB.out)))); have n1_ := Aside0.mk (below_step (by repeat (first | (with_reducible first | exact HB.out | apply below_alloc | apply pw_below_drewN | apply below_drew1) | exact HB.out)) hb); clear HB; have HO200 := n0_; have HB := n1_; clear n0_ n1_; clear hb ho4) | ((with_reducible refine gate_builtin (b := .append) (xs := #[.tmp 5, .tmp 6]) rfl ?_); at_builtin; refine Kd.R_append_rows Kd.string (w0 := w) w.heap.size rfl (.tmp 5) (.tmp 6) 31 9 (.string ⟨#[]⟩) 16 rfl Tryd.underlying31 info9 rfl (by decide) (by omega) v199 y198 l0 _ _ _ (fun _ => True) (fun _ => False) rfl rfl ?aO ?aR (fun _ _ h => h) (fun _ h => h.elim) ?aF ?aB ?aS ?aL ?_; (case aR => repeat (first | exact (Kd.C_below HR0.out HB.out) | (with_reducible refine Kd.C_alloc ?_ _) | (with_reducible refine Kd.C_drewN ?_ _) | (with_reducible refine Kd.C_drew ?_))); (case aB => exact (by repeat (first | (with_reducible first | exact HB.out | apply below_alloc | apply pw_below_drewN | apply below_drew1) | exact HB.out))); (case aF => exact (fun _ _ => trivial)); (case aO => exact (by (with_reducible repeat (first | apply Kd.R_alloc | apply Kd.R_drewN | apply Kd.R_drew)); exact HO200.out)); (case aS => exact (below_size (by repeat (first | (with_reducible first | exact HB.out | apply below_alloc | apply pw_below_drewN | apply below_drew1) | exact HB.out)))); (case aL => have := LMc2.out; omega); intro v202 w5 ho hb hg hat; rw [← Ny201.out] at ho; have n0_ := Aside0.mk (hb); have n1_ := Aside0.mk (ho); clear HB; clear HO200; have HB := n0_; have HO203 := n1_; clear n0_ n1_; clear ho hb hg hat))
    go_ret
    exact ⟨_, by first | rfl | (simp [errW_none, errW_some] <;> rfl) | (simp [*, errW_none, errW_some] <;> rfl), by (with_reducible repeat (first | apply Kd.R_alloc | apply Kd.R_drewN | apply Kd.R_drew)); exact HO203.out, by repeat (first | (with_reducible first | exact HB.out | apply below_alloc | apply pw_below_drewN | apply below_drew1) | exact HB.out)⟩
  · rw [if_neg c2] at H
    exact absurd H (by simp)

end Go.Proofs.YtnbcmmgkdpekjaaDoor.P
