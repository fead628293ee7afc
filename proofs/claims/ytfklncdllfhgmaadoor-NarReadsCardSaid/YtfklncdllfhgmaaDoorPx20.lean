/- Laid by a program of this session (wip/pr), after the printer of the kit: the functions that a statement reaches as plain Lean functions, and that the calls of the machine come to them. No condition. -/
import Derived.Test.YtfklncdllfhgmaaDoorPx0
import Derived.Test.YtfklncdllfhgmaaDoorPx9
import Derived.Test.YtfklncdllfhgmaaDoorPx10
import Derived.Test.YtfklncdllfhgmaaDoorPx19
namespace Go.Proofs.YtfklncdllfhgmaaDoor.P
open Go.RowKit Go.Proofs.YtfklncdllfhgmaaDoorX Go.Proofs.YtfklncdllfhgmaaDoorW.PrintWords Go.Proofs.YtfklncdllfhgmaaDoorW.PrintLast Go.Proofs.YtfklncdllfhgmaaDoorW.PrintMore
attribute [local go_sem] max2_int min2_int max_two min_two max_three min_three max_four min_four   -- for this text's walks alone
set_option linter.unusedVariables false
set_option linter.unusedSimpArgs false

/-! ### hogsheadlaw0_OverNodes: function 24 -/
def hogsheadlaw0_OverNodes.l0 : Nat → List (S48) → Int → Option (Unit)
  | 0, _, _ => none
  | k + 1, x0, x2 => if x2 < (x0.length : Int) then (if 0 ≤ x2 then (hogsheadlaw0_OverNodes.l0 k (x0.set (x2 : Int).toNat (⟨(⟨#[111, 118, 101, 114]⟩ : ByteArray), 0, (⟨#[]⟩ : ByteArray)⟩ : S48)) (wrap64 (x2 + 1))) else (none)) else (if x0.length < 3518437208883 then (some ()) else (none))
def hogsheadlaw0_OverNodes.f (k : Nat) (l0 : List (S48)) : Option (Unit) := hogsheadlaw0_OverNodes.l0 k l0 0
theorem hogsheadlaw0_OverNodes.mono_l : ∀ k, (∀ y0 y1, LeO (hogsheadlaw0_OverNodes.l0 k y0 y1) (hogsheadlaw0_OverNodes.l0 (k + 1) y0 y1))
  | 0 => fun _ _ r h => by simp [hogsheadlaw0_OverNodes.l0] at h
  | k + 1 => by
    have ih0 := hogsheadlaw0_OverNodes.mono_l k
    · intro y0 y1
      unfold hogsheadlaw0_OverNodes.l0
      repeat' first
      | (with_reducible exact ih0 _ _)
      | (with_reducible exact LeO.refl _)
      | (with_reducible exact LeO.none _)
      | (with_reducible refine LeO.ite ?_ ?_)
      | (with_reducible refine LeO.bind ?_ (fun _ => ?_))
      | exact ih0 _ _
      | exact LeO.none _
      | refine LeO.ite ?_ ?_
      | refine LeO.bind ?_ (fun _ => ?_)
theorem hogsheadlaw0_OverNodes.mono : ∀ a0 k, LeO (hogsheadlaw0_OverNodes.f k a0) (hogsheadlaw0_OverNodes.f (k + 1) a0) := by
  intro a0 k
  have ih0 := hogsheadlaw0_OverNodes.mono_l k
  unfold hogsheadlaw0_OverNodes.f
  repeat' first
      | (with_reducible exact ih0 _ _)
      | (with_reducible exact LeO.refl _)
      | (with_reducible exact LeO.none _)
      | (with_reducible refine LeO.ite ?_ ?_)
      | (with_reducible refine LeO.bind ?_ (fun _ => ?_))
      | exact ih0 _ _
      | exact LeO.none _
      | refine LeO.ite ?_ ?_
      | refine LeO.bind ?_ (fun _ => ?_)
set_option maxHeartbeats 8000000 in
set_option maxRecDepth 100000 in
theorem hogsheadlaw0_OverNodes.calls (k : Nat) (P0_ : Nat → Prop) (u9000_ : Value) (l0 : List (S48)) (w0 w : World) (hB : Below w0.heap.size w0 w) (ho0 : Kd.R k48 48 w w0.heap.size P0_ u9000_ l0) (h : hogsheadlaw0_OverNodes.f k l0 = some ()) :
    Calls Tryd.prog 24 #[u9000_] w fun e w' => e = .returned (.tuple #[]) ∧ Below w0.heap.size w0 w' ∧ Kept w w' (fun k_ => P0_ k_) := by
  have hu48 := Tryd.underlying48
  have HO0 := Aside0.mk (show Kd.R k48 48 w w0.heap.size (fun k_ => (P0_ k_ ∨ w.heap.size ≤ k_)) u9000_ l0 from Kd.R_mono ho0 (fun k_ hk => (.inl hk)))
  have HK := Aside0.mk (Kept.refl w (fun k_ => P0_ k_))
  have HW0 := Aside0.mk hB.size
  have HB := Aside0.mk hB
  clear hB
  have H : (hogsheadlaw0_OverNodes.l0 k l0 0) = some () := h
  clear h
  have H' := Aside0.mk H
  clear H
  go_enter Tryd.func24, Tryd.ntmps24
  go_wp2
  go_loopg [2] k (fun kq v2 w' => ∃ (x0_1 : List (S48)) (x2_1 : Int), v2 = .int .i64 x2_1 ∧ Aside0 (hogsheadlaw0_OverNodes.l0 kq x0_1 x2_1 = some ()) ∧ Aside0 (kq ≤ k) ∧ Aside0 (Kd.R k48 48 w' w0.heap.size (fun k_ => (P0_ k_ ∨ w.heap.size ≤ k_)) u9000_ x0_1) ∧ Aside0 (Kept w w' (fun k_ => P0_ k_)) ∧ Aside0 (Below w0.heap.size w0 w'))
  case atStart => exact ⟨(l0), (0), (by first | rfl | (simp; done) | (simp [*]; done)), H', ⟨Nat.le_refl _⟩, ⟨by (with_reducible repeat (first | apply Kd.R_alloc | apply Kd.R_drewN | apply Kd.R_drew)); exact HO0.out⟩, ⟨by repeat (first | (with_reducible first | exact HK.out | apply Kept.alloc | apply Kept.drewN | apply Kept.drew) | exact HK.out)⟩, ⟨by repeat (first | (with_reducible first | exact HB.out | apply below_alloc | apply pw_below_drewN | apply below_drew1) | exact HB.out)⟩⟩
  case round =>
    clear H'
    obtain ⟨x0_1, x2_1, rfl, HA, HK1, HO_0, HK, HB⟩ := hrel
    cases gk with
    | zero => exact absurd HA.out (by simp [hogsheadlaw0_OverNodes.l0])
    | succ k1 =>
      have H := HA.out
      clear HA
      simp only [hogsheadlaw0_OverNodes.l0] at H
      by_cases c2 : x2_1 < (x0_1.length : Int)
      · rw [if_pos c2] at H
        have c2b0 : decide (x2_1 < (x0_1.length : Int)) = true := decide_eq_true c2
        clear c2
        by_cases c3 : 0 ≤ x2_1
        · rw [if_pos c3] at H
          have c3b0 : decide (0 ≤ x2_1) = true := decide_eq_true c3
          clear c3
          obtain ⟨y340, hy340⟩ : ∃ y_ : List (S48), y_ = (x0_1.set (x2_1 : Int).toNat (⟨(⟨#[111, 118, 101, 114]⟩ : ByteArray), 0, (⟨#[]⟩ : ByteArray)⟩ : S48)) := ⟨_, rfl⟩
          replace H : (hogsheadlaw0_OverNodes.l0 k1 y340 (wrap64 (x2_1 + 1))) = some () := by first | (rw [hy340]; with_reducible exact H) | (have H2_ := (Option.bind_some _ _).symm.trans H; rw [hy340]; with_reducible exact H2_) | (have H2_ := (Option.bind_some _ _).symm.trans H; with_reducible exact H2_) | with_reducible exact H | (rw [hy340]; exact H) | exact H
          have Ny340 := Aside0.mk hy340
          clear hy340
          have H' := Aside0.mk H
          clear H
          obtain ⟨Ao5, co5, eo5⟩ := Kd.R_slice HO_0.out
          subst eo5
          have p4 : 0 ≤ (x2_1 : Int) := of_decide_eq_true (by first | (with_reducible assumption) | assumption)
          have q4 : (x2_1 : Int) < ((x0_1.length : Int) : Int) := of_decide_eq_true (by first | (with_reducible assumption) | assumption)
          obtain ⟨go4, co4, eo4, gb4, gl4, cl4, HG4⟩ := Kd.R_form HO_0.out (by omega)
          (first | cases eo4 | (injection eo4 with ea_ en_ ec_; (first | subst ea_ | (injection ea_ with ea_; subst ea_)); subst ec_; clear en_))
          have GB4 := Aside0.mk gb4
          have GG4 := Aside0.mk HG4
          clear gb4 gl4 HG4
          have HMgo4 := Aside0.mk (show (P0_ go4 ∨ w.heap.size ≤ go4) from (HO_0.out.1 _ rfl))
          obtain ⟨ce4, hcl4, hM4, hcc4, hfr4⟩ := Kd.R_elem HO_0.out z48 (x2_1 : Int) p4 q4
          obtain rfl := k48_openM hM4
          have hx4_0 : wr.cell? ⟨go4, (x2_1 : Int).toNat * 3, none⟩ = some (.string ((rd_T48 x0_1 x2_1).f0)) := hcc4 0 _ rfl
          have hx4_1 : wr.cell? ⟨go4, (x2_1 : Int).toNat * 3 + 1, none⟩ = some (.int .i64 ((rd_T48 x0_1 x2_1).f1)) := hcc4 1 _ rfl
          have hx4_2 : wr.cell? ⟨go4, (x2_1 : Int).toNat * 3 + 2, none⟩ = some (.string ((rd_T48 x0_1 x2_1).f2)) := hcc4 2 _ rfl
          have hf4_0 : wr.frozen? ⟨go4, (x2_1 : Int).toNat * 3, none⟩ = false := hfr4 0
          have hf4_1 : wr.frozen? ⟨go4, (x2_1 : Int).toNat * 3 + 1, none⟩ = false := hfr4 1
          have hf4_2 : wr.frozen? ⟨go4, (x2_1 : Int).toNat * 3 + 2, none⟩ = false := hfr4 2
          clear hcl4 hcc4 hfr4 hM4
          replace p4 := eq_true p4
          replace q4 := eq_true q4
          have HX6 := Aside0.mk (show Kd.R k48 48 wr w0.heap.size (fun k_ => (P0_ k_ ∨ w.heap.size ≤ k_)) (.slice (some ⟨go4, 0, none⟩) x0_1.length co5) x0_1 from (by (with_reducible repeat (first | apply Kd.R_alloc | apply Kd.R_drewN | apply Kd.R_drew)); exact HO_0.out))
          obtain ⟨ce6, hcl6, hM6, hcc6, hfr6⟩ := Kd.R_elem HX6.out z48 (x2_1 : Int) (of_decide_eq_true (by first | (with_reducible assumption) | assumption)) (by have h_ : (x2_1 : Int) < ((x0_1.length : Int) : Int) := of_decide_eq_true (by first | (with_reducible assumption) | assumption); first | exact h_ | (have e_ := (Kd.R_reads' HO_0.out).1; omega) | simpa using h_)
          obtain rfl := k48_openM hM6
          have HP6 := Kd.R_seg HX6.out (x2_1 : Int) (of_decide_eq_true (by first | (with_reducible assumption) | assumption)) (by have h_ : (x2_1 : Int) < ((x0_1.length : Int) : Int) := of_decide_eq_true (by first | (with_reducible assumption) | assumption); first | exact h_ | (have e_ := (Kd.R_reads' HO_0.out).1; omega) | simpa using h_) (seg := [.string (⟨#[111, 118, 101, 114]⟩ : ByteArray), .int .i64 0, .string (⟨#[]⟩ : ByteArray)]) (j := 0) hcl6 hcc6 (show 3 ≤ 3 from by decide) (x' := (⟨(⟨#[111, 118, 101, 114]⟩ : ByteArray), 0, (⟨#[]⟩ : ByteArray)⟩ : S48)) (k48_mkM _ _ _ (⟨(⟨#[111, 118, 101, 114]⟩ : ByteArray), 0, (⟨#[]⟩ : ByteArray)⟩ : S48) ) (fun _ hk => hk)
          have hx6_0 := hcc6 0 _ rfl
          (try simp only [show (k48).sz = 3 from rfl, Nat.mul_one, Nat.add_zero] at hx6_0)
          have hf6_0 := hfr6 0
          (try simp only [show (k48).sz = 3 from rfl, Nat.mul_one, Nat.add_zero] at hf6_0)
          have hx6_1 := hcc6 1 _ rfl
          (try simp only [show (k48).sz = 3 from rfl, Nat.mul_one, Nat.add_zero] at hx6_1)
          have hf6_1 := hfr6 1
          (try simp only [show (k48).sz = 3 from rfl, Nat.mul_one, Nat.add_zero] at hf6_1)
          have hx6_2 := hcc6 2 _ rfl
          (try simp only [show (k48).sz = 3 from rfl, Nat.mul_one, Nat.add_zero] at hx6_2)
          have hf6_2 := hfr6 2
          (try simp only [show (k48).sz = 3 from rfl, Nat.mul_one, Nat.add_zero] at hf6_2)
          clear hcl6 hcc6 hfr6 hM6
          go_wp2_with (first | ((with_reducible refine gate_store (t := 48) (p := 12) rfl ?_); refine store_event (t := 48) (p := 12) (v := ?vo_w7) (w1 := (((wr.setCell ⟨go4, (x2_1 : Int).toNat * 3, none⟩ (.string (⟨#[111, 118, 101, 114]⟩ : ByteArray))).setCell ⟨go4, (x2_1 : Int).toNat * 3 + 1, none⟩ (.int .i64 0)).setCell ⟨go4, (x2_1 : Int).toNat * 3 + 2, none⟩ (.string (⟨#[]⟩ : ByteArray)))) ?hg ?ho ?hn ?hr ?_; (case ho => rfl); (case hg => rfl); (case hn => rfl); (case hr => first | (go_simp; done) | (go_simp; rfl)); intro w7 hw; have hg : wr.grownBy w7 (some go4) := (by rw [hw]; exact HP6.2); have hp_ : Kd.R k48 48 w7 w0.heap.size (fun k_ => (P0_ k_ ∨ w.heap.size ≤ k_)) (.slice (some ⟨go4, 0, none⟩) x0_1.length co5) y340 := (by rw [hw, Ny340.out]; exact HP6.1); clear HP6; have n0_ := Aside0.mk (hp_); have n1_ := Aside0.mk ((by rw [hw]; exact below_set (below_set (below_set (HB.out) GB4.out) GB4.out) GB4.out : Below w0.heap.size w0 w7)); have n2_ := Aside0.mk (Kept.of_grown (S := (fun k_ => P0_ k_)) hg (by repeat (first | (with_reducible first | exact HK.out | apply Kept.alloc | apply Kept.drewN | apply Kept.drew) | exact HK.out)) (fun k_ e_ => (HO_0.out.1 k_ e_))); clear HO_0; clear HB; clear HK; have HO_0 := n0_; have HB := n1_; have HK := n2_; clear n0_ n1_ n2_; clear hg hw hp_))
          go_roundg k1
          case measure => have := HK1.out; omega
          case rel => exact ⟨(y340), (wrap64 (x2_1 + 1)), (by first | rfl | (simp; done) | (simp [*]; done)), H', ⟨by have := HK1.out; omega⟩, ⟨by (with_reducible repeat (first | apply Kd.R_alloc | apply Kd.R_drewN | apply Kd.R_drew)); exact HO_0.out⟩, ⟨by repeat (first | (with_reducible first | exact HK.out | apply Kept.alloc | apply Kept.drewN | apply Kept.drew) | exact HK.out)⟩, ⟨by repeat (first | (with_reducible first | exact HB.out | apply below_alloc | apply pw_below_drewN | apply below_drew1) | exact HB.out)⟩⟩
        · rw [if_neg c3] at H
          exact absurd H (by simp)
      · rw [if_neg c2] at H
        have c2b0 : decide (x2_1 < (x0_1.length : Int)) = false := decide_eq_false c2
        clear c2
        by_cases c8 : x0_1.length < 3518437208883
        · rw [if_pos c8] at H
          have LMc8 := Aside0.mk c8
          clear c8
          obtain ⟨y341, hy341⟩ : ∃ y_ : List (S48), y_ = (x0_1 ++ [(⟨(⟨#[111, 118, 101, 114]⟩ : ByteArray), 0, (⟨#[]⟩ : ByteArray)⟩ : S48)]) := ⟨_, rfl⟩
          replace H : (some ()) = some () := by first | (rw [hy341]; with_reducible exact H) | (have H2_ := (Option.bind_some _ _).symm.trans H; rw [hy341]; with_reducible exact H2_) | (have H2_ := (Option.bind_some _ _).symm.trans H; with_reducible exact H2_) | with_reducible exact H | (rw [hy341]; exact H) | exact H
          have Ny341 := Aside0.mk hy341
          clear hy341
          obtain ⟨Ao9, co9, eo9⟩ := Kd.R_slice HO_0.out
          subst eo9
          go_wp2_with (first | ((with_reducible refine gate_builtin (b := .append) (xs := #[.tmp 13, .tmp 15]) rfl ?_); at_builtin; refine Kd.R_append k48 (w0 := w0) w0.heap.size rfl (.tmp 13) (.tmp 15) 23 48 (.agg #[(.string ⟨#[]⟩), (.int .i64 0), (.string ⟨#[]⟩)]) 40 rfl Tryd.underlying23 info48 rfl (by decide) (by omega) (.slice Ao9 x0_1.length co9) x0_1 (⟨(⟨#[111, 118, 101, 114]⟩ : ByteArray), 0, (⟨#[]⟩ : ByteArray)⟩ : S48) [.string (⟨#[111, 118, 101, 114]⟩ : ByteArray), .int .i64 0, .string (⟨#[]⟩ : ByteArray)] (fun k_ => (P0_ k_ ∨ w.heap.size ≤ k_)) (fun _ => False) rfl rfl ?aP (fun _ hk => hk.elim) ?aF ?aO ?aB ?aS ?aL ?_; (case aP => exact k48_mkM _ _ _ (⟨(⟨#[111, 118, 101, 114]⟩ : ByteArray), 0, (⟨#[]⟩ : ByteArray)⟩ : S48)); (case aB => exact (by repeat (first | (with_reducible first | exact HB.out | apply below_alloc | apply pw_below_drewN | apply below_drew1) | exact HB.out))); (case aF => exact (fun k_ hk => (.inr (Nat.le_trans (by first | exact HK.out.1 | exact (show Kept w _ (fun k_ => P0_ k_) from by repeat (first | (with_reducible first | exact HK.out | apply Kept.alloc | apply Kept.drewN | apply Kept.drew) | exact HK.out)).1) hk)))); (case aO => exact (by (with_reducible repeat (first | apply Kd.R_alloc | apply Kd.R_drewN | apply Kd.R_drew)); exact HO_0.out)); (case aS => exact (below_size (by repeat (first | (with_reducible first | exact HB.out | apply below_alloc | apply pw_below_drewN | apply below_drew1) | exact HB.out)))); (case aL => have := LMc8.out; omega); intro v342 w10 ho hb hg hat; rw [← Ny341.out] at ho; have n0_ := Aside0.mk (hb); have n1_ := Aside0.mk (Kept.of_grown (S := (fun k_ => P0_ k_)) hg (by repeat (first | (with_reducible first | exact HK.out | apply Kept.alloc | apply Kept.drewN | apply Kept.drew) | exact HK.out)) (fun k_ e_ => (HO_0.out.1 k_ e_))); have n2_ := Aside0.mk (ho); clear HB; clear HK; clear HO_0; have HB := n0_; have HK := n1_; have HO343 := n2_; clear n0_ n1_ n2_; clear ho hb hg hat))
          first | go_end0 | ((try simp only [Exit.inBlock, Exit.then]); refine bodyPost_ret (results_none rfl _ _ _) rfl ?_)
          exact ⟨by first | rfl | (simp [errW_none, errW_some] <;> rfl) | (simp [*, errW_none, errW_some] <;> rfl), by repeat (first | (with_reducible first | exact HB.out | apply below_alloc | apply pw_below_drewN | apply below_drew1) | exact HB.out), by repeat (first | (with_reducible first | exact HK.out | apply Kept.alloc | apply Kept.drewN | apply Kept.drew) | exact HK.out)⟩
        · rw [if_neg c8] at H
          exact absurd H (by simp)

/-! ### hogsheadlaw5_NarReads: function 4 -/
def hogsheadlaw5_NarReads.f (k : Nat) (l0 : List Int) : Option (Bool) := if (l0.length : Int) > 6000 then ((hogsheadlaw5_awake.f k).bind fun t344 => (some t344)) else ((hogsheadlaw0_LendBytes.f l0).bind fun t345 => ((nar_Read.f k t345).bind fun bt348 => ((hogsheadref5_Read.f k l0).bind fun bt352 => ((hogsheadlaw0_SameNodes.f k bt348.1 bt352.1).bind fun t356 => (if t356 = true then ((hogsheadlaw0_Num.f bt348.2).bind fun t357 => (if t357 = bt352.2 then ((hogsheadlaw0_KeptBytes.f k t345 l0).bind fun t358 => ((hogsheadlaw0_OverNodes.f k bt348.1).bind fun _ => (if t358 = true then ((hogsheadlaw0_KeptBytes.f k t345 l0).bind fun t359 => (if t359 = true then ((hogsheadlaw5_awake.f k).bind fun t360 => (some t360)) else (some false))) else (some false)))) else ((hogsheadlaw0_OverNodes.f k bt348.1).bind fun _ => (some false)))) else ((hogsheadlaw0_OverNodes.f k bt348.1).bind fun _ => (some false)))))))
theorem hogsheadlaw5_NarReads.mono : ∀ a0 k, LeO (hogsheadlaw5_NarReads.f k a0) (hogsheadlaw5_NarReads.f (k + 1) a0) := by
  intro a0 k
  unfold hogsheadlaw5_NarReads.f
  repeat' first
      | (with_reducible exact hogsheadlaw0_KeptBytes.mono _ _ _)
      | (with_reducible exact hogsheadlaw0_OverNodes.mono _ _)
      | (with_reducible exact hogsheadlaw0_SameNodes.mono _ _ _)
      | (with_reducible exact hogsheadlaw5_awake.mono _)
      | (with_reducible exact hogsheadref5_Read.mono _ _)
      | (with_reducible exact nar_Read.mono _ _)
      | (with_reducible exact LeO.refl _)
      | (with_reducible exact LeO.none _)
      | (with_reducible refine LeO.ite ?_ ?_)
      | (with_reducible refine LeO.bind ?_ (fun _ => ?_))
      | exact hogsheadlaw0_KeptBytes.mono _ _ _
      | exact hogsheadlaw0_OverNodes.mono _ _
      | exact hogsheadlaw0_SameNodes.mono _ _ _
      | exact hogsheadlaw5_awake.mono _
      | exact hogsheadref5_Read.mono _ _
      | exact nar_Read.mono _ _
      | exact LeO.none _
      | refine LeO.ite ?_ ?_
      | refine LeO.bind ?_ (fun _ => ?_)
set_option maxHeartbeats 8000000 in
set_option maxRecDepth 100000 in
theorem hogsheadlaw5_NarReads.calls (k : Nat) (A0 : Option Addr) (c0 : Nat) (l0 : List Int) (r : Bool) (w : World) (hr0 : Kd.C (Kd.int .u8) w A0 l0.length l0) (hc0 : l0.length ≤ c0) (h : hogsheadlaw5_NarReads.f k l0 = some true) :
    Calls Tryd.prog 4 #[.slice A0 l0.length c0] w fun e w' => e = .returned (.bool true) ∧ Below w.heap.size w w' := by
  have HR0 := Aside0.mk hr0
  have HC0 := Aside0.mk hc0
  clear hr0 hc0
  have HB := Aside0.mk (Below.refl w.heap.size w)
  have H : (if (l0.length : Int) > 6000 then ((hogsheadlaw5_awake.f k).bind fun t344 => (some t344)) else ((hogsheadlaw0_LendBytes.f l0).bind fun t345 => ((nar_Read.f k t345).bind fun bt348 => ((hogsheadref5_Read.f k l0).bind fun bt352 => ((hogsheadlaw0_SameNodes.f k bt348.1 bt352.1).bind fun t356 => (if t356 = true then ((hogsheadlaw0_Num.f bt348.2).bind fun t357 => (if t357 = bt352.2 then ((hogsheadlaw0_KeptBytes.f k t345 l0).bind fun t358 => ((hogsheadlaw0_OverNodes.f k bt348.1).bind fun _ => (if t358 = true then ((hogsheadlaw0_KeptBytes.f k t345 l0).bind fun t359 => (if t359 = true then ((hogsheadlaw5_awake.f k).bind fun t360 => (some t360)) else (some false))) else (some false)))) else ((hogsheadlaw0_OverNodes.f k bt348.1).bind fun _ => (some false)))) else ((hogsheadlaw0_OverNodes.f k bt348.1).bind fun _ => (some false)))))))) = some true := h
  clear h
  by_cases c2 : (l0.length : Int) > 6000
  · rw [if_pos c2] at H
    have c2b0 : decide (6000 < (l0.length : Int)) = true := decide_eq_true c2
    have c2b1 : decide (6000 < l0.length) = true := decide_eq_true (by omega)
    clear c2
    replace H := Option.bind_eq_some_iff.mp H
    obtain ⟨t344, A30, H⟩ := H
    replace H : (some t344) = some true := H
    have A3 := Aside0.mk A30
    clear A30
    obtain rfl := Option.some.inj H
    go_enter Tryd.func4, Tryd.ntmps4
    go_wp2_with (first | ((with_reducible refine gate_callee (f := 9) rfl ?_); refine goesL_ (some 12) rfl rfl Tryd.func9 (by kernel_rfl) rfl #[] rfl (by (try simp only [List.map_toArray, List.map_cons, List.map_nil]); first | done | rfl | (simp only [List.length_drop, List.length_take]; rfl)) ?_; (with_reducible refine (hogsheadlaw5_awake.calls k  true _ A3.out).mono ?_); rintro e w4 ⟨rfl, hb⟩; refine ⟨_, rfl, ?_⟩; (try (have n9_ := Aside0.mk (Room.below (by (with_reducible repeat (first | apply Room.alloc | apply Room.drewN | apply Room.drew)); exact RM.out) hb); clear RM; have RM := n9_; clear n9_)); have n0_ := Aside0.mk (below_step (by repeat (first | (with_reducible first | exact HB.out | apply below_alloc | apply pw_below_drewN | apply below_drew1) | exact HB.out)) hb); clear HB; have HB := n0_; clear n0_; (try clear hb); (try clear hb2); (try clear hk); (try clear hi)))
    go_ret
    exact ⟨by first | rfl | (simp [errW_none, errW_some] <;> rfl) | (simp [*, errW_none, errW_some] <;> rfl), by repeat (first | (with_reducible first | exact HB.out | apply below_alloc | apply pw_below_drewN | apply below_drew1) | exact HB.out)⟩
  · rw [if_neg c2] at H
    have c2b0 : decide (6000 < (l0.length : Int)) = false := decide_eq_false c2
    have c2b1 : decide (6000 < l0.length) = false := decide_eq_false (by omega)
    clear c2
    replace H := Option.bind_eq_some_iff.mp H
    obtain ⟨t345, A50, H⟩ := H
    replace H : ((nar_Read.f k t345).bind fun bt348 => ((hogsheadref5_Read.f k l0).bind fun bt352 => ((hogsheadlaw0_SameNodes.f k bt348.1 bt352.1).bind fun t356 => (if t356 = true then ((hogsheadlaw0_Num.f bt348.2).bind fun t357 => (if t357 = bt352.2 then ((hogsheadlaw0_KeptBytes.f k t345 l0).bind fun t358 => ((hogsheadlaw0_OverNodes.f k bt348.1).bind fun _ => (if t358 = true then ((hogsheadlaw0_KeptBytes.f k t345 l0).bind fun t359 => (if t359 = true then ((hogsheadlaw5_awake.f k).bind fun t360 => (some t360)) else (some false))) else (some false)))) else ((hogsheadlaw0_OverNodes.f k bt348.1).bind fun _ => (some false)))) else ((hogsheadlaw0_OverNodes.f k bt348.1).bind fun _ => (some false)))))) = some true := H
    have A5 := Aside0.mk A50
    clear A50
    replace H := Option.bind_eq_some_iff.mp H
    obtain ⟨⟨t348, t349⟩, A60, H⟩ := H
    replace H : ((hogsheadref5_Read.f k l0).bind fun bt352 => ((hogsheadlaw0_SameNodes.f k t348 bt352.1).bind fun t356 => (if t356 = true then ((hogsheadlaw0_Num.f t349).bind fun t357 => (if t357 = bt352.2 then ((hogsheadlaw0_KeptBytes.f k t345 l0).bind fun t358 => ((hogsheadlaw0_OverNodes.f k t348).bind fun _ => (if t358 = true then ((hogsheadlaw0_KeptBytes.f k t345 l0).bind fun t359 => (if t359 = true then ((hogsheadlaw5_awake.f k).bind fun t360 => (some t360)) else (some false))) else (some false)))) else ((hogsheadlaw0_OverNodes.f k t348).bind fun _ => (some false)))) else ((hogsheadlaw0_OverNodes.f k t348).bind fun _ => (some false))))) = some true := H
    have A6 := Aside0.mk A60
    clear A60
    replace H := Option.bind_eq_some_iff.mp H
    obtain ⟨⟨t352, t353⟩, A70, H⟩ := H
    replace H : ((hogsheadlaw0_SameNodes.f k t348 t352).bind fun t356 => (if t356 = true then ((hogsheadlaw0_Num.f t349).bind fun t357 => (if t357 = t353 then ((hogsheadlaw0_KeptBytes.f k t345 l0).bind fun t358 => ((hogsheadlaw0_OverNodes.f k t348).bind fun _ => (if t358 = true then ((hogsheadlaw0_KeptBytes.f k t345 l0).bind fun t359 => (if t359 = true then ((hogsheadlaw5_awake.f k).bind fun t360 => (some t360)) else (some false))) else (some false)))) else ((hogsheadlaw0_OverNodes.f k t348).bind fun _ => (some false)))) else ((hogsheadlaw0_OverNodes.f k t348).bind fun _ => (some false)))) = some true := H
    have A7 := Aside0.mk A70
    clear A70
    replace H := Option.bind_eq_some_iff.mp H
    obtain ⟨t356, A80, H⟩ := H
    replace H : (if t356 = true then ((hogsheadlaw0_Num.f t349).bind fun t357 => (if t357 = t353 then ((hogsheadlaw0_KeptBytes.f k t345 l0).bind fun t358 => ((hogsheadlaw0_OverNodes.f k t348).bind fun _ => (if t358 = true then ((hogsheadlaw0_KeptBytes.f k t345 l0).bind fun t359 => (if t359 = true then ((hogsheadlaw5_awake.f k).bind fun t360 => (some t360)) else (some false))) else (some false)))) else ((hogsheadlaw0_OverNodes.f k t348).bind fun _ => (some false)))) else ((hogsheadlaw0_OverNodes.f k t348).bind fun _ => (some false))) = some true := H
    have A8 := Aside0.mk A80
    clear A80
    by_cases c9 : t356 = true
    · subst c9
      have H1 : ((hogsheadlaw0_Num.f t349).bind fun t357 => (if t357 = t353 then ((hogsheadlaw0_KeptBytes.f k t345 l0).bind fun t358 => ((hogsheadlaw0_OverNodes.f k t348).bind fun _ => (if t358 = true then ((hogsheadlaw0_KeptBytes.f k t345 l0).bind fun t359 => (if t359 = true then ((hogsheadlaw5_awake.f k).bind fun t360 => (some t360)) else (some false))) else (some false)))) else ((hogsheadlaw0_OverNodes.f k t348).bind fun _ => (some false)))) = some true := by rw [if_pos rfl] at H; exact H
      clear H
      have H := H1
      clear H1
      replace H := Option.bind_eq_some_iff.mp H
      obtain ⟨t357, A100, H⟩ := H
      replace H : (if t357 = t353 then ((hogsheadlaw0_KeptBytes.f k t345 l0).bind fun t358 => ((hogsheadlaw0_OverNodes.f k t348).bind fun _ => (if t358 = true then ((hogsheadlaw0_KeptBytes.f k t345 l0).bind fun t359 => (if t359 = true then ((hogsheadlaw5_awake.f k).bind fun t360 => (some t360)) else (some false))) else (some false)))) else ((hogsheadlaw0_OverNodes.f k t348).bind fun _ => (some false))) = some true := H
      have A10 := Aside0.mk A100
      clear A100
      by_cases c11 : t357 = t353
      · rw [if_pos c11] at H
        have c11b0 : (t357 == t353) = true := beq_iff_eq.mpr c11
        have c11b1 : (t357 != t353) = false := bne_eq_false_iff_eq.mpr c11
        clear c11
        replace H := Option.bind_eq_some_iff.mp H
        obtain ⟨t358, A120, H⟩ := H
        replace H : ((hogsheadlaw0_OverNodes.f k t348).bind fun _ => (if t358 = true then ((hogsheadlaw0_KeptBytes.f k t345 l0).bind fun t359 => (if t359 = true then ((hogsheadlaw5_awake.f k).bind fun t360 => (some t360)) else (some false))) else (some false))) = some true := H
        have A12 := Aside0.mk A120
        clear A120
        replace H := Option.bind_eq_some_iff.mp H
        obtain ⟨_, A130, H⟩ := H
        replace H : (if t358 = true then ((hogsheadlaw0_KeptBytes.f k t345 l0).bind fun t359 => (if t359 = true then ((hogsheadlaw5_awake.f k).bind fun t360 => (some t360)) else (some false))) else (some false)) = some true := H
        have A13 := Aside0.mk A130
        clear A130
        by_cases c14 : t358 = true
        · subst c14
          have H1 : ((hogsheadlaw0_KeptBytes.f k t345 l0).bind fun t359 => (if t359 = true then ((hogsheadlaw5_awake.f k).bind fun t360 => (some t360)) else (some false))) = some true := by rw [if_pos rfl] at H; exact H
          clear H
          have H := H1
          clear H1
          replace H := Option.bind_eq_some_iff.mp H
          obtain ⟨t359, A150, H⟩ := H
          replace H : (if t359 = true then ((hogsheadlaw5_awake.f k).bind fun t360 => (some t360)) else (some false)) = some true := H
          have A15 := Aside0.mk A150
          clear A150
          by_cases c16 : t359 = true
          · subst c16
            have H1 : ((hogsheadlaw5_awake.f k).bind fun t360 => (some t360)) = some true := by rw [if_pos rfl] at H; exact H
            clear H
            have H := H1
            clear H1
            replace H := Option.bind_eq_some_iff.mp H
            obtain ⟨t360, A170, H⟩ := H
            replace H : (some t360) = some true := H
            have A17 := Aside0.mk A170
            clear A170
            obtain rfl := Option.some.inj H
            go_enter Tryd.func4, Tryd.ntmps4
            go_wp2_with (first | ((with_reducible refine gate_callee (f := 10) rfl ?_); refine goesL_ (some 14) rfl rfl Tryd.func10 (by kernel_rfl) rfl #[.slice A0 l0.length c0] rfl (by (try simp only [List.map_toArray, List.map_cons, List.map_nil]); first | done | rfl | (simp only [List.length_drop, List.length_take]; rfl)) ?_; (with_reducible refine (hogsheadlaw0_LendBytes.calls _ _ l0 t345 _ ?side1 ?side2 A5.out).mono ?_); (case side1 => repeat (first | exact HR0.out | (with_reducible refine Kd.C_alloc ?_ _) | (with_reducible refine Kd.C_drewN ?_ _) | (with_reducible refine Kd.C_drew ?_))); (case side2 => exact HC0.out); rintro e w18 ⟨v346, rfl, ho0, hb, hrm⟩; refine ⟨_, rfl, ?_⟩; have RM := Aside0.mk hrm; clear hrm; have n0_ := Aside0.mk (Kd.R_lower ho0 (below_size (by repeat (first | (with_reducible first | exact HB.out | apply below_alloc | apply pw_below_drewN | apply below_drew1) | exact HB.out)))); have n1_ := Aside0.mk (below_step (by repeat (first | (with_reducible first | exact HB.out | apply below_alloc | apply pw_below_drewN | apply below_drew1) | exact HB.out)) hb); clear HB; have HO347 := n0_; have HB := n1_; clear n0_ n1_; (try clear hb); (try clear hb2); (try clear hk); (try clear hi); (try clear ho0); obtain ⟨Ao19, co19, eo19⟩ := Kd.R_slice HO347.out; subst eo19) | ((with_reducible refine gate_callee (f := 21) rfl ?_); refine goesL_ (some 17) rfl rfl Tryd.func21 (by kernel_rfl) rfl #[.slice Ao19 t345.length co19] rfl (by (try simp only [List.map_toArray, List.map_cons, List.map_nil]); first | done | rfl | (simp only [List.length_drop, List.length_take]; rfl)) ?_; (with_reducible refine (nar_Read.calls k _ _ t345 t348 t349 _ ?side1 ?side2 A6.out).mono ?_); (case side1 => repeat (first | exact (Kd.R_reads' HO347.out).2.2 | (with_reducible refine Kd.C_alloc ?_ _) | (with_reducible refine Kd.C_drewN ?_ _) | (with_reducible refine Kd.C_drew ?_))); (case side2 => exact (Kd.R_reads' HO347.out).2.1); rintro e w20 ⟨v350, rfl, ho0, hb⟩; refine ⟨_, rfl, ?_⟩; (try (have n9_ := Aside0.mk (Room.below (by (with_reducible repeat (first | apply Room.alloc | apply Room.drewN | apply Room.drew)); exact RM.out) hb); clear RM; have RM := n9_; clear n9_)); have n0_ := Aside0.mk (Kd.R_below (by (with_reducible repeat (first | apply Kd.R_alloc | apply Kd.R_drewN | apply Kd.R_drew)); exact HO347.out) hb); have n1_ := Aside0.mk (Kd.R_lower ho0 (below_size (by repeat (first | (with_reducible first | exact HB.out | apply below_alloc | apply pw_below_drewN | apply below_drew1) | exact HB.out)))); have n2_ := Aside0.mk (below_step (by repeat (first | (with_reducible first | exact HB.out | apply below_alloc | apply pw_below_drewN | apply below_drew1) | exact HB.out)) hb); clear HO347; clear HB; have HO347 := n0_; have HO351 := n1_; have HB := n2_; clear n0_ n1_ n2_; (try clear hb); (try clear hb2); (try clear hk); (try clear hi); (try clear ho0)) | ((with_reducible refine gate_callee (f := 22) rfl ?_); refine goesL_ (some 22) rfl rfl Tryd.func22 (by kernel_rfl) rfl #[.slice A0 l0.length c0] rfl (by (try simp only [List.map_toArray, List.map_cons, List.map_nil]); first | done | rfl | (simp only [List.length_drop, List.length_take]; rfl)) ?_; (with_reducible refine (hogsheadref5_Read.calls k _ _ l0 t352 t353 _ ?side1 ?side2 A7.out).mono ?_); (case side1 => repeat (first | exact (Kd.C_below HR0.out HB.out) | (with_reducible refine Kd.C_alloc ?_ _) | (with_reducible refine Kd.C_drewN ?_ _) | (with_reducible refine Kd.C_drew ?_))); (case side2 => exact HC0.out); rintro e w21 ⟨v354, rfl, ho0, hb⟩; refine ⟨_, rfl, ?_⟩; (try (have n9_ := Aside0.mk (Room.below (by (with_reducible repeat (first | apply Room.alloc | apply Room.drewN | apply Room.drew)); exact RM.out) hb); clear RM; have RM := n9_; clear n9_)); have n0_ := Aside0.mk (Kd.R_below (by (with_reducible repeat (first | apply Kd.R_alloc | apply Kd.R_drewN | apply Kd.R_drew)); exact HO347.out) hb); have n1_ := Aside0.mk (Kd.R_elder' (by (with_reducible repeat (first | apply Kd.R_alloc | apply Kd.R_drewN | apply Kd.R_drew)); exact HO351.out) (Kd.R_base ho0) hb); have n2_ := Aside0.mk (Kd.R_lower (Kd.R_new' ho0 (Kd.R_lt (by (with_reducible repeat (first | apply Kd.R_alloc | apply Kd.R_drewN | apply Kd.R_drew)); exact HO351.out))) (below_size (by repeat (first | (with_reducible first | exact HB.out | apply below_alloc | apply pw_below_drewN | apply below_drew1) | exact HB.out)))); have n3_ := Aside0.mk (below_step (by repeat (first | (with_reducible first | exact HB.out | apply below_alloc | apply pw_below_drewN | apply below_drew1) | exact HB.out)) hb); clear HO347; clear HO351; clear HB; have HO347 := n0_; have HO351 := n1_; have HO355 := n2_; have HB := n3_; clear n0_ n1_ n2_ n3_; (try clear hb); (try clear hb2); (try clear hk); (try clear hi); (try clear ho0); obtain ⟨Ao22, co22, eo22⟩ := Kd.R_slice HO351.out; subst eo22; obtain ⟨Ao23, co23, eo23⟩ := Kd.R_slice HO355.out; subst eo23) | ((with_reducible refine gate_callee (f := 23) rfl ?_); refine goesL_ (some 27) rfl rfl Tryd.func23 (by kernel_rfl) rfl #[.slice Ao22 t348.length co22, .slice Ao23 t352.length co23] rfl (by (try simp only [List.map_toArray, List.map_cons, List.map_nil]); first | done | rfl | (simp only [List.length_drop, List.length_take]; rfl)) ?_; (with_reducible refine (hogsheadlaw0_SameNodes.calls k _ _ t348 _ _ t352 true _ ?side1 ?side2 ?side3 ?side4 A8.out).mono ?_); (case side1 => repeat (first | exact (Kd.R_reads' HO351.out).2.2 | (with_reducible refine Kd.C_alloc ?_ _) | (with_reducible refine Kd.C_drewN ?_ _) | (with_reducible refine Kd.C_drew ?_))); (case side2 => exact (Kd.R_reads' HO351.out).2.1); (case side3 => repeat (first | exact (Kd.R_reads' HO355.out).2.2 | (with_reducible refine Kd.C_alloc ?_ _) | (with_reducible refine Kd.C_drewN ?_ _) | (with_reducible refine Kd.C_drew ?_))); (case side4 => exact (Kd.R_reads' HO355.out).2.1); rintro e w' ⟨rfl, ⟨nd, rfl⟩⟩; refine ⟨_, rfl, ?_⟩) | (go_at_call 18; (with_reducible refine (hogsheadlaw0_Num.calls t349 t357 _ A10.out).mono ?_); rintro e w' ⟨rfl, ⟨nd, rfl⟩⟩) | (go_at_call 19; (with_reducible refine (hogsheadlaw0_KeptBytes.calls k _ _ t345 _ _ l0 true _ ?side1 ?side2 ?side3 ?side4 A12.out ?sideR).mono ?_); (case sideR => (with_reducible repeat (first | apply Room.alloc | apply Room.drewN | apply Room.drew)); exact RM.out); (case side1 => repeat (first | exact (Kd.R_reads' HO347.out).2.2 | (with_reducible refine Kd.C_alloc ?_ _) | (with_reducible refine Kd.C_drewN ?_ _) | (with_reducible refine Kd.C_drew ?_))); (case side2 => exact (Kd.R_reads' HO347.out).2.1); (case side3 => repeat (first | exact (Kd.C_below HR0.out (by repeat (first | (with_reducible first | exact HB.out | apply below_alloc | apply pw_below_drewN | apply below_drew1) | exact HB.out))) | (with_reducible refine Kd.C_alloc ?_ _) | (with_reducible refine Kd.C_drewN ?_ _) | (with_reducible refine Kd.C_drew ?_))); (case side4 => exact HC0.out); rintro e w24 ⟨rfl, hb⟩; (try (have n9_ := Aside0.mk (Room.below (by (with_reducible repeat (first | apply Room.alloc | apply Room.drewN | apply Room.drew)); exact RM.out) hb); clear RM; have RM := n9_; clear n9_)); have n0_ := Aside0.mk (Kd.R_below (by (with_reducible repeat (first | apply Kd.R_alloc | apply Kd.R_drewN | apply Kd.R_drew)); exact HO347.out) hb); have n1_ := Aside0.mk (Kd.R_below (by (with_reducible repeat (first | apply Kd.R_alloc | apply Kd.R_drewN | apply Kd.R_drew)); exact HO351.out) hb); have n2_ := Aside0.mk (Kd.R_below (by (with_reducible repeat (first | apply Kd.R_alloc | apply Kd.R_drewN | apply Kd.R_drew)); exact HO355.out) hb); have n3_ := Aside0.mk (below_step (by repeat (first | (with_reducible first | exact HB.out | apply below_alloc | apply pw_below_drewN | apply below_drew1) | exact HB.out)) hb); clear HO347; clear HO351; clear HO355; clear HB; have HO347 := n0_; have HO351 := n1_; have HO355 := n2_; have HB := n3_; clear n0_ n1_ n2_ n3_; (try clear hb); (try clear hb2); (try clear hk); (try clear hi)) | ((with_reducible refine gate_callee (f := 24) rfl ?_); refine goesL_ (some 40) rfl rfl Tryd.func24 (by kernel_rfl) rfl #[.slice Ao22 t348.length co22] rfl (by (try simp only [List.map_toArray, List.map_cons, List.map_nil]); first | done | rfl | (simp only [List.length_drop, List.length_take]; rfl)) ?_; (with_reducible refine (hogsheadlaw0_OverNodes.calls k (fun k_ => some k_ = (.slice Ao22 t348.length co22 : Value).ownBlock) (.slice Ao22 t348.length co22) t348  w _ ?side1 ?side2 A13.out).mono ?_); (case side1 => repeat (first | (with_reducible first | exact HB.out | apply below_alloc | apply pw_below_drewN | apply below_drew1) | exact HB.out)); (case side2 => exact Kd.R_tight rfl HO351.out); rintro e w25 ⟨rfl, hb, hkp⟩; refine ⟨_, rfl, ?_⟩; (try (have n9_ := Aside0.mk (Room.kept (by (with_reducible repeat (first | apply Room.alloc | apply Room.drewN | apply Room.drew)); exact RM.out) hkp (fun k_ hk_ hs_ => by have q_ := HO351.out.1 k_ hs_.symm; first | exact Room.ne_type RM.out HO351.out (by decide) k_ hk_ hs_ | exact q_ hk_.symm | exact q_.1 hk_.symm | exact q_.2.1 hk_.symm | exact q_.2.2.1 hk_.symm | exact q_.2.2.2.1 hk_.symm | exact q_.2 hk_.symm | exact q_.2.2 hk_.symm | exact q_.2.2.2 hk_.symm)); clear RM; have RM := n9_; clear n9_)); have n0_ := Aside0.mk (Kd.R_mono (ok' := fun k_ => True) (Kd.R_keptB ((Kd.R_apart' HO347.out (Kd.R_typed HO351.out) (by decide))) hkp (fun k_ hk_ hs_ => (hk_.2) hs_)) (fun k_ hk_ => trivial)); have n1_ := Aside0.mk (Kd.R_mono (ok' := fun k_ => True) (Kd.R_keptB (HO355.out) hkp (fun k_ hk_ hs_ => (hk_.2) hs_)) (fun k_ hk_ => trivial)); have n2_ := Aside0.mk (hb); clear HO347; clear HO355; clear HB; clear HO351; have HO347 := n0_; have HO355 := n1_; have HB := n2_; clear n0_ n1_ n2_; (try clear hb); (try clear hkp)) | (go_at_call 19; (with_reducible refine (hogsheadlaw0_KeptBytes.calls k _ _ t345 _ _ l0 true _ ?side1 ?side2 ?side3 ?side4 A15.out ?sideR).mono ?_); (case sideR => (with_reducible repeat (first | apply Room.alloc | apply Room.drewN | apply Room.drew)); exact RM.out); (case side1 => repeat (first | exact (Kd.R_reads' HO347.out).2.2 | (with_reducible refine Kd.C_alloc ?_ _) | (with_reducible refine Kd.C_drewN ?_ _) | (with_reducible refine Kd.C_drew ?_))); (case side2 => exact (Kd.R_reads' HO347.out).2.1); (case side3 => repeat (first | exact (Kd.C_below HR0.out HB.out) | (with_reducible refine Kd.C_alloc ?_ _) | (with_reducible refine Kd.C_drewN ?_ _) | (with_reducible refine Kd.C_drew ?_))); (case side4 => exact HC0.out); rintro e w26 ⟨rfl, hb⟩; (try (have n9_ := Aside0.mk (Room.below (by (with_reducible repeat (first | apply Room.alloc | apply Room.drewN | apply Room.drew)); exact RM.out) hb); clear RM; have RM := n9_; clear n9_)); have n0_ := Aside0.mk (Kd.R_below (by (with_reducible repeat (first | apply Kd.R_alloc | apply Kd.R_drewN | apply Kd.R_drew)); exact HO347.out) hb); have n1_ := Aside0.mk (Kd.R_below (by (with_reducible repeat (first | apply Kd.R_alloc | apply Kd.R_drewN | apply Kd.R_drew)); exact HO355.out) hb); have n2_ := Aside0.mk (below_step (by repeat (first | (with_reducible first | exact HB.out | apply below_alloc | apply pw_below_drewN | apply below_drew1) | exact HB.out)) hb); clear HO347; clear HO355; clear HB; have HO347 := n0_; have HO355 := n1_; have HB := n2_; clear n0_ n1_ n2_; (try clear hb); (try clear hb2); (try clear hk); (try clear hi)) | (go_at_call 9; (with_reducible refine (hogsheadlaw5_awake.calls k  true _ A17.out).mono ?_); rintro e w27 ⟨rfl, hb⟩; (try (have n9_ := Aside0.mk (Room.below (by (with_reducible repeat (first | apply Room.alloc | apply Room.drewN | apply Room.drew)); exact RM.out) hb); clear RM; have RM := n9_; clear n9_)); have n0_ := Aside0.mk (Kd.R_below (by (with_reducible repeat (first | apply Kd.R_alloc | apply Kd.R_drewN | apply Kd.R_drew)); exact HO347.out) hb); have n1_ := Aside0.mk (Kd.R_below (by (with_reducible repeat (first | apply Kd.R_alloc | apply Kd.R_drewN | apply Kd.R_drew)); exact HO355.out) hb); have n2_ := Aside0.mk (below_step (by repeat (first | (with_reducible first | exact HB.out | apply below_alloc | apply pw_below_drewN | apply below_drew1) | exact HB.out)) hb); clear HO347; clear HO355; clear HB; have HO347 := n0_; have HO355 := n1_; have HB := n2_; clear n0_ n1_ n2_; (try clear hb); (try clear hb2); (try clear hk); (try clear hi)))
            go_ret
            exact ⟨by first | rfl | (simp [errW_none, errW_some] <;> rfl) | (simp [*, errW_none, errW_some] <;> rfl), by repeat (first | (with_reducible first | exact HB.out | apply below_alloc | apply pw_below_drewN | apply below_drew1) | exact HB.out)⟩
          · replace c16 := Bool.eq_false_iff.mpr c16
            subst c16
            have H1 : (some false) = some true := by rw [if_neg (show ¬ (false = true) by decide)] at H; exact H
            exact absurd H1 (by simp)
        · replace c14 := Bool.eq_false_iff.mpr c14
          subst c14
          have H1 : (some false) = some true := by rw [if_neg (show ¬ (false = true) by decide)] at H; exact H
          exact absurd H1 (by simp)
      · rw [if_neg c11] at H
        have c11b0 : (t357 == t353) = false := beq_eq_false_iff_ne.mpr c11
        have c11b1 : (t357 != t353) = true := bne_iff_ne.mpr c11
        replace H := Option.bind_eq_some_iff.mp H
        obtain ⟨_, A450, H⟩ := H
        replace H : (some false) = some true := H
        exact absurd H (by simp)
    · replace c9 := Bool.eq_false_iff.mpr c9
      subst c9
      have H1 : ((hogsheadlaw0_OverNodes.f k t348).bind fun _ => (some false)) = some true := by rw [if_neg (show ¬ (false = true) by decide)] at H; exact H
      clear H
      have H := H1
      clear H1
      replace H := Option.bind_eq_some_iff.mp H
      obtain ⟨_, A530, H⟩ := H
      replace H : (some false) = some true := H
      exact absurd H (by simp)
/-- THE ONE PURE STATEMENT of hogsheadlaw5_NarReads: yours. -/
def hogsheadlaw5_NarReads.Pure : Prop := ∀ (l0 : List Int), l0.length ≤ maxLen → l0.length * 1 ≤ 140737488351232 → (∀ x ∈ l0, (Lit.int .u8 x).wf = true) → ∃ k, hogsheadlaw5_NarReads.f k l0 = some true
theorem hogsheadlaw5_NarReads.walk (P : hogsheadlaw5_NarReads.Pure) (a0 : Option Addr) (len0 cap0 : Nat) (z0 : List Int) (w : World) (w0 : (a0 = none ∧ len0 = 0 ∧ cap0 = 0 ∧ z0 = []) ∨ ∃ x, a0 = some x ∧ len0 ≤ cap0 ∧ cap0 ≤ maxLen ∧ z0.length = cap0 ∧ (∀ i, i < z0.length → w.cell? (x.add i) = some (.int .u8 (z0.getD i 0))) ∧ ∀ n ∈ z0, (Lit.int .u8 n).wf = true) (y0 : len0 * 1 ≤ 140737488351232) :
    Calls Tryd.prog 4 #[.slice a0 len0 cap0] w fun e w' => e = .returned (.bool true) ∧ Below w.heap.size w w' := by
  obtain ⟨l0, rfl, hr0, hm0, hw0, hc0⟩ := ReadsInt.ofRowC w0
  obtain ⟨k, h⟩ := P l0 hm0 y0 hw0
  refine (hogsheadlaw5_NarReads.calls k _ _ l0 true w (Kd.C_of_reads (d := (0 : Int)) (h1 := fun _ => rfl) hr0) hc0 h).mono ?_
  rintro e w' ⟨rfl, hd⟩
  exact ⟨rfl, hd⟩

end Go.Proofs.YtfklncdllfhgmaaDoor.P
