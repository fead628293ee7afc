/- Laid by a program of this session (wip/pr), after the printer of the kit: the functions that a statement reaches as plain Lean functions, and that the calls of the machine come to them. No condition. -/
import Derived.Test.YtkloomnkpfaijaaDoorPx0
import Derived.Test.YtkloomnkpfaijaaDoorPx8
namespace Go.Proofs.YtkloomnkpfaijaaDoor.P
open Go.RowKit Go.Proofs.YtkloomnkpfaijaaDoorX Go.Proofs.YtkloomnkpfaijaaDoorW.PrintWords Go.Proofs.YtkloomnkpfaijaaDoorW.PrintLast Go.Proofs.YtkloomnkpfaijaaDoorW.PrintMore
attribute [local go_sem] max2_int min2_int max_two min_two
set_option linter.unusedVariables false
set_option linter.unusedSimpArgs false

/-! ### hogsheadlaw0_OverNodes: function 26 -/
def hogsheadlaw0_OverNodes.l0 : Nat → List (S31) → Int → Option (Unit)
 | 0, _, _ => none
 | k + 1, x0, x2 => if x2 < (x0.length : Int) then (if 0 ≤ x2 then (hogsheadlaw0_OverNodes.l0 k (x0.set (x2 : Int).toNat (⟨(⟨#[111, 118, 101, 114]⟩ : ByteArray), 0, (⟨#[]⟩ : ByteArray)⟩ : S31)) (wrap64 (x2 + 1))) else (none)) else (if x0.length < 3518437208883 then (some ()) else (none))
def hogsheadlaw0_OverNodes.f (k : Nat) (l0 : List (S31)) : Option (Unit) := hogsheadlaw0_OverNodes.l0 k l0 0
theorem hogsheadlaw0_OverNodes.mono_l : ∀ k, (∀ y0 y1, LeO (hogsheadlaw0_OverNodes.l0 k y0 y1) (hogsheadlaw0_OverNodes.l0 (k + 1) y0 y1))
 | 0 => fun _ _ r h => by simp [hogsheadlaw0_OverNodes.l0] at h
 | k + 1 => by
  have ih0 := hogsheadlaw0_OverNodes.mono_l k
  ·intro y0 y1
   unfold hogsheadlaw0_OverNodes.l0
   repeat' with_reducible first | exact ih0 _ _ | exact LeO.refl _ | exact LeO.none _ | refine LeO.ite ?_ ?_ | refine LeO.bind ?_ (fun _ => ?_)
theorem hogsheadlaw0_OverNodes.mono : ∀ a0 k, LeO (hogsheadlaw0_OverNodes.f k a0) (hogsheadlaw0_OverNodes.f (k + 1) a0) := by
 intro a0 k; have ih0 := hogsheadlaw0_OverNodes.mono_l k; unfold hogsheadlaw0_OverNodes.f
 repeat' with_reducible first | exact ih0 _ _ | exact LeO.refl _ | exact LeO.none _ | refine LeO.ite ?_ ?_ | refine LeO.bind ?_ (fun _ => ?_)
set_option maxHeartbeats 8000000 in
set_option maxRecDepth 100000 in
theorem hogsheadlaw0_OverNodes.calls (k : Nat) (P0_ : Nat → Prop) (u9000_ : Value) (l0 : List (S31)) (w0 w : World) (hB : Below w0.heap.size w0 w) (ho0 : Kd.R k31 31 w w0.heap.size P0_ u9000_ l0) (h : hogsheadlaw0_OverNodes.f k l0 = some ()) :
  Calls Tryd.prog 26 #[u9000_] w fun e w' => e = .returned (.tuple #[]) ∧ Below w0.heap.size w0 w' ∧ Kept w w' (fun k_ => P0_ k_) := by
 have hu31 := Tryd.underlying31; have HO0 := am (show Kd.R k31 31 w w0.heap.size (fun k_ => (P0_ k_ ∨ w.heap.size ≤ k_)) u9000_ l0 from Kd.R_mono ho0 (fun k_ hk => (.inl hk))); have HK := am (Kept.refl w (fun k_ => P0_ k_)); have HW0 := am hB.size; have HB := am hB; clear hB; have H : (hogsheadlaw0_OverNodes.l0 k l0 0) = some () := h; clear h; have H' := am H; clear H; go_enter Tryd.func26, Tryd.ntmps26; go_wp2
 go_loopg [2] k (fun kq v2 w' => ∃ (x0_1 : List (S31)) (x2_1 : Int), v2 = .int .i64 x2_1 ∧ Aside0 (hogsheadlaw0_OverNodes.l0 kq x0_1 x2_1 = some ()) ∧ Aside0 (kq ≤ k) ∧ Aside0 (Kd.R k31 31 w' w0.heap.size (fun k_ => (P0_ k_ ∨ w.heap.size ≤ k_)) u9000_ x0_1) ∧ Aside0 (Kept w w' (fun k_ => P0_ k_)) ∧ Aside0 (Below w0.heap.size w0 w'))
 case atStart => exact ⟨(l0), (0), (by first | rfl | (simp; done) | (simp [*]; done)), H', ⟨Nat.le_refl _⟩, ⟨rz HO0.out⟩, ⟨kz⟩, ⟨bz⟩⟩
 case round =>
  clear H'; obtain ⟨x0_1, x2_1, rfl, HA, HK1, HO_0, HK, HB⟩ := hrel; cases gk with
  | zero => exact absurd HA.out (by simp [hogsheadlaw0_OverNodes.l0])
  | succ k1 =>
   have H := HA.out; clear HA; simp only [hogsheadlaw0_OverNodes.l0] at H
   by_cases c2 : x2_1 < (x0_1.length : Int)
   ·rw [if_pos c2] at H
    have c2b0 : decide (x2_1 < (x0_1.length : Int)) = true := decide_eq_true c2; clear c2; by_cases c3 : 0 ≤ x2_1
    ·rw [if_pos c3] at H
     have c3b0 : decide (0 ≤ x2_1) = true := decide_eq_true c3; clear c3; obtain ⟨y461, hy461⟩ : ∃ y_ : List (S31), y_ = (x0_1.set (x2_1 : Int).toNat (⟨(⟨#[111, 118, 101, 114]⟩ : ByteArray), 0, (⟨#[]⟩ : ByteArray)⟩ : S31)) := ⟨_, rfl⟩; try rw [← hy461] at H
     have Ny461 := am hy461; clear hy461; have H' := am H; clear H; obtain ⟨Ao5, co5, eo5⟩ := Kd.R_slice HO_0.out; subst eo5; have p4 : 0 ≤ (x2_1 : Int) := of_decide_eq_true (by assumption); have q4 : (x2_1 : Int) < ((x0_1.length : Int) : Int) := of_decide_eq_true (by assumption); obtain ⟨go4, co4, eo4, gb4, gl4, cl4, HG4⟩ := Kd.R_form HO_0.out (by omega); (first | cases eo4 | (injection eo4 with ea_ en_ ec_; (first | subst ea_ | (injection ea_ with ea_; subst ea_)); subst ec_; clear en_))
     have GB4 := am gb4; have GG4 := am HG4; clear gb4 gl4 HG4; have HMgo4 := am (show (P0_ go4 ∨ w.heap.size ≤ go4) from (HO_0.out.1 _ rfl)); obtain ⟨ce4, hcl4, hM4, hcc4, hfr4⟩ := Kd.R_elem HO_0.out z31 (x2_1 : Int) p4 q4; obtain rfl := k31_openM hM4; have hx4_0 : wr.cell? ⟨go4, (x2_1 : Int).toNat * 3, none⟩ = some (.string ((rd_T31 x0_1 x2_1).f0)) := hcc4 0 _ rfl; have hx4_1 : wr.cell? ⟨go4, (x2_1 : Int).toNat * 3 + 1, none⟩ = some (.int .i64 ((rd_T31 x0_1 x2_1).f1)) := hcc4 1 _ rfl; have hx4_2 : wr.cell? ⟨go4, (x2_1 : Int).toNat * 3 + 2, none⟩ = some (.string ((rd_T31 x0_1 x2_1).f2)) := hcc4 2 _ rfl; have hf4_0 : wr.frozen? ⟨go4, (x2_1 : Int).toNat * 3, none⟩ = false := hfr4 0; have hf4_1 : wr.frozen? ⟨go4, (x2_1 : Int).toNat * 3 + 1, none⟩ = false := hfr4 1; have hf4_2 : wr.frozen? ⟨go4, (x2_1 : Int).toNat * 3 + 2, none⟩ = false := hfr4 2; clear hcl4 hcc4 hfr4 hM4; replace p4 := eq_true p4; replace q4 := eq_true q4; have HX6 := am (show Kd.R k31 31 wr w0.heap.size (fun k_ => (P0_ k_ ∨ w.heap.size ≤ k_)) (.slice (some ⟨go4, 0, none⟩) x0_1.length co5) x0_1 from (rz HO_0.out)); obtain ⟨ce6, hcl6, hM6, hcc6, hfr6⟩ := Kd.R_elem HX6.out z31 (x2_1 : Int) (of_decide_eq_true (by assumption)) (by have h_ : (x2_1 : Int) < ((x0_1.length : Int) : Int) := of_decide_eq_true (by assumption); first | exact h_ | (have e_ := (Kd.R_reads' HO_0.out).1; omega) | simpa using h_)
     obtain rfl := k31_openM hM6; have HP6 := Kd.R_seg HX6.out (x2_1 : Int) (of_decide_eq_true (by assumption)) (by have h_ : (x2_1 : Int) < ((x0_1.length : Int) : Int) := of_decide_eq_true (by assumption); first | exact h_ | (have e_ := (Kd.R_reads' HO_0.out).1; omega) | simpa using h_) (seg := [.string (⟨#[111, 118, 101, 114]⟩ : ByteArray), .int .i64 0, .string (⟨#[]⟩ : ByteArray)]) (j := 0) hcl6 hcc6 (show 3 ≤ 3 from by decide) (x' := (⟨(⟨#[111, 118, 101, 114]⟩ : ByteArray), 0, (⟨#[]⟩ : ByteArray)⟩ : S31)) (k31_mkM _ _ _ (⟨(⟨#[111, 118, 101, 114]⟩ : ByteArray), 0, (⟨#[]⟩ : ByteArray)⟩ : S31) ) (fun _ hk => hk); have hx6_0 := hcc6 0 _ rfl; (try simp only [show (k31).sz = 3 from rfl, Nat.mul_one, Nat.add_zero] at hx6_0)
     have hf6_0 := hfr6 0; (try simp only [show (k31).sz = 3 from rfl, Nat.mul_one, Nat.add_zero] at hf6_0)
     have hx6_1 := hcc6 1 _ rfl; (try simp only [show (k31).sz = 3 from rfl, Nat.mul_one, Nat.add_zero] at hx6_1)
     have hf6_1 := hfr6 1; (try simp only [show (k31).sz = 3 from rfl, Nat.mul_one, Nat.add_zero] at hf6_1)
     have hx6_2 := hcc6 2 _ rfl; (try simp only [show (k31).sz = 3 from rfl, Nat.mul_one, Nat.add_zero] at hx6_2)
     have hf6_2 := hfr6 2; (try simp only [show (k31).sz = 3 from rfl, Nat.mul_one, Nat.add_zero] at hf6_2)
     clear hcl6 hcc6 hfr6 hM6; go_wp2_with (first | ((with_reducible refine gate_store (t := 31) (p := 12) rfl ?_); refine store_event (t := 31) (p := 12) (v := ?vo_w7) (w1 := (((wr.setCell ⟨go4, (x2_1 : Int).toNat * 3, none⟩ (.string (⟨#[111, 118, 101, 114]⟩ : ByteArray))).setCell ⟨go4, (x2_1 : Int).toNat * 3 + 1, none⟩ (.int .i64 0)).setCell ⟨go4, (x2_1 : Int).toNat * 3 + 2, none⟩ (.string (⟨#[]⟩ : ByteArray)))) ?hg ?ho ?hn ?hr ?_; (case ho => rfl); (case hg => rfl); (case hn => rfl); (case hr => first | (go_simp; done) | (go_simp; rfl)); intro w7 hw; have hg : wr.grownBy w7 (some go4) := (by rw [hw]; exact HP6.2); have hp_ : Kd.R k31 31 w7 w0.heap.size (fun k_ => (P0_ k_ ∨ w.heap.size ≤ k_)) (.slice (some ⟨go4, 0, none⟩) x0_1.length co5) y461 := (by rw [hw, Ny461.out]; exact HP6.1); clear HP6; replace HB := am ((by rw [hw]; exact below_set (below_set (below_set (HB.out) GB4.out) GB4.out) GB4.out : Below w0.heap.size w0 w7)); replace HK := am (Kept.of_grown (S := (fun k_ => P0_ k_)) hg kz (fun k_ e_ => (HO_0.out.1 k_ e_))); replace HO_0 := am (hp_); clear hg hw hp_))
     go_roundg k1
     case measure => have := HK1.out; omega
     case rel => exact ⟨(y461), (wrap64 (x2_1 + 1)), (by first | rfl | (simp; done) | (simp [*]; done)), H', ⟨by have := HK1.out; omega⟩, ⟨rz HO_0.out⟩, ⟨kz⟩, ⟨bz⟩⟩
    ·rw [if_neg c3] at H
     exact absurd H (by simp)
   ·rw [if_neg c2] at H
    have c2b0 : decide (x2_1 < (x0_1.length : Int)) = false := decide_eq_false c2; clear c2; by_cases c8 : x0_1.length < 3518437208883
    ·rw [if_pos c8] at H
     have LMc8 := am c8; clear c8; obtain ⟨y462, hy462⟩ : ∃ y_ : List (S31), y_ = (x0_1 ++ [(⟨(⟨#[111, 118, 101, 114]⟩ : ByteArray), 0, (⟨#[]⟩ : ByteArray)⟩ : S31)]) := ⟨_, rfl⟩; try rw [← hy462] at H
     have Ny462 := am hy462; clear hy462; obtain ⟨Ao9, co9, eo9⟩ := Kd.R_slice HO_0.out; subst eo9; go_wp2_with (first | ((with_reducible refine gate_builtin (b := .append) (xs := #[.tmp 13, .tmp 15]) rfl ?_); at_builtin; refine Kd.R_append k31 (w0 := w0) w0.heap.size rfl (.tmp 13) (.tmp 15) 22 31 (.agg #[(.string ⟨#[]⟩), (.int .i64 0), (.string ⟨#[]⟩)]) 40 rfl Tryd.underlying22 info31 rfl (by decide) (by omega) (.slice Ao9 x0_1.length co9) x0_1 (⟨(⟨#[111, 118, 101, 114]⟩ : ByteArray), 0, (⟨#[]⟩ : ByteArray)⟩ : S31) [.string (⟨#[111, 118, 101, 114]⟩ : ByteArray), .int .i64 0, .string (⟨#[]⟩ : ByteArray)] (fun k_ => (P0_ k_ ∨ w.heap.size ≤ k_)) (fun _ => False) rfl rfl ?aP (fun _ hk => hk.elim) ?aF ?aO ?aB ?aS ?aL ?_; (case aP => exact k31_mkM _ _ _ (⟨(⟨#[111, 118, 101, 114]⟩ : ByteArray), 0, (⟨#[]⟩ : ByteArray)⟩ : S31)); (case aB => exact bz); (case aF => exact (fun k_ hk => (.inr (Nat.le_trans (by first | exact HK.out.1 | exact (show Kept w _ (fun k_ => P0_ k_) from by repeat (first | (with_reducible first | exact HK.out | apply Kept.alloc | apply Kept.drewN | apply Kept.drew) | exact HK.out)).1) hk)))); (case aO => exact (rz HO_0.out)); (case aS => exact siz); (case aL => have := LMc8.out; omega); intro v463 w10 ho hb hg hat; rw [← Ny462.out] at ho; have n0_ := am (hb); have n1_ := am (Kept.of_grown (S := (fun k_ => P0_ k_)) hg kz (fun k_ e_ => (HO_0.out.1 k_ e_))); have n2_ := am (ho); clear HB; clear HK; clear HO_0; have HB := n0_; have HK := n1_; have HO464 := n2_; clear n0_ n1_ n2_; clear ho hb hg hat))
     first | go_end0 | ((try simp only [Exit.inBlock, Exit.then]); refine bodyPost_ret (results_none rfl _ _ _) rfl ?_)
     exact ⟨ez, by repeat (first | (with_reducible first | exact HB.out | apply bA | apply bN | apply bO) | exact HB.out), kz⟩
    ·rw [if_neg c8] at H
     exact absurd H (by simp)

def hogsheadlaw0_KeptNodes.f (k : Nat) (l0 l1 : List S31) : Option Bool := hogsheadlaw0_SameNodes.f k l0 l1
theorem hogsheadlaw0_KeptNodes.mono : ∀ l0 l1 k, LeO (hogsheadlaw0_KeptNodes.f k l0 l1) (hogsheadlaw0_KeptNodes.f (k + 1) l0 l1) := hogsheadlaw0_SameNodes.mono
theorem hogsheadlaw0_KeptNodes.calls (k : Nat) (A0 : Option Addr) (c0 : Nat) (l0 : List S31) (A1 : Option Addr) (c1 : Nat) (l1 : List S31) (r : Bool) (w : World) (hr0 : Kd.C k31 w A0 l0.length l0) (hc0 : l0.length ≤ c0) (hr1 : Kd.C k31 w A1 l1.length l1) (hc1 : l1.length ≤ c1) (h : hogsheadlaw0_KeptNodes.f k l0 l1 = some r)
  (hroom : Room 31 3 [.string ⟨#[108, 101, 110, 116]⟩, .int .i64 0, .string ⟨#[]⟩] w (.slice A0 l0.length c0)) :
  Calls Tryd.prog 27 #[.slice A0 l0.length c0, .slice A1 l1.length c1] w fun e w' => e = .returned (.bool r) ∧ Below w.heap.size w w' := by
 obtain ⟨g, n, cap, cur, hv, hcap, hsmall, hh, hdrop⟩ := hroom; injection hv with hA hn hc; subst hA hc; subst hn; have hu := Tryd.underlying31; have hcellq : ∀ q, q < 9 → w.cell? ⟨g, l0.length * 3 + q, none⟩ = [Value.string ⟨#[108, 101, 110, 116]⟩, .int .i64 0, .string ⟨#[]⟩, Value.string ⟨#[108, 101, 110, 116]⟩, .int .i64 0, .string ⟨#[]⟩, Value.string ⟨#[108, 101, 110, 116]⟩, .int .i64 0, .string ⟨#[]⟩][q]? := by
  intro q hq; rw [blk_cell hh, ← Array.getElem?_toList, ← List.getElem?_drop, hdrop]; rfl
 have hcell : ∀ j, j < 3 → w.cell? ⟨g, l0.length * 3 + j * 3, none⟩ = some (Value.string ⟨#[108, 101, 110, 116]⟩) ∧ w.cell? ⟨g, l0.length * 3 + j * 3 + 1, none⟩ = some (Value.int .i64 0) ∧ w.cell? ⟨g, l0.length * 3 + j * 3 + 2, none⟩ = some (Value.string ⟨#[]⟩) := by
  intro j hj; rcases (show j = 0 ∨ j = 1 ∨ j = 2 by omega) with rfl | rfl | rfl
  ·exact ⟨hcellq 0 (by omega), hcellq 1 (by omega), hcellq 2 (by omega)⟩
  ·exact ⟨hcellq 3 (by omega), hcellq 4 (by omega), hcellq 5 (by omega)⟩
  ·exact ⟨hcellq 6 (by omega), hcellq 7 (by omega), hcellq 8 (by omega)⟩
 have hwr : wrap64 ((l0.length : Int) + 3) = (l0.length : Int) + 3 := by unfold wrap64; omega
 have hs1 : ((l0.length : Int) + 3).toNat = l0.length + 3 := by omega
 have hl1 := hr0.2.1; have HR0 := am hr0; have HC0 := am hc0; have HR1 := am hr1; have HC1 := am hc1; have HA := am (show hogsheadlaw0_SameNodes.f k l0 l1 = some r from h); clear hr0 hr1 h hh hdrop hcellq; go_enter Tryd.func27, Tryd.ntmps27; go_wp2
 go_loopw [6] (fun v6 wr => ∃ j : Nat, j ≤ 3 ∧ v6 = .int .i64 j ∧ wr = w) (fun v _ => 3 - (intOf v).toNat)
 case atStart => exact ⟨0, by omega, rfl, rfl⟩
 case round =>
  obtain ⟨j, hj, rfl, rfl⟩ := hrel; by_cases hjl : j < 3
  ·obtain ⟨hcA, hcB, hcC⟩ := hcell j hjl
   clear hcell; have c1 : decide ((j : Int) < 3) = true := decide_eq_true (by omega); have p1 : (0 ≤ (j : Int)) = True := eq_true (by omega); have q1 : ((j : Int) < 3) = True := eq_true (by omega); go_wp2
   exact ⟨⟨j + 1, by omega, by rw [show ((j : Int) + 1) = ((j + 1 : Nat) : Int) by omega], by first | rfl | trivial⟩, by simp only [intOf]; omega⟩
  ·have c1 : decide ((j : Int) < 3) = false := decide_eq_false (by omega)
   clear hcell; go_wp2_with (go_at_call 17; (with_reducible refine (hogsheadlaw0_SameNodes.calls k _ _ l0 _ _ l1 r _ HR0.out HC0.out HR1.out HC1.out HA.out).mono ?_); rintro e w' ⟨rfl, hb⟩)
   go_ret; first | exact ⟨rfl, hb⟩ | exact ⟨rfl, hb.below⟩

end Go.Proofs.YtkloomnkpfaijaaDoor.P
