/- Laid by a program of this session (wip/pr), after the printer of the kit: the functions that a statement reaches as plain Lean functions, and that the calls of the machine come to them. No condition. -/
import Derived.Test.YtiamdmlbhmgnjaaDoorPx0
import Derived.Test.YtiamdmlbhmgnjaaDoorPx2
import Derived.Test.YtiamdmlbhmgnjaaDoorPx14
import Derived.Test.YtiamdmlbhmgnjaaDoorPx15
import Derived.Test.YtiamdmlbhmgnjaaDoorPx23
namespace Go.Proofs.YtiamdmlbhmgnjaaDoor.P
open Go.RowKit Go.Proofs.YtiamdmlbhmgnjaaDoorX Go.Proofs.YtiamdmlbhmgnjaaDoorW.PrintWords Go.Proofs.YtiamdmlbhmgnjaaDoorW.PrintLast Go.Proofs.YtiamdmlbhmgnjaaDoorW.PrintMore
attribute [local go_sem] max2_int min2_int max_two min_two
set_option linter.unusedVariables false
set_option linter.unusedSimpArgs false
/-- What is one's own stays as it was where none of its blocks is changed. -/
theorem Kd.R_keptB {α : Type} {d : Kd α} {e : Nat} {W W2 : World} {base : Nat} {ok S : Nat → Prop} {v : Value} {xs : List α} (h : d.R e W base ok v xs) (hk : Kept W W2 S) (hne : ∀ k, ok k → ¬ S k) : d.R e W2 base (fun k => ok k ∧ (¬ S k ∧ k < W.heap.size)) v xs := by
  have h1 := Kd.R_mono (Kd.R_bound h) (fun k hb => (⟨hb.1, hne k hb.1, hb.2.2.1⟩ : ok k ∧ (¬ S k ∧ k < W.heap.size)))
  exact Kd.R_kept h1 hk (fun k hb => hb.2.1)

/-! ### hogsheadlaw0_Num: function 12 -/
def hogsheadlaw0_Num.f (a0 : Int) : Option (Int) := some a0
set_option maxHeartbeats 8000000 in
set_option maxRecDepth 100000 in
theorem hogsheadlaw0_Num.calls (a0 : Int) (r : Int) (w : World) (h : hogsheadlaw0_Num.f a0 = some r) :
  Calls Tryd.prog 12 #[.int .i64 a0] w fun e w' => e = .returned (.int .i64 r) ∧ Drawn0 w w' := by
 have H : (some a0) = some r := h; clear h; obtain rfl := Option.some.inj H; go_enter Tryd.func12, Tryd.ntmps12; go_wp2
 go_ret; exact ⟨by first | rfl | (simp; done) | (simp [*]; done), dz⟩

/-! ### hogsheadlaw0_OverNodes: function 13 -/
def hogsheadlaw0_OverNodes.l0 : Nat → List (S37) → Int → Option (Unit)
 | 0, _, _ => none
 | k + 1, x0, x2 => if x2 < (x0.length : Int) then (if 0 ≤ x2 then (hogsheadlaw0_OverNodes.l0 k (x0.set (x2 : Int).toNat (⟨(⟨#[111, 118, 101, 114]⟩ : ByteArray), 0, (⟨#[]⟩ : ByteArray)⟩ : S37)) (wrap64 (x2 + 1))) else (none)) else (if x0.length < 3518437208883 then (some ()) else (none))
def hogsheadlaw0_OverNodes.f (k : Nat) (l0 : List (S37)) : Option (Unit) := hogsheadlaw0_OverNodes.l0 k l0 0
theorem hogsheadlaw0_OverNodes.mono_l : ∀ k, (∀ y0 y1, LeO (hogsheadlaw0_OverNodes.l0 k y0 y1) (hogsheadlaw0_OverNodes.l0 (k + 1) y0 y1))
 | 0 => fun _ _ r h => by simp [hogsheadlaw0_OverNodes.l0] at h
 | k + 1 => by
  have ih0 := hogsheadlaw0_OverNodes.mono_l k
  ·intro y0 y1
   unfold hogsheadlaw0_OverNodes.l0
   repeat' with_reducible first | exact ih0 _ _ | exact LeO.refl _ | exact LeO.none _ | refine LeO.ite ?_ ?_ | refine LeO.bind ?_ (fun _ => ?_)
theorem hogsheadlaw0_OverNodes.mono : ∀ a0 k, LeO (hogsheadlaw0_OverNodes.f k a0) (hogsheadlaw0_OverNodes.f (k + 1) a0) := by
 intro a0 k; have ih0 := hogsheadlaw0_OverNodes.mono_l k; unfold hogsheadlaw0_OverNodes.f
 repeat' with_reducible first | exact ih0 _ _ | exact LeO.refl _ | exact LeO.none _ | refine LeO.ite ?_ ?_ | refine LeO.bind ?_ (fun _ => ?_)
set_option maxHeartbeats 8000000 in
set_option maxRecDepth 100000 in
theorem hogsheadlaw0_OverNodes.calls (k : Nat) (P0_ : Nat → Prop) (u9000_ : Value) (l0 : List (S37)) (w0 w : World) (hB : Below w0.heap.size w0 w) (ho0 : Kd.R k37 37 w w0.heap.size P0_ u9000_ l0) (h : hogsheadlaw0_OverNodes.f k l0 = some ()) :
  Calls Tryd.prog 13 #[u9000_] w fun e w' => e = .returned (.tuple #[]) ∧ Below w0.heap.size w0 w' ∧ Kept w w' (fun k_ => P0_ k_) := by
 have hu37 := Tryd.underlying37; have HO0 := am (show Kd.R k37 37 w w0.heap.size (fun k_ => (P0_ k_ ∨ w.heap.size ≤ k_)) u9000_ l0 from Kd.R_mono ho0 (fun k_ hk => (.inl hk))); have HK := am (Kept.refl w (fun k_ => P0_ k_)); have HW0 := am hB.size; have HB := am hB; clear hB; have H : (hogsheadlaw0_OverNodes.l0 k l0 0) = some () := h; clear h; have H' := am H; clear H; go_enter Tryd.func13, Tryd.ntmps13; go_wp2
 go_loopg [2] k (fun kq v2 w' => ∃ (x0_1 : List (S37)) (x2_1 : Int), v2 = .int .i64 x2_1 ∧ Aside0 (hogsheadlaw0_OverNodes.l0 kq x0_1 x2_1 = some ()) ∧ Aside0 (kq ≤ k) ∧ Aside0 (Kd.R k37 37 w' w0.heap.size (fun k_ => (P0_ k_ ∨ w.heap.size ≤ k_)) u9000_ x0_1) ∧ Aside0 (Kept w w' (fun k_ => P0_ k_)) ∧ Aside0 (Below w0.heap.size w0 w'))
 case atStart => exact ⟨(l0), (0), (by first | rfl | (simp; done) | (simp [*]; done)), H', ⟨Nat.le_refl _⟩, ⟨rz HO0.out⟩, ⟨kz⟩, ⟨bz⟩⟩
 case round =>
  clear H'; (try clear c1); obtain ⟨x0_1, x2_1, rfl, HA, HK1, HO_0, HK, HB⟩ := hrel; cases gk with
  | zero => exact absurd HA.out (by simp [hogsheadlaw0_OverNodes.l0])
  | succ k1 =>
   have H := HA.out; clear HA; simp only [hogsheadlaw0_OverNodes.l0] at H
   by_cases c2 : x2_1 < (x0_1.length : Int)
   ·rw [if_pos c2] at H
    have c2b0 : decide (x2_1 < (x0_1.length : Int)) = true := decide_eq_true c2; clear c2; by_cases c3 : 0 ≤ x2_1
    ·rw [if_pos c3] at H
     have c3b0 : decide (0 ≤ x2_1) = true := decide_eq_true c3; clear c3; obtain ⟨y350, hy350⟩ : ∃ y_ : List (S37), y_ = (x0_1.set (x2_1 : Int).toNat (⟨(⟨#[111, 118, 101, 114]⟩ : ByteArray), 0, (⟨#[]⟩ : ByteArray)⟩ : S37)) := ⟨_, rfl⟩; try rw [← hy350] at H
     have Ny350 := am hy350; clear hy350; have H' := am H; clear H; obtain ⟨Ao5, co5, eo5⟩ := Kd.R_slice HO_0.out; subst eo5; have p4 : 0 ≤ (x2_1 : Int) := of_decide_eq_true (by assumption); have q4 : (x2_1 : Int) < ((x0_1.length : Int) : Int) := of_decide_eq_true (by assumption); obtain ⟨go4, co4, eo4, gb4, gl4, cl4, HG4⟩ := Kd.R_form HO_0.out (by omega); (first | cases eo4 | (injection eo4 with ea_ en_ ec_; (first | subst ea_ | (injection ea_ with ea_; subst ea_)); subst ec_; clear en_))
     have GB4 := am gb4; have GG4 := am HG4; clear gb4 gl4 HG4; have HMgo4 := am (show (P0_ go4 ∨ w.heap.size ≤ go4) from (HO_0.out.1 _ rfl)); obtain ⟨ce4, hcl4, hM4, hcc4, hfr4⟩ := Kd.R_elem HO_0.out z37 (x2_1 : Int) p4 q4; obtain rfl := k37_openM hM4; have hx4_0 : wr.cell? ⟨go4, (x2_1 : Int).toNat * 3, none⟩ = some (.string ((rd_T37 x0_1 x2_1).f0)) := hcc4 0 _ rfl; have hx4_1 : wr.cell? ⟨go4, (x2_1 : Int).toNat * 3 + 1, none⟩ = some (.int .i64 ((rd_T37 x0_1 x2_1).f1)) := hcc4 1 _ rfl; have hx4_2 : wr.cell? ⟨go4, (x2_1 : Int).toNat * 3 + 2, none⟩ = some (.string ((rd_T37 x0_1 x2_1).f2)) := hcc4 2 _ rfl; have hf4_0 : wr.frozen? ⟨go4, (x2_1 : Int).toNat * 3, none⟩ = false := hfr4 0; have hf4_1 : wr.frozen? ⟨go4, (x2_1 : Int).toNat * 3 + 1, none⟩ = false := hfr4 1; have hf4_2 : wr.frozen? ⟨go4, (x2_1 : Int).toNat * 3 + 2, none⟩ = false := hfr4 2; clear hcl4 hcc4 hfr4 hM4; replace p4 := eq_true p4; replace q4 := eq_true q4; have HX6 := am (show Kd.R k37 37 wr w0.heap.size (fun k_ => (P0_ k_ ∨ w.heap.size ≤ k_)) (.slice (some ⟨go4, 0, none⟩) x0_1.length co5) x0_1 from (rz HO_0.out)); obtain ⟨ce6, hcl6, hM6, hcc6, hfr6⟩ := Kd.R_elem HX6.out z37 (x2_1 : Int) (of_decide_eq_true (by assumption)) (by have h_ : (x2_1 : Int) < ((x0_1.length : Int) : Int) := of_decide_eq_true (by assumption); first | exact h_ | (have e_ := (Kd.R_reads' HO_0.out).1; omega) | simpa using h_)
     obtain rfl := k37_openM hM6; have HP6 := Kd.R_seg HX6.out (x2_1 : Int) (of_decide_eq_true (by assumption)) (by have h_ : (x2_1 : Int) < ((x0_1.length : Int) : Int) := of_decide_eq_true (by assumption); first | exact h_ | (have e_ := (Kd.R_reads' HO_0.out).1; omega) | simpa using h_) (seg := [.string (⟨#[111, 118, 101, 114]⟩ : ByteArray), .int .i64 0, .string (⟨#[]⟩ : ByteArray)]) (j := 0) hcl6 hcc6 (show 3 ≤ 3 from by decide) (x' := (⟨(⟨#[111, 118, 101, 114]⟩ : ByteArray), 0, (⟨#[]⟩ : ByteArray)⟩ : S37)) (k37_mkM _ _ _ (⟨(⟨#[111, 118, 101, 114]⟩ : ByteArray), 0, (⟨#[]⟩ : ByteArray)⟩ : S37) ) (fun _ hk => hk); have hx6_0 := hcc6 0 _ rfl; (try simp only [show (k37).sz = 3 from rfl, Nat.mul_one, Nat.add_zero] at hx6_0)
     have hf6_0 := hfr6 0; (try simp only [show (k37).sz = 3 from rfl, Nat.mul_one, Nat.add_zero] at hf6_0)
     have hx6_1 := hcc6 1 _ rfl; (try simp only [show (k37).sz = 3 from rfl, Nat.mul_one, Nat.add_zero] at hx6_1)
     have hf6_1 := hfr6 1; (try simp only [show (k37).sz = 3 from rfl, Nat.mul_one, Nat.add_zero] at hf6_1)
     have hx6_2 := hcc6 2 _ rfl; (try simp only [show (k37).sz = 3 from rfl, Nat.mul_one, Nat.add_zero] at hx6_2)
     have hf6_2 := hfr6 2; (try simp only [show (k37).sz = 3 from rfl, Nat.mul_one, Nat.add_zero] at hf6_2)
     clear hcl6 hcc6 hfr6 hM6; go_wp2_with (first | ((with_reducible refine gate_store (t := 37) (p := 12) rfl ?_); refine store_event (t := 37) (p := 12) (v := ?vo_w7) (w1 := (((wr.setCell ⟨go4, (x2_1 : Int).toNat * 3, none⟩ (.string (⟨#[111, 118, 101, 114]⟩ : ByteArray))).setCell ⟨go4, (x2_1 : Int).toNat * 3 + 1, none⟩ (.int .i64 0)).setCell ⟨go4, (x2_1 : Int).toNat * 3 + 2, none⟩ (.string (⟨#[]⟩ : ByteArray)))) ?hg ?ho ?hn ?hr ?_; (case ho => rfl); (case hg => rfl); (case hn => rfl); (case hr => first | (go_simp; done) | (go_simp; rfl)); intro w7 hw; have hg : wr.grownBy w7 (some go4) := (by rw [hw]; exact HP6.2); have hp_ : Kd.R k37 37 w7 w0.heap.size (fun k_ => (P0_ k_ ∨ w.heap.size ≤ k_)) (.slice (some ⟨go4, 0, none⟩) x0_1.length co5) y350 := (by rw [hw, Ny350.out]; exact HP6.1); clear HP6; replace HB := am ((by rw [hw]; exact below_set (below_set (below_set (HB.out) GB4.out) GB4.out) GB4.out : Below w0.heap.size w0 w7)); replace HK := am (Kept.of_grown (S := (fun k_ => P0_ k_)) hg kz (fun k_ e_ => (HO_0.out.1 k_ e_))); replace HO_0 := am (hp_); clear hg hw hp_))
     go_roundg k1
     case measure => have := HK1.out; omega
     case rel => exact ⟨(y350), (wrap64 (x2_1 + 1)), (by first | rfl | (simp; done) | (simp [*]; done)), H', ⟨by have := HK1.out; omega⟩, ⟨rz HO_0.out⟩, ⟨kz⟩, ⟨bz⟩⟩
    ·rw [if_neg c3] at H
     exact absurd H (by simp)
   ·rw [if_neg c2] at H
    have c2b0 : decide (x2_1 < (x0_1.length : Int)) = false := decide_eq_false c2; clear c2; by_cases c8 : x0_1.length < 3518437208883
    ·rw [if_pos c8] at H
     have LMc8 := am c8; clear c8; obtain ⟨y351, hy351⟩ : ∃ y_ : List (S37), y_ = (x0_1 ++ [(⟨(⟨#[111, 118, 101, 114]⟩ : ByteArray), 0, (⟨#[]⟩ : ByteArray)⟩ : S37)]) := ⟨_, rfl⟩; try rw [← hy351] at H
     have Ny351 := am hy351; clear hy351; obtain ⟨Ao9, co9, eo9⟩ := Kd.R_slice HO_0.out; subst eo9; go_wp2_with (first | ((with_reducible refine gate_builtin (b := .append) (xs := #[.tmp 13, .tmp 15]) rfl ?_); at_builtin; refine Kd.R_append k37 (w0 := w0) w0.heap.size rfl (.tmp 13) (.tmp 15) 25 37 (.agg #[(.string ⟨#[]⟩), (.int .i64 0), (.string ⟨#[]⟩)]) 40 rfl Tryd.underlying25 info37 rfl (by decide) (by omega) (.slice Ao9 x0_1.length co9) x0_1 (⟨(⟨#[111, 118, 101, 114]⟩ : ByteArray), 0, (⟨#[]⟩ : ByteArray)⟩ : S37) [.string (⟨#[111, 118, 101, 114]⟩ : ByteArray), .int .i64 0, .string (⟨#[]⟩ : ByteArray)] (fun k_ => (P0_ k_ ∨ w.heap.size ≤ k_)) (fun _ => False) rfl rfl ?aP (fun _ hk => hk.elim) ?aF ?aO ?aB ?aS ?aL ?_; (case aP => exact k37_mkM _ _ _ (⟨(⟨#[111, 118, 101, 114]⟩ : ByteArray), 0, (⟨#[]⟩ : ByteArray)⟩ : S37)); (case aB => exact bz); (case aF => exact (fun k_ hk => (.inr (Nat.le_trans (by first | exact HK.out.1 | exact (show Kept w _ (fun k_ => P0_ k_) from by repeat (first | (with_reducible first | exact HK.out | apply Kept.alloc | apply Kept.drewN | apply Kept.drew) | exact HK.out)).1) hk)))); (case aO => exact (rz HO_0.out)); (case aS => exact siz); (case aL => have := LMc8.out; omega); intro v352 w10 ho hb hg hat; rw [← Ny351.out] at ho; have n0_ := am (hb); have n1_ := am (Kept.of_grown (S := (fun k_ => P0_ k_)) hg kz (fun k_ e_ => (HO_0.out.1 k_ e_))); have n2_ := am (ho); clear HB; clear HK; clear HO_0; have HB := n0_; have HK := n1_; have HO353 := n2_; clear n0_ n1_ n2_; clear ho hb hg hat))
     first | go_end0 | ((try simp only [Exit.inBlock, Exit.then]); refine bodyPost_ret (results_none rfl _ _ _) rfl ?_)
     exact ⟨ez, by repeat (first | (with_reducible first | exact HB.out | apply bA | apply bN | apply bO) | exact HB.out), kz⟩
    ·rw [if_neg c8] at H
     exact absurd H (by simp)

/-! ### hogsheadlaw4_UnionTells: function 3 -/
def hogsheadlaw4_UnionTells.j0 : Nat → Int → List (List (S37)) → List (S37) → List (S37) → Bool → Option (Bool)
 | 0, _, _, _, _, _ => none
 | k + 1, x0, x1, x5, x7, x9 => (hogsheadlaw0_OverNodes.f k x5).bind fun _ => ((union_Of.f k x0 x1).bind fun bt366 => (if x9 = true then ((hogsheadlaw0_SameNodes.f k bt366.1 x7).bind fun t370 => (if t370 = true then ((hogsheadlaw4_awake.f k).bind fun t371 => (some t371)) else (some false))) else (some false)))
def hogsheadlaw4_UnionTells.f (k : Nat) (a0 : Int) (l1 : List (List (S37))) : Option (Bool) := (hogsheadlaw4_great.f k l1).bind fun t354 => (if t354 = true then ((hogsheadlaw4_awake.f k).bind fun t355 => (some t355)) else ((union_Of.f k a0 l1).bind fun bt356 => ((hogsheadref4_Of.f k a0 l1).bind fun bt360 => ((hogsheadlaw0_SameNodes.f k bt356.1 bt360.1).bind fun t364 => (if t364 = true then ((hogsheadlaw0_Num.f bt356.2).bind fun t365 => (hogsheadlaw4_UnionTells.j0 k a0 l1 bt356.1 bt360.1 (t365 == bt360.2))) else (hogsheadlaw4_UnionTells.j0 k a0 l1 bt356.1 bt360.1 false))))))
theorem hogsheadlaw4_UnionTells.mono_l : ∀ k, (∀ y0 y1 y2 y3 y4, LeO (hogsheadlaw4_UnionTells.j0 k y0 y1 y2 y3 y4) (hogsheadlaw4_UnionTells.j0 (k + 1) y0 y1 y2 y3 y4))
 | 0 => fun _ _ _ _ _ r h => by simp [hogsheadlaw4_UnionTells.j0] at h
 | k + 1 => by
  have ih0 := hogsheadlaw4_UnionTells.mono_l k
  ·intro y0 y1 y2 y3 y4
   unfold hogsheadlaw4_UnionTells.j0
   repeat' with_reducible first | exact ih0 _ _ _ _ _ | exact hogsheadlaw0_OverNodes.mono _ _ | exact hogsheadlaw0_SameNodes.mono _ _ _ | exact hogsheadlaw4_awake.mono _ | exact hogsheadlaw4_great.mono _ _ | exact hogsheadref4_Of.mono _ _ _ | exact union_Of.mono _ _ _ | exact LeO.refl _ | exact LeO.none _ | refine LeO.ite ?_ ?_ | refine LeO.bind ?_ (fun _ => ?_)
theorem hogsheadlaw4_UnionTells.mono : ∀ a0 a1 k, LeO (hogsheadlaw4_UnionTells.f k a0 a1) (hogsheadlaw4_UnionTells.f (k + 1) a0 a1) := by
 intro a0 a1 k; have ih0 := hogsheadlaw4_UnionTells.mono_l k; unfold hogsheadlaw4_UnionTells.f
 repeat' with_reducible first | exact ih0 _ _ _ _ _ | exact hogsheadlaw0_OverNodes.mono _ _ | exact hogsheadlaw0_SameNodes.mono _ _ _ | exact hogsheadlaw4_awake.mono _ | exact hogsheadlaw4_great.mono _ _ | exact hogsheadref4_Of.mono _ _ _ | exact union_Of.mono _ _ _ | exact LeO.refl _ | exact LeO.none _ | refine LeO.ite ?_ ?_ | refine LeO.bind ?_ (fun _ => ?_)
set_option maxHeartbeats 8000000 in
set_option maxRecDepth 100000 in
theorem hogsheadlaw4_UnionTells.calls (k : Nat) (a0 : Int) (A1 : Option Addr) (c1 : Nat) (l1 : List (List (S37))) (r : Bool) (w : World) (hr1 : Kd.C (Kd.slice 37 k37) w A1 l1.length l1) (hc1 : l1.length ≤ c1) (h : hogsheadlaw4_UnionTells.f k a0 l1 = some true) :
  Calls Tryd.prog 3 #[.int .i64 a0, .slice A1 l1.length c1] w fun e w' => e = .returned (.bool true) ∧ Below w.heap.size w w' := by
 have HR1 := am hr1; have HC1 := am hc1; clear hr1 hc1; have HB := am (Below.refl w.heap.size w); have H : ((hogsheadlaw4_great.f k l1).bind fun t354 => (if t354 = true then ((hogsheadlaw4_awake.f k).bind fun t355 => (some t355)) else ((union_Of.f k a0 l1).bind fun bt356 => ((hogsheadref4_Of.f k a0 l1).bind fun bt360 => ((hogsheadlaw0_SameNodes.f k bt356.1 bt360.1).bind fun t364 => (if t364 = true then ((hogsheadlaw0_Num.f bt356.2).bind fun t365 => (hogsheadlaw4_UnionTells.j0 k a0 l1 bt356.1 bt360.1 (t365 == bt360.2))) else (hogsheadlaw4_UnionTells.j0 k a0 l1 bt356.1 bt360.1 false))))))) = some true := h; clear h; refine oR H ?_; clear H; intro t354 A3 H; by_cases c4 : t354 = true
 ·subst c4
  have H1 : ((hogsheadlaw4_awake.f k).bind fun t355 => (some t355)) = some true := by rw [if_pos rfl] at H; exact H
  clear H; have H := H1; clear H1; refine oR H ?_; clear H; intro t355 A5 H; obtain rfl := Option.some.inj H; go_enter Tryd.func3, Tryd.ntmps3; go_wp2_with (first | ((with_reducible refine gate_callee (f := 7) rfl ?_); refine gL (some 11) Tryd.func7 #[.slice A1 l1.length c1] ?_; (with_reducible refine (hogsheadlaw4_great.calls k _ _ l1 true _ ?side1 ?side2 A3.out).mono ?_); (case side1 => exact cz HR1.out); (case side2 => exact HC1.out); rintro e w' ⟨rfl, ⟨nd, rfl⟩⟩; refine ⟨_, rfl, ?_⟩) | ((with_reducible refine gate_callee (f := 8) rfl ?_); refine gL (some 12) Tryd.func8 #[] ?_; (with_reducible refine (hogsheadlaw4_awake.calls k  true _ A5.out).mono ?_); rintro e w6 ⟨rfl, hb⟩; refine ⟨_, rfl, ?_⟩; replace HB := bs hb))
  go_ret; exact ⟨ez, bz⟩
 ·replace c4 := Bool.eq_false_iff.mpr c4
  subst c4; have H1 : ((union_Of.f k a0 l1).bind fun bt356 => ((hogsheadref4_Of.f k a0 l1).bind fun bt360 => ((hogsheadlaw0_SameNodes.f k bt356.1 bt360.1).bind fun t364 => (if t364 = true then ((hogsheadlaw0_Num.f bt356.2).bind fun t365 => (hogsheadlaw4_UnionTells.j0 k a0 l1 bt356.1 bt360.1 (t365 == bt360.2))) else (hogsheadlaw4_UnionTells.j0 k a0 l1 bt356.1 bt360.1 false))))) = some true := by rw [if_neg (show ¬ (false = true) by decide)] at H; exact H
  clear H; have H := H1; clear H1; replace H := oB H; obtain ⟨⟨t356, t357⟩, A70, H⟩ := H; replace H : ((hogsheadref4_Of.f k a0 l1).bind fun bt360 => ((hogsheadlaw0_SameNodes.f k t356 bt360.1).bind fun t364 => (if t364 = true then ((hogsheadlaw0_Num.f t357).bind fun t365 => (hogsheadlaw4_UnionTells.j0 k a0 l1 t356 bt360.1 (t365 == bt360.2))) else (hogsheadlaw4_UnionTells.j0 k a0 l1 t356 bt360.1 false)))) = some true := H; have A7 := am A70; clear A70; replace H := oB H; obtain ⟨⟨t360, t361⟩, A80, H⟩ := H; replace H : ((hogsheadlaw0_SameNodes.f k t356 t360).bind fun t364 => (if t364 = true then ((hogsheadlaw0_Num.f t357).bind fun t365 => (hogsheadlaw4_UnionTells.j0 k a0 l1 t356 t360 (t365 == t361))) else (hogsheadlaw4_UnionTells.j0 k a0 l1 t356 t360 false))) = some true := H; have A8 := am A80; clear A80; have HC9 := am H; clear H; go_enter Tryd.func3, Tryd.ntmps3; go_upto_region 5 with (first | ((with_reducible refine gate_callee (f := 7) rfl ?_); refine gL (some 11) Tryd.func7 #[.slice A1 l1.length c1] ?_; (with_reducible refine (hogsheadlaw4_great.calls k _ _ l1 false _ ?side1 ?side2 A3.out).mono ?_); (case side1 => exact cz HR1.out); (case side2 => exact HC1.out); rintro e w' ⟨rfl, ⟨nd, rfl⟩⟩; refine ⟨_, rfl, ?_⟩) | ((with_reducible refine gate_callee (f := 9) rfl ?_); refine gL (some 16) Tryd.func9 #[.int .i64 a0, .slice A1 l1.length c1] ?_; (with_reducible refine (union_Of.calls k a0 _ _ l1 t356 t357 _ ?side1 ?side2 A7.out).mono ?_); (case side1 => exact cz HR1.out); (case side2 => exact HC1.out); rintro e w10 ⟨v358, rfl, ho0, hb⟩; refine ⟨_, rfl, ?_⟩; have HO359 := am (Kd.R_lower ho0 siz); replace HB := bs hb; (try clear ho0)) | ((with_reducible refine gate_callee (f := 10) rfl ?_); refine gL (some 22) Tryd.func10 #[.int .i64 a0, .slice A1 l1.length c1] ?_; (with_reducible refine (hogsheadref4_Of.calls k a0 _ _ l1 t360 t361 _ ?side1 ?side2 A8.out).mono ?_); (case side1 => exact cz (Kd.C_below HR1.out HB.out)); (case side2 => exact HC1.out); rintro e w11 ⟨v362, rfl, ho0, hb⟩; refine ⟨_, rfl, ?_⟩; have HO363 := am (Kd.R_lower (Kd.R_new' ho0 (Kd.R_lt (rz HO359.out))) siz); replace HO359 := am (Kd.R_elder' (rz HO359.out) (Kd.R_base ho0) hb); replace HB := bs hb; (try clear ho0)))
  (try simp only [Act.put, sA, sB, sC])
  go_cut [9] (fun v9 wc => ∃ (kq : Nat) (x9_8 : Bool), v9 = .bool x9_8 ∧ Aside0 (hogsheadlaw4_UnionTells.j0 kq a0 l1 t356 t360 x9_8 = some true) ∧ Aside0 (kq ≤ k) ∧ Aside0 (Kd.R k37 37 wc w.heap.size (fun k_ => some k_ ≠ (v362 : Value).ownBlock) v358 t356) ∧ Aside0 (Kd.R k37 37 wc w.heap.size (fun k_ => some k_ ≠ (v358 : Value).ownBlock) v362 t360) ∧ Aside0 (Below w.heap.size w wc))
  case first =>
   have H := HC9.out; clear HC9; refine oR H ?_; clear H; intro t364 A12 H; by_cases c13 : t364 = true
   ·subst c13
    have H1 : ((hogsheadlaw0_Num.f t357).bind fun t365 => (hogsheadlaw4_UnionTells.j0 k a0 l1 t356 t360 (t365 == t361))) = some true := by rw [if_pos rfl] at H; exact H
    clear H; have H := H1; clear H1; refine oR H ?_; clear H; intro t365 A14 H; have H' := am H; clear H; obtain ⟨Ao15, co15, eo15⟩ := Kd.R_slice HO359.out; subst eo15; obtain ⟨Ao16, co16, eo16⟩ := Kd.R_slice HO363.out; subst eo16; go_wp2_with (first | ((with_reducible refine gate_callee (f := 11) rfl ?_); refine gL (some 27) Tryd.func11 #[.slice Ao15 t356.length co15, .slice Ao16 t360.length co16] ?_; (with_reducible refine (hogsheadlaw0_SameNodes.calls k _ _ t356 _ _ t360 true _ ?side1 ?side2 ?side3 ?side4 A12.out).mono ?_); (case side1 => exact cz (Kd.R_reads' HO359.out).2.2); (case side2 => exact (Kd.R_reads' HO359.out).2.1); (case side3 => exact cz (Kd.R_reads' HO363.out).2.2); (case side4 => exact (Kd.R_reads' HO363.out).2.1); rintro e w' ⟨rfl, ⟨nd, rfl⟩⟩; refine ⟨_, rfl, ?_⟩) | (go_at_call 12; (with_reducible refine (hogsheadlaw0_Num.calls t357 t365 _ A14.out).mono ?_); rintro e w' ⟨rfl, ⟨nd, rfl⟩⟩))
    go_meet; case rel => exact ⟨_, ((t365 == t361)), (by first | rfl | (simp; done) | (simp [*]; done)), H', ⟨by first | omega | exact Nat.le_refl _⟩, ⟨rz (Kd.R_mono HO359.out (fun _ hk => hk.2))⟩, ⟨rz (Kd.R_mono HO363.out (fun _ hk => hk.2))⟩, ⟨bz⟩⟩
   ·replace c13 := Bool.eq_false_iff.mpr c13
    subst c13; have H1 : (hogsheadlaw4_UnionTells.j0 k a0 l1 t356 t360 false) = some true := by rw [if_neg (show ¬ (false = true) by decide)] at H; exact H
    exact absurd H1 (by cases k <;> simp [hogsheadlaw4_UnionTells.j0, Option.bind_eq_some_iff])
  case rest =>
   clear HC9; (try clear c1); (try clear p2); (try clear c3); (try clear c4); (try clear c7); (try clear c8); (try clear c9); (try clear c10); (try clear c11); (try clear c13); obtain ⟨kq, x9_8, rfl, HA, HJ8, HO_5, HO_7, HB⟩ := hcut; cases kq with
   | zero => exact absurd HA.out (by simp [hogsheadlaw4_UnionTells.j0])
   | succ kj8 =>
    have H := HA.out; clear HA; simp only [hogsheadlaw4_UnionTells.j0] at H
    refine oR H ?_; clear H; intro _ A19 H; replace H := oB H; obtain ⟨⟨t366, t367⟩, A200, H⟩ := H; replace H : (if x9_8 = true then ((hogsheadlaw0_SameNodes.f kj8 t366 t360).bind fun t370 => (if t370 = true then ((hogsheadlaw4_awake.f kj8).bind fun t371 => (some t371)) else (some false))) else (some false)) = some true := H; have A20 := am A200; clear A200; by_cases c21 : x9_8 = true
    ·subst c21
     have H1 : ((hogsheadlaw0_SameNodes.f kj8 t366 t360).bind fun t370 => (if t370 = true then ((hogsheadlaw4_awake.f kj8).bind fun t371 => (some t371)) else (some false))) = some true := by rw [if_pos rfl] at H; exact H
     clear H; have H := H1; clear H1; refine oR H ?_; clear H; intro t370 A22 H; by_cases c23 : t370 = true
     ·subst c23
      have H1 : ((hogsheadlaw4_awake.f kj8).bind fun t371 => (some t371)) = some true := by rw [if_pos rfl] at H; exact H
      clear H; have H := H1; clear H1; refine oR H ?_; clear H; intro t371 A24 H; obtain rfl := Option.some.inj H; obtain ⟨Ao25, co25, eo25⟩ := Kd.R_slice HO_5.out; subst eo25; go_wp2_with (first | ((with_reducible refine gate_callee (f := 13) rfl ?_); refine gL (some 35) Tryd.func13 #[.slice Ao25 t356.length co25] ?_; (with_reducible refine (hogsheadlaw0_OverNodes.calls kj8 (fun k_ => some k_ = (.slice Ao25 t356.length co25 : Value).ownBlock) (.slice Ao25 t356.length co25) t356  w _ ?side1 ?side2 A19.out).mono ?_); (case side1 => repeat (first | (with_reducible first | exact HB.out | apply bA | apply bN | apply bO) | exact HB.out)); (case side2 => exact Kd.R_tight rfl HO_5.out); rintro e w26 ⟨rfl, hb, hkp⟩; refine ⟨_, rfl, ?_⟩; have n0_ := am (Kd.R_mono (ok' := fun k_ => True) (Kd.R_keptB (HO_7.out) hkp (fun k_ hk_ hs_ => (hk_) hs_)) (fun k_ hk_ => trivial)); have n1_ := am (hb); clear HO_7; clear HB; clear HO_5; have HO_7 := n0_; have HB := n1_; clear n0_ n1_; (try clear hb); (try clear hkp)) | ((with_reducible refine gate_callee (f := 9) rfl ?_); refine gL (some 39) Tryd.func9 #[.int .i64 a0, .slice A1 l1.length c1] ?_; (with_reducible refine (union_Of.calls kj8 a0 _ _ l1 t366 t367 _ ?side1 ?side2 A20.out).mono ?_); (case side1 => exact cz (Kd.C_below HR1.out HB.out)); (case side2 => exact HC1.out); rintro e w27 ⟨v368, rfl, ho0, hb⟩; refine ⟨_, rfl, ?_⟩; have HO369 := am (Kd.R_lower (Kd.R_new' ho0 (Kd.R_lt (rz HO_7.out))) siz); replace HO_7 := am (Kd.R_elder' (rz HO_7.out) (Kd.R_base ho0) hb); replace HB := bs hb; (try clear ho0); obtain ⟨Ao28, co28, eo28⟩ := Kd.R_slice HO369.out; subst eo28; obtain ⟨Ao29, co29, eo29⟩ := Kd.R_slice HO_7.out; subst eo29) | (go_at_call 11; (with_reducible refine (hogsheadlaw0_SameNodes.calls kj8 _ _ t366 _ _ t360 true _ ?side1 ?side2 ?side3 ?side4 A22.out).mono ?_); (case side1 => exact cz (Kd.R_reads' HO369.out).2.2); (case side2 => exact (Kd.R_reads' HO369.out).2.1); (case side3 => exact cz (Kd.R_reads' HO_7.out).2.2); (case side4 => exact (Kd.R_reads' HO_7.out).2.1); rintro e w' ⟨rfl, ⟨nd, rfl⟩⟩) | (go_at_call 8; (with_reducible refine (hogsheadlaw4_awake.calls kj8  true _ A24.out).mono ?_); rintro e w30 ⟨rfl, hb⟩; replace HO_7 := am (Kd.R_below (rz HO_7.out) hb); replace HO369 := am (Kd.R_below (rz HO369.out) hb); replace HB := bs hb))
      go_ret; exact ⟨ez, bz⟩
     ·replace c23 := Bool.eq_false_iff.mpr c23
      subst c23; have H1 : (some false) = some true := by rw [if_neg (show ¬ (false = true) by decide)] at H; exact H
      exact absurd H1 (by simp)
    ·replace c21 := Bool.eq_false_iff.mpr c21
     subst c21; have H1 : (some false) = some true := by rw [if_neg (show ¬ (false = true) by decide)] at H; exact H
     exact absurd H1 (by simp)
/-- The one plain statement of hogsheadlaw4_UnionTells. -/
def hogsheadlaw4_UnionTells.Pure : Prop := ∀ (a0 : Int) (l1 : List (List (S37))), (Lit.int .i64 a0).wf = true → (l1.length ≤ maxLen ∧ ∀ y1 ∈ l1, y1.length ≤ maxLen ∧ ∀ y2 ∈ y1, (y2.f0.size ≤ maxLen) ∧ ((Lit.int .i64 y2.f1).wf = true) ∧ (y2.f2.size ≤ maxLen)) → ∃ k, hogsheadlaw4_UnionTells.f k a0 l1 = some true

end Go.Proofs.YtiamdmlbhmgnjaaDoor.P
