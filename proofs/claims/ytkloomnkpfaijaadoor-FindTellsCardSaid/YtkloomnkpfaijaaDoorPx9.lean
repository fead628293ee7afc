/- Laid by a program of this session (wip/pr), after the printer of the kit: the functions that a statement reaches as plain Lean functions, and that the calls of the machine come to them. No condition. -/
import Derived.Test.YtkloomnkpfaijaaDoorPx0
namespace Go.Proofs.YtkloomnkpfaijaaDoor.P
open Go.RowKit Go.Proofs.YtkloomnkpfaijaaDoorX Go.Proofs.YtkloomnkpfaijaaDoorW.PrintWords Go.Proofs.YtkloomnkpfaijaaDoorW.PrintLast Go.Proofs.YtkloomnkpfaijaaDoorW.PrintMore
attribute [local go_sem] max2_int min2_int max_two min_two
set_option linter.unusedVariables false
set_option linter.unusedSimpArgs false

def hogsheadlaw0_LendNodes.f (l0 : List S31) : Option (List S31) := if l0.length ≤ 1000000 then some l0 else none
/-- Three cells again and again. -/
def mkN (j : Nat) : List Value := (List.replicate j [Value.string ⟨#[108, 101, 110, 116]⟩, Value.int .i64 0, Value.string ⟨#[]⟩]).flatten
theorem mkN_len (j : Nat) : (mkN j).length = 3 * j := by
 unfold mkN
 induction j with
 | zero => rfl
 | succ j ih => rw [List.replicate_succ, List.flatten_cons, List.length_append, ih]; simp; omega
theorem mkN_succ (j : Nat) : mkN (j + 1) = mkN j ++ [Value.string ⟨#[108, 101, 110, 116]⟩, Value.int .i64 0, Value.string ⟨#[]⟩] := by
 unfold mkN
 rw [List.replicate_succ', List.flatten_append]; simp
set_option maxHeartbeats 1000000 in
theorem hogsheadlaw0_LendNodes.calls (A0 : Option Addr) (c0 : Nat) (l0 : List S31) (r : List S31) (w : World) (hr0 : Kd.C k31 w A0 l0.length l0) (hc0 : l0.length ≤ c0) (h : hogsheadlaw0_LendNodes.f l0 = some r) :
  Calls Tryd.prog 19 #[.slice A0 l0.length c0] w fun e w' => ∃ v0_ : Value, e = .returned (v0_) ∧ Kd.R k31 31 w' w.heap.size (fun _ => True) v0_ r ∧ Below w.heap.size w w' ∧ Room 31 3 [.string ⟨#[108, 101, 110, 116]⟩, .int .i64 0, .string ⟨#[]⟩] w' v0_ := by
 unfold hogsheadlaw0_LendNodes.f at h
 by_cases hl : l0.length ≤ 1000000
 case neg => rw [if_neg hl] at h; cases h
 rw [if_pos hl] at h; injection h with h; subst h; have hu := Tryd.underlying31; obtain ⟨i, hi, hi2⟩ := Option.map_eq_some_iff.1 (show (Tryd.prog.info? 31).map (fun i => (i.zero, i.size, i.bytes)) = some (some (.agg #[(.string ⟨#[]⟩), (.int .i64 0), (.string ⟨#[]⟩)]), 3, 40) by kernel_rfl); simp only [Prod.mk.injEq] at hi2
 obtain ⟨hz, hsz, hby⟩ := hi2; obtain ⟨zs, hzs, hmake⟩ : ∃ zs : Array Value, zs.size = (l0.length + 3) * 3 ∧ ∀ W : World, (Instr.makeSlice 22 (.int .i64 0) (.int .i64 ((l0.length : Int) + 3))).run Tryd.prog W = .ok (.slice (some ⟨W.heap.size, 0, none⟩) 0 (l0.length + 3)) (W.alloc (.cells zs 31)) := by
  refine ⟨madeCells (Value.agg #[(.string ⟨#[]⟩), (.int .i64 0), (.string ⟨#[]⟩)]).cells ((l0.length + 3) * 3), size_madeCells _ _, fun W => ?_⟩
  have := run_make W 22 31 i (.agg #[(.string ⟨#[]⟩), (.int .i64 0), (.string ⟨#[]⟩)]) Tryd.underlying22 hi hz .i64 .i64 0 ((l0.length : Int) + 3) (by omega) (by omega) (by rw [hby]; omega) (by omega); rw [this, hsz, show ((l0.length : Int) + 3).toNat = l0.length + 3 by omega]; rfl
 have hwr : IntKind.i64.wrap ((l0.length : Int) + 3) = (l0.length : Int) + 3 := by rw [IntKind.wrap_i64]; omega
 obtain ⟨inner, hrep, hcells⟩ : ∃ inner : List Value, Reps (fun (x : S31) cs => cs = [Value.string x.f0, Value.int .i64 x.f1, Value.string x.f2]) 3 l0 inner ∧ ∀ a, A0 = some a → ∀ j u, inner[j]? = some u → w.cell? (a.add j) = some u := by
  rcases Nat.eq_zero_or_pos l0.length with h0 | h0
  ·obtain rfl := List.eq_nil_of_length_eq_zero h0
   exact ⟨[], Reps.none _ _, fun a _ j u hu => by simp at hu⟩
  ·obtain ⟨ad, rfl, _⟩ := hr0.2.2 h0
   obtain ⟨inner, h1, h2⟩ := ReadsRow.inner_ hr0; exact ⟨inner, h1.imp_ (fun p c hp => k31_open hp), fun a ha => by cases ha; exact h2⟩
 have hil : inner.length = l0.length * 3 := hrep.1; have hA : 0 < l0.length → A0 ≠ none := fun h0 => by
  obtain ⟨ad, rfl, _⟩ := hr0.2.2 h0; simp
 have hone : ∀ u ∈ inner, u.oneCell' = true := by
  intro u hu; obtain ⟨j, hj, rfl⟩ := List.getElem_of_mem hu; have hjl : j / 3 < l0.length := by omega
  have h1 := hrep.2 (j / 3) (l0[j / 3]'hjl) (List.getElem?_eq_getElem hjl); have h2 : ((inner.drop (j / 3 * 3)).take 3)[j % 3]? = some inner[j] := by
   rw [List.getElem?_take_of_lt (by omega), List.getElem?_drop, show j / 3 * 3 + j % 3 = j by omega, List.getElem?_eq_getElem hj]
  rw [h1] at h2; have h3 : j % 3 = 0 ∨ j % 3 = 1 ∨ j % 3 = 2 := by omega
  rcases h3 with h3 | h3 | h3 <;> rw [h3] at h2
  ·rw [← Option.some.inj (show some (Value.string _) = some inner[j] from h2)]; rfl
  ·rw [← Option.some.inj (show some (Value.int _ _) = some inner[j] from h2)]; rfl
  ·rw [← Option.some.inj (show some (Value.string _) = some inner[j] from h2)]; rfl
 obtain ⟨W2, happ, hBW, rest0, hrest0, hblk⟩ : ∃ W2, (Builtin.append_ #[22, 22] 22 #[.slice (some ⟨w.heap.size, 0, none⟩) 0 (l0.length + 3), .slice A0 l0.length c0]).run Tryd.prog (w.alloc (.cells zs 31)) = .ok (.slice (some ⟨w.heap.size, 0, none⟩) l0.length (l0.length + 3)) W2 ∧ Below w.heap.size w W2 ∧
   ∃ rest : List Value, rest.length = 9 ∧ W2.heap[w.heap.size]? = some (.cells (inner ++ rest).toArray 31 (0, 0)) := by
  have hzl : zs.toList.length = (l0.length + 3) * 3 := by rw [Array.length_toList]; exact hzs
  have hb0 : (w.alloc (.cells zs 31)).heap[w.heap.size]? = some (.cells ([] ++ (zs.toList.take (l0.length * 3) ++ zs.toList.drop (l0.length * 3))).toArray 31 (0, 0)) := by
   rw [heap_alloc_new, List.nil_append, List.take_append_drop]
  have hr := run_append_into (P := Tryd.prog) (w.alloc (.cells zs 31)) 22 22 31 i Tryd.underlying22 hi w.heap.size 0 0 (l0.length + 3) A0 l0.length c0 inner (by rw [hil, hsz]) hA
   (fun a ha j u hu => by
    have h1 := hcells a ha j u hu; have h2 := (Below.refl w.heap.size w).alloc (Nat.le_refl _) (.cells zs 31); exact (h2.cell (wB w _ h1)).trans h1) hone (by omega)
   (fun j hj => by
    rw [show 0 + 0 * i.size + j = j by omega, blk_cell hb0 j, List.nil_append, List.take_append_drop, List.getElem?_toArray, List.getElem?_eq_getElem (by rw [hzl]; omega)]; rfl)
   (fun j hj => blk_frozen hb0 _)
  rw [show 0 + l0.length = l0.length by omega, show 0 + 0 * i.size = 0 by omega] at hr; refine ⟨_, hr, below_setCells _ _ _ ((Below.refl w.heap.size w).alloc (Nat.le_refl _) _) (Nat.le_refl _), zs.toList.drop (l0.length * 3), by rw [lD, hzl]; omega, ?_⟩
  exact blk_setCells inner 0 _ [] (zs.toList.take (l0.length * 3)) (zs.toList.drop (l0.length * 3)) hb0 rfl (by rw [lT, hzl, hil]; omega)
 go_enter Tryd.func19, Tryd.ntmps19; go_wp2_with (at_builtin; refine wpList_append_known rfl _ _ _ _ rfl _ _ rfl rfl _ _ happ ?_)
 clear happ hmake; have HW := am hblk; have HBW := am hBW; clear hblk hBW; go_loopw [5] (fun v5 wr => ∃ j : Nat, j ≤ 3 ∧ v5 = .int .i64 j ∧ Aside0 (∃ rest : List Value, rest.length = 3 * (3 - j) ∧ wr.heap[w.heap.size]? = some (.cells (inner ++ (mkN j ++ rest)).toArray 31 (0, 0))) ∧ Aside0 (Below w.heap.size w wr)) (fun v _ => 3 - (intOf v).toNat)
 case atStart => exact ⟨0, by omega, rfl, ⟨rest0, hrest0, HW.out⟩, HBW⟩
 case round =>
  obtain ⟨j, hj, rfl, HK, HB⟩ := hrel; by_cases hjl : j < 3
  ·obtain ⟨rest, hrl, hb⟩ := HK.out
   have HKK := am hb; obtain ⟨r0, r1, r2, rest', rfl⟩ : ∃ r0 r1 r2 rest', rest = r0 :: r1 :: r2 :: rest' := by
    rcases rest with _ | ⟨r0, _ | ⟨r1, _ | ⟨r2, rest'⟩⟩⟩
    ·simp at hrl; omega
    ·simp at hrl; omega
    ·simp at hrl; omega
    ·exact ⟨_, _, _, _, rfl⟩
   have hml := mkN_len j; have hpl : (inner ++ mkN j).length = l0.length * 3 + j * 3 := by rw [List.length_append, hil, hml]; omega
   have hce : ∀ q, q < 3 → ∃ u, wr.cell? ⟨w.heap.size, l0.length * 3 + j * 3 + q, none⟩ = some u := fun q hq => by
    have hlt : l0.length * 3 + j * 3 + q < (inner ++ (mkN j ++ (r0 :: r1 :: r2 :: rest'))).length := by
     rw [← List.append_assoc, List.length_append, hpl]; simp
     omega
    exact ⟨_, by rw [blk_cell hb, List.getElem?_toArray, List.getElem?_eq_getElem hlt]⟩
   obtain ⟨u0, hcell0⟩ := hce 0 (by omega); obtain ⟨u1, hcell1⟩ := hce 1 (by omega); obtain ⟨u2, hcell2⟩ := hce 2 (by omega); rw [Nat.add_zero] at hcell0; have hfz0 : wr.frozen? ⟨w.heap.size, l0.length * 3 + j * 3, none⟩ = false := blk_frozen hb _; have hfz1 : wr.frozen? ⟨w.heap.size, l0.length * 3 + j * 3 + 1, none⟩ = false := blk_frozen hb _; have hfz2 : wr.frozen? ⟨w.heap.size, l0.length * 3 + j * 3 + 2, none⟩ = false := blk_frozen hb _; have c1 : decide ((j : Int) < 3) = true := decide_eq_true (by omega); have p1 : (0 ≤ (j : Int)) = True := eq_true (by omega); have q1 : ((j : Int) < 3) = True := eq_true (by omega); have HRL := am hrl; clear hb hce hrl HK; go_wp2
   refine ⟨⟨j + 1, by omega, by rw [show ((j : Int) + 1) = ((j + 1 : Nat) : Int) by omega], ⟨rest', ?_, ?_⟩, ⟨below_set (below_set (below_set HB.out (Nat.le_refl _)) (Nat.le_refl _)) (Nat.le_refl _)⟩⟩, by simp only [intOf]; omega⟩
   ·have := HRL.out
    simp only [List.length_cons] at this
    omega
   ·have h1 := blk_setCells [Value.string ⟨#[108, 101, 110, 116]⟩, Value.int .i64 0, Value.string ⟨#[]⟩] (l0.length * 3 + j * 3) wr (inner ++ mkN j) [r0, r1, r2] rest' (by rw [List.append_assoc]; exact HKK.out) hpl rfl
    rw [mkN_succ, List.append_assoc (mkN j), ← List.append_assoc inner]; exact h1
  ·have c1 : decide ((j : Int) < 3) = false := decide_eq_false (by omega)
   go_wp2
   go_ret; obtain rfl : j = 3 := by omega
   obtain ⟨rest, hrl, hb⟩ := HK.out; obtain rfl : rest = [] := List.eq_nil_of_length_eq_zero (by omega); refine ⟨_, rfl, ⟨fun _ _ => trivial, inner, ⟨hil, .inr ⟨w.heap.size, l0.length + 3, _, rfl, Nat.le_refl _, hb, by omega, by simp only [maxLen]; omega, ?_, ?_⟩⟩, hrep.imp_ (fun p c hp => by rw [hp]; exact k31_mkM _ _ _ p)⟩, HB.out, ⟨w.heap.size, l0.length, l0.length + 3, _, rfl, Nat.le_refl _, hl, hb, ?_⟩⟩
   ·show (inner ++ (mkN 3 ++ [])).length = (l0.length + 3) * 3
    rw [List.length_append, List.length_append, hil, mkN_len]; simp
    omega
   ·show (inner ++ (mkN 3 ++ [])).take (l0.length * 3) = inner
    rw [← hil]; exact List.take_left
   ·show (inner ++ (mkN 3 ++ [])).drop (l0.length * 3) = _
    rw [← hil, List.drop_left]; rfl

/-! ### hogsheadref1_Cut: function 77 -/
def hogsheadref1_Cut.l0 : Nat → ByteArray → List ByteArray → Int → Int → Option (List ByteArray)
 | 0, _, _, _, _ => none
 | k + 1, x0, x3, x4, x5 => if x5 ≤ (x0.size : Int) then (if x5 = (x0.size : Int) then (if 0 ≤ x4 then (if x4 ≤ x5 then (if x3.length < 8796093022208 then (hogsheadref1_Cut.l0 k x0 (x3 ++ [x0.extract (x4 : Int).toNat (x5 : Int).toNat]) (wrap64 (x5 + 1)) (wrap64 (x5 + 1))) else (none)) else (none)) else (none)) else (if 0 ≤ x5 then (if x5 < (x0.size : Int) then (if (bt x0 x5) = 47 then (if 0 ≤ x4 then (if x4 ≤ x5 then (if x3.length < 8796093022208 then (hogsheadref1_Cut.l0 k x0 (x3 ++ [x0.extract (x4 : Int).toNat (x5 : Int).toNat]) (wrap64 (x5 + 1)) (wrap64 (x5 + 1))) else (none)) else (none)) else (none)) else (hogsheadref1_Cut.l0 k x0 x3 x4 (wrap64 (x5 + 1)))) else (none)) else (none))) else (some x3)
def hogsheadref1_Cut.f (k : Nat) (a0 : ByteArray) : Option (List ByteArray) := hogsheadref1_Cut.l0 k a0 ([] : List ByteArray) 0 0
theorem hogsheadref1_Cut.mono_l : ∀ k, (∀ y0 y1 y2 y3, LeO (hogsheadref1_Cut.l0 k y0 y1 y2 y3) (hogsheadref1_Cut.l0 (k + 1) y0 y1 y2 y3))
 | 0 => fun _ _ _ _ r h => by simp [hogsheadref1_Cut.l0] at h
 | k + 1 => by
  have ih0 := hogsheadref1_Cut.mono_l k
  ·intro y0 y1 y2 y3
   unfold hogsheadref1_Cut.l0
   repeat' with_reducible first | exact ih0 _ _ _ _ | exact LeO.refl _ | exact LeO.none _ | refine LeO.ite ?_ ?_ | refine LeO.bind ?_ (fun _ => ?_)
theorem hogsheadref1_Cut.mono : ∀ a0 k, LeO (hogsheadref1_Cut.f k a0) (hogsheadref1_Cut.f (k + 1) a0) := by
 intro a0 k; have ih0 := hogsheadref1_Cut.mono_l k; unfold hogsheadref1_Cut.f
 repeat' with_reducible first | exact ih0 _ _ _ _ | exact LeO.refl _ | exact LeO.none _ | refine LeO.ite ?_ ?_ | refine LeO.bind ?_ (fun _ => ?_)
set_option maxHeartbeats 8000000 in
set_option maxRecDepth 100000 in
theorem hogsheadref1_Cut.calls (k : Nat) (a0 : ByteArray) (r : List ByteArray) (w : World) (h : hogsheadref1_Cut.f k a0 = some r) :
  Calls Tryd.prog 77 #[.string a0] w fun e w' => ∃ v0_ : Value, e = .returned (v0_) ∧ Kd.R Kd.string 9 w' w.heap.size (fun _ => True) v0_ r ∧ Below w.heap.size w w' := by
 have HB := am (Below.refl w.heap.size w); have H : (hogsheadref1_Cut.l0 k a0 ([] : List ByteArray) 0 0) = some r := h; clear h; have H' := am H; clear H; go_enter Tryd.func77, Tryd.ntmps77; go_wp2
 go_loopg [3, 4, 5] k (fun kq v3 v4 v5 w' => ∃ (x3_1 : List ByteArray) (x4_1 : Int) (x5_1 : Int), v4 = .int .i64 x4_1 ∧ v5 = .int .i64 x5_1 ∧ Aside0 (hogsheadref1_Cut.l0 kq a0 x3_1 x4_1 x5_1 = some r) ∧ Aside0 (kq ≤ k) ∧ Aside0 (Kd.R Kd.string 9 w' w.heap.size (fun _ => True) v3 x3_1) ∧ Aside0 (Below w.heap.size w w'))
 case atStart => exact ⟨(([] : List ByteArray)), (0), (0), (by first | rfl | (simp; done) | (simp [*]; done)), (by first | rfl | (simp; done) | (simp [*]; done)), H', ⟨Nat.le_refl _⟩, ⟨by first | exact Kd.R_nil _ _ _ _ _ | exact Kd.N_nil _ _ _ _ _ | exact Kd.V_nil _ _ _ _ _ | exact Kd.Q_nil _ _ _ _ _ | exact Kd.S_nil _ _ _ _ _⟩, ⟨bz⟩⟩
 case round =>
  clear H'; obtain ⟨x3_1, x4_1, x5_1, rfl, rfl, HA, HK1, HO_3, HB⟩ := hrel; cases gk with
  | zero => exact absurd HA.out (by simp [hogsheadref1_Cut.l0])
  | succ k1 =>
   have H := HA.out; clear HA; simp only [hogsheadref1_Cut.l0] at H
   by_cases c2 : x5_1 ≤ (a0.size : Int)
   ·rw [if_pos c2] at H
    have c2b0 : decide (x5_1 ≤ (a0.size : Int)) = true := decide_eq_true c2; clear c2; by_cases c3 : x5_1 = (a0.size : Int)
    ·rw [if_pos c3] at H
     have c3b0 : (x5_1 == (a0.size : Int)) = true := beq_iff_eq.mpr c3; have c3b1 : (x5_1 != (a0.size : Int)) = false := bne_eq_false_iff_eq.mpr c3; clear c3; by_cases c4 : 0 ≤ x4_1
     ·rw [if_pos c4] at H
      have c4b0 := eq_true c4; have c4b1 : decide (0 ≤ x4_1) = true := decide_eq_true c4; clear c4; by_cases c5 : x4_1 ≤ x5_1
      ·rw [if_pos c5] at H
       have c5b0 := eq_true c5; have c5b1 : decide (x4_1 ≤ x5_1) = true := decide_eq_true c5; clear c5; have c6b0 := eq_true (of_decide_eq_true (by assumption) : x5_1 ≤ (a0.size : Int)); by_cases c7 : x3_1.length < 8796093022208
       ·rw [if_pos c7] at H
        have LMc7 := am c7; clear c7; obtain ⟨y199, hy199⟩ : ∃ y_ : List ByteArray, y_ = (x3_1 ++ [a0.extract (x4_1 : Int).toNat (x5_1 : Int).toNat]) := ⟨_, rfl⟩; try rw [← hy199] at H
        have Ny199 := am hy199; clear hy199; have H' := am H; clear H; go_wp2_with (first | ((with_reducible refine gate_builtin (b := .append) (xs := #[.tmp 22, .tmp 27]) rfl ?_); at_builtin; refine Kd.R_append Kd.string (w0 := w) w.heap.size rfl (.tmp 22) (.tmp 27) 27 9 (.string ⟨#[]⟩) 16 rfl Tryd.underlying27 info9 rfl (by decide) (by omega) u3 x3_1 (a0.extract (x4_1 : Int).toNat (x5_1 : Int).toNat) [.string (a0.extract (x4_1 : Int).toNat (x5_1 : Int).toNat)] (fun _ => True) (fun _ => False) rfl rfl ?aP (fun _ hk => hk.elim) ?aF ?aO ?aB ?aS ?aL ?_; (case aP => exact rfl); (case aB => exact bz); (case aF => exact (fun _ _ => trivial)); (case aO => exact (rz HO_3.out)); (case aS => exact siz); (case aL => have := LMc7.out; omega); intro v200 w8 ho hb hg hat; rw [← Ny199.out] at ho; have n0_ := am (hb); have n1_ := am (ho); clear HB; clear HO_3; have HB := n0_; have HO201 := n1_; clear n0_ n1_; clear ho hb hg hat))
        go_roundg k1
        case measure => have := HK1.out; omega
        case rel => exact ⟨(y199), (wrap64 (x5_1 + 1)), (wrap64 (x5_1 + 1)), (by first | rfl | (simp; done) | (simp [*]; done)), (by first | rfl | (simp; done) | (simp [*]; done)), H', ⟨by have := HK1.out; omega⟩, ⟨rz HO201.out⟩, ⟨bz⟩⟩
       ·rw [if_neg c7] at H
        exact absurd H (by simp)
      ·rw [if_neg c5] at H
       exact absurd H (by simp)
     ·rw [if_neg c4] at H
      exact absurd H (by simp)
    ·rw [if_neg c3] at H
     have c3b0 : (x5_1 == (a0.size : Int)) = false := beq_eq_false_iff_ne.mpr c3; have c3b1 : (x5_1 != (a0.size : Int)) = true := bne_iff_ne.mpr c3; by_cases c9 : 0 ≤ x5_1
     ·rw [if_pos c9] at H
      have c9b0 : decide (0 ≤ x5_1) = true := decide_eq_true c9; clear c9; by_cases c10 : x5_1 < (a0.size : Int)
      ·rw [if_pos c10] at H
       have c10b0 : decide (x5_1 < (a0.size : Int)) = true := decide_eq_true c10; clear c10; by_cases c12 : (bt a0 x5_1) = 47
       ·rw [if_pos c12] at H
        have c12b0 : ((bt a0 x5_1) == 47) = true := beq_iff_eq.mpr c12; have c12b1 : ((bt a0 x5_1) != 47) = false := bne_eq_false_iff_eq.mpr c12; clear c12; by_cases c13 : 0 ≤ x4_1
        ·rw [if_pos c13] at H
         have c13b0 := eq_true c13; have c13b1 : decide (0 ≤ x4_1) = true := decide_eq_true c13; clear c13; by_cases c14 : x4_1 ≤ x5_1
         ·rw [if_pos c14] at H
          have c14b0 := eq_true c14; have c14b1 : decide (x4_1 ≤ x5_1) = true := decide_eq_true c14; clear c14; have c15b0 := eq_true (of_decide_eq_true (by assumption) : x5_1 ≤ (a0.size : Int)); by_cases c16 : x3_1.length < 8796093022208
          ·rw [if_pos c16] at H
           have LMc16 := am c16; clear c16; obtain ⟨y202, hy202⟩ : ∃ y_ : List ByteArray, y_ = (x3_1 ++ [a0.extract (x4_1 : Int).toNat (x5_1 : Int).toNat]) := ⟨_, rfl⟩; try rw [← hy202] at H
           have Ny202 := am hy202; clear hy202; have H' := am H; clear H; have p11 : 0 ≤ (x5_1 : Int) := of_decide_eq_true (by assumption); have q11 : x5_1 < (a0.size : Int) := of_decide_eq_true (by assumption); have hx11 := bt_at a0 x5_1; replace p11 := eq_true p11; replace q11 := eq_true q11; go_wp2_with (first | ((with_reducible refine gate_builtin (b := .append) (xs := #[.tmp 22, .tmp 27]) rfl ?_); at_builtin; refine Kd.R_append Kd.string (w0 := w) w.heap.size rfl (.tmp 22) (.tmp 27) 27 9 (.string ⟨#[]⟩) 16 rfl Tryd.underlying27 info9 rfl (by decide) (by omega) u3 x3_1 (a0.extract (x4_1 : Int).toNat (x5_1 : Int).toNat) [.string (a0.extract (x4_1 : Int).toNat (x5_1 : Int).toNat)] (fun _ => True) (fun _ => False) rfl rfl ?aP (fun _ hk => hk.elim) ?aF ?aO ?aB ?aS ?aL ?_; (case aP => exact rfl); (case aB => exact bz); (case aF => exact (fun _ _ => trivial)); (case aO => exact (rz HO_3.out)); (case aS => exact siz); (case aL => have := LMc16.out; omega); intro v203 w17 ho hb hg hat; rw [← Ny202.out] at ho; have n0_ := am (hb); have n1_ := am (ho); clear HB; clear HO_3; have HB := n0_; have HO204 := n1_; clear n0_ n1_; clear ho hb hg hat))
           go_roundg k1
           case measure => have := HK1.out; omega
           case rel => exact ⟨(y202), (wrap64 (x5_1 + 1)), (wrap64 (x5_1 + 1)), (by first | rfl | (simp; done) | (simp [*]; done)), (by first | rfl | (simp; done) | (simp [*]; done)), H', ⟨by have := HK1.out; omega⟩, ⟨rz HO204.out⟩, ⟨bz⟩⟩
          ·rw [if_neg c16] at H
           exact absurd H (by simp)
         ·rw [if_neg c14] at H
          exact absurd H (by simp)
        ·rw [if_neg c13] at H
         exact absurd H (by simp)
       ·rw [if_neg c12] at H
        have c12b0 : ((bt a0 x5_1) == 47) = false := beq_eq_false_iff_ne.mpr c12; have c12b1 : ((bt a0 x5_1) != 47) = true := bne_iff_ne.mpr c12; have H' := am H; clear H; have p11 : 0 ≤ (x5_1 : Int) := of_decide_eq_true (by assumption); have q11 : x5_1 < (a0.size : Int) := of_decide_eq_true (by assumption); have hx11 := bt_at a0 x5_1; replace p11 := eq_true p11; replace q11 := eq_true q11; go_wp2
        go_roundg k1
        case measure => have := HK1.out; omega
        case rel => exact ⟨(x3_1), (x4_1), (wrap64 (x5_1 + 1)), (by first | rfl | (simp; done) | (simp [*]; done)), (by first | rfl | (simp; done) | (simp [*]; done)), H', ⟨by have := HK1.out; omega⟩, ⟨rz HO_3.out⟩, ⟨bz⟩⟩
      ·rw [if_neg c10] at H
       exact absurd H (by simp)
     ·rw [if_neg c9] at H
      exact absurd H (by simp)
   ·rw [if_neg c2] at H
    have c2b0 : decide (x5_1 ≤ (a0.size : Int)) = false := decide_eq_false c2; clear c2; obtain rfl := Option.some.inj H; go_wp2
    go_ret; exact ⟨_, by first | rfl | (simp [eN, eS] <;> rfl) | (simp [*, eN, eS] <;> rfl), by (with_reducible repeat (first | apply rA | apply rN | apply rD)); exact HO_3.out, bz⟩

end Go.Proofs.YtkloomnkpfaijaaDoor.P
