/- Laid by a program of this session (wip/pr), after the printer of the kit: the functions that a statement reaches as plain Lean functions, and that the calls of the machine come to them. No condition. -/
import Derived.Lib.SliceRun
import Derived.Test.YtcijimdogddbeaaDoorPx0
namespace Go.Proofs.YtcijimdogddbeaaDoor.P
open Go.RowKit Go.Proofs.YtcijimdogddbeaaDoorX Go.Proofs.YtcijimdogddbeaaDoorW.PrintWords Go.Proofs.YtcijimdogddbeaaDoorW.PrintLast Go.Proofs.YtcijimdogddbeaaDoorW.PrintMore
attribute [local go_sem] max2_int min2_int max_two min_two
set_option linter.unusedVariables false
set_option linter.unusedSimpArgs false

/-! ### slices_Clone_string_string: function 46 -/
def slices_Clone_string_string.f (l0 : List ByteArray) : Option (List ByteArray) := (some (([] : List ByteArray) : List ByteArray)).bind fun y126 => (if y126.length + l0.length < 8796093022208 then (some (y126 ++ l0)) else (none))
set_option maxHeartbeats 8000000 in
set_option maxRecDepth 100000 in
theorem slices_Clone_string_string.calls (A0 : Option Addr) (c0 : Nat) (l0 : List ByteArray) (r : List ByteArray) (w : World) (hr0 : Kd.C Kd.string w A0 l0.length l0) (hc0 : l0.length ≤ c0) (h : slices_Clone_string_string.f l0 = some r) :
  Calls Tryd.prog 46 #[.slice A0 l0.length c0] w fun e w' => ∃ v0_ : Value, e = .returned (v0_) ∧ Kd.R Kd.string 9 w' w.heap.size (fun _ => True) v0_ r ∧ Below w.heap.size w w' := by
 rcases A0 with _ | a0x
 ·have hl_ : l0 = [] := List.eq_nil_of_length_eq_zero (by
   rcases Nat.eq_zero_or_pos l0.length with h_ | h_
   ·exact h_
   ·obtain ⟨ad_, e_, _⟩ := hr0.2.2 h_
    cases e_)
  subst hl_; have hnl : ∀ (W : World) (n c : Nat), (binOp .eql 36 (.slice none n c) (.slice none 0 0)).run Tryd.prog W = .ok (.bool true) W := fun W n c => Lib.run_eql_slice_nil W _ _ none n c 0 0 Tryd.underlying36
  obtain rfl : r = [] := by
   unfold slices_Clone_string_string.f at h
   simpa using h.symm
  go_enter Tryd.func46, Tryd.ntmps46; go_wp2
  go_ret; exact ⟨_, rfl, Kd.R_nil _ _ _ _ _, Below.refl _ _⟩
 have hnl : ∀ (W : World) (n c : Nat), (binOp .eql 36 (.slice (some a0x) n c) (.slice none 0 0)).run Tryd.prog W = .ok (.bool false) W := fun W n c => Lib.run_eql_slice_nil W _ _ (some a0x) n c 0 0 Tryd.underlying36
 have HR0 := am hr0; have HC0 := am hc0; clear hr0 hc0; have HB := am (Below.refl w.heap.size w); have H : ((some (([] : List ByteArray) : List ByteArray)).bind fun y126 => (if y126.length + l0.length < 8796093022208 then (some (y126 ++ l0)) else (none))) = some r := h; clear h; refine bL H ?_; clear H; intro y126 hy126 H
 have Ny126 := am hy126; clear hy126; by_cases c2 : y126.length + l0.length < 8796093022208
 ·rw [if_pos c2] at H
  have LMc2 := am c2; clear c2; obtain ⟨y129, hy129⟩ : ∃ y_ : List ByteArray, y_ = (y126 ++ l0) := ⟨_, rfl⟩; try rw [← hy129] at H
  have Ny129 := am hy129; clear hy129; obtain rfl := Option.some.inj H; go_enter Tryd.func46, Tryd.ntmps46; go_wp2_with (first | ((with_reducible refine gate_dst (N := 5) rfl ?_); refine Kd.R_lit Kd.string _ 9 ?hg (N := 5) ?hd (xs := ([] : List ByteArray)) (inner := []) (ok := fun _ => True) (okp := fun _ => True) ?hr ?hp (fun _ hk => hk) trivial (Below.refl _ _) (Nat.le_refl _) (by simp) ?_; (case hd => rfl); (case hg => rfl); (case hr => first | (go_simp; done) | (go_simp; rfl)); (case hp => exact (Reps.none _ _)); intro v127 w3 ho4 hb hg_ hnew_; clear hg_ hnew_; (first | rw [← Ny126.out] at ho4 | (simp only [Int.reduceToNat] at ho4; rw [← Ny126.out] at ho4)); have HO128 := am (Kd.R_lower ho4 siz); replace HB := bs hb; clear hb ho4) | ((with_reducible refine gate_builtin (b := .append) (xs := #[.tmp 5, .tmp 6]) rfl ?_); at_builtin; refine Kd.R_append_rows Kd.string (w0 := w) w.heap.size rfl (.tmp 5) (.tmp 6) 36 9 (.string ⟨#[]⟩) 16 rfl Tryd.underlying36 info9 rfl (by decide) (by omega) v127 y126 l0 _ _ _ (fun _ => True) (fun _ => False) rfl rfl ?aO ?aR (fun _ _ h => h) (fun _ h => h.elim) ?aF ?aB ?aS ?aL ?_; (case aR => exact cz (Kd.C_below HR0.out HB.out)); (case aB => exact bz); (case aF => exact (fun _ _ => trivial)); (case aO => exact (rz HO128.out)); (case aS => exact siz); (case aL => have := LMc2.out; omega); intro v130 w5 ho hb hg hat; rw [← Ny129.out] at ho; have n0_ := am (hb); have n1_ := am (ho); clear HB; clear HO128; have HB := n0_; have HO131 := n1_; clear n0_ n1_; clear ho hb hg hat))
  go_ret; exact ⟨_, by first | rfl | (simp [eN, eS] <;> rfl) | (simp [*, eN, eS] <;> rfl), by (with_reducible repeat (first | apply rA | apply rN | apply rD)); exact HO131.out, bz⟩
 ·rw [if_neg c2] at H
  exact absurd H (by simp)

/-- The blocks of a table at g, by what stands there: its own, its map's, its row's. -/
def TabAt (W : World) (g k : Nat) : Prop := k = g ∨ ∃ v m, W.heap[g]? = some (.cells #[v, .map (some m)] 75 (0, 0)) ∧ (k = m ∨ v.ownBlock = some k)
/-- A table at block g of W: its row of texts, and a map that tells of each its place. -/
def IsS75 (w0 W : World) (g : Nat) (f0 : List ByteArray) (f1 : Bool) : Prop := ∃ v m, W.heap[g]? = some (.cells #[v, .map (some m)] 75 (0, 0)) ∧ w0.heap.size ≤ g ∧ w0.heap.size ≤ m ∧ Kd.string.R 9 W w0.heap.size (fun _ => True) v f0 ∧ MapL Tryd.prog 9 3 W m 0 f0 ∧ f0.length ≤ 4000
/-- A row of texts stays where its block does. -/
theorem strs_move {e : Nat} {w w1 : World} {base : Nat} {ok : Nat → Prop} {v : Value} {xs : List ByteArray} (h : Kd.string.R e w base ok v xs) (hm : ∀ k, v.ownBlock = some k → w1.heap[k]? = w.heap[k]?) : Kd.string.R e w1 base ok v xs := by
 obtain ⟨h0, inner, ho, hr⟩ := h; exact ⟨h0, inner, own_move ho hm, hr⟩
section
variable {w0 W W1 : World} {g : Nat} {f0 : List ByteArray} {f1 : Bool}
theorem IsS75.step (h : IsS75 w0 W g f0 f1) (hm : ∀ k, k < W.heap.size → TabAt W g k → W1.heap[k]? = W.heap[k]?) : IsS75 w0 W1 g f0 f1 := by
 obtain ⟨v, m, hb, hg, hm0, hr, hl, hn⟩ := h; have h1 : ∀ k, v.ownBlock = some k → W1.heap[k]? = W.heap[k]? := fun k hk => by
  obtain ⟨cs, hc⟩ := Kd.R_typed hr k hk; exact hm k (blk_lt hc) (.inr ⟨v, m, hb, .inr hk⟩)
 exact ⟨v, m, (hm g (blk_lt hb) (.inl rfl)).trans hb, hg, hm0, strs_move hr h1, hl.same (hm m hl.lt (.inr ⟨v, m, hb, .inl rfl⟩)), hn⟩
theorem IsS75.below (h : IsS75 w0 W g f0 f1) (hw : Below W.heap.size W W1) : IsS75 w0 W1 g f0 f1 := h.step (fun k hk _ => hw.block k hk)
theorem IsS75.grown {row : Option Nat} (h : IsS75 w0 W g f0 f1) (hw : W.grownBy W1 row) (hne : ∀ k, TabAt W g k → some k ≠ row) : IsS75 w0 W1 g f0 f1 := h.step (fun k hk ht => hw.block k hk (hne k ht))
theorem IsS75.kept {S : Nat → Prop} (h : IsS75 w0 W g f0 f1) (hk : Kept W W1 S) (hne : ∀ k, TabAt W g k → ¬ S k) : IsS75 w0 W1 g f0 f1 := h.step (fun k hlt ht => hk.2 k hlt (hne k ht))
theorem IsS75.alloc (h : IsS75 w0 W g f0 f1) (o : Obj) : IsS75 w0 (W.alloc o) g f0 f1 := h.below (bA (Below.refl _ _) o)
theorem IsS75.drewN (h : IsS75 w0 W g f0 f1) (m : Nat) : IsS75 w0 (W.drewN m) g f0 f1 := h.step (fun _ _ _ => rfl)
theorem IsS75.drew (h : IsS75 w0 W g f0 f1) : IsS75 w0 W.drew g f0 f1 := h.step (fun _ _ _ => rfl)
theorem IsS75.at_ {m : Nat} (hq : W.drewN m = W1) (h : IsS75 w0 W g f0 f1) : IsS75 w0 W1 g f0 f1 := by subst hq; exact IsS75.drewN h m
theorem IsS75.lt (h : IsS75 w0 W g f0 f1) : g < W.heap.size := by
 obtain ⟨v, m, hb, _⟩ := h; exact blk_lt hb
theorem IsS75.ge (h : IsS75 w0 W g f0 f1) : w0.heap.size ≤ g := by
 obtain ⟨v, m, hb, hg, _⟩ := h; exact hg
theorem IsS75.fresh (h : IsS75 w0 W g f0 f1) : ∀ k, W.heap.size ≤ k → k ≠ g := fun k hk e => by have := h.lt; omega
theorem IsS75.lower {w00 : World} (h : IsS75 w0 W g f0 f1) (hs : w00.heap.size ≤ w0.heap.size) : IsS75 w00 W g f0 f1 := by
 obtain ⟨v, m, hb, hg, hm0, hr, hl, hn⟩ := h; exact ⟨v, m, hb, Nat.le_trans hs hg, Nat.le_trans hs hm0, Kd.R_lower hr hs, hl, hn⟩
/-- The table's blocks are its own, of the table's and texts' types, and a map. -/
theorem IsS75.typed (h : IsS75 w0 W g f0 f1) (k : Nat) (ht : TabAt W g k) : (w0.heap.size ≤ k ∧ k < W.heap.size) ∧ ∀ cs q fr, W.heap[k]? = some (.cells cs q fr) → q = 75 ∨ q = 9 := by
 obtain ⟨v, m, hb, hg, hm0, hr, hl, hn⟩ := h; rcases ht with rfl | ⟨v', m', hb', ht⟩
 ·refine ⟨⟨hg, blk_lt hb⟩, fun cs q fr hc => .inl ?_⟩
  rw [hb] at hc; injection hc with hc; injection hc with _ hc; exact hc.symm
 ·rw [hb] at hb'
  injection hb' with hb'; injection hb' with hb'; have e2 : #[v, Value.map (some m)].toList = #[v', Value.map (some m')].toList := congrArg _ hb'; simp only [List.cons.injEq, and_true] at e2
  obtain ⟨rfl, e3⟩ := e2; injection e3 with e3; injection e3 with e3; subst e3; rcases ht with rfl | ht
  ·refine ⟨⟨hm0, hl.lt⟩, fun cs q fr hc => ?_⟩
   obtain ⟨D, _, ⟨es, clock, he, _⟩, _⟩ := hl; rw [he] at hc; cases hc
  ·obtain ⟨cs', hc'⟩ := Kd.R_typed hr k ht
   refine ⟨⟨Kd.R_base hr k ht, blk_lt hc'⟩, fun cs q fr hc => .inr ?_⟩
   rw [hc'] at hc; injection hc with hc; injection hc with _ hc; exact hc.symm
section
variable {α : Type} {d : Kd α} {e : Nat} {base : Nat} {ok : Nat → Prop} {v : Value} {xs : List α}
theorem IsS75.apartT (h : IsS75 w0 W g f0 f1) (ho : d.R e W base ok v xs) (ht : ∀ q, q ∈ e :: d.E → q ≠ 75 ∧ q ≠ 9) : d.R e W base (fun k => ok k ∧ ¬ TabAt W g k) v xs :=
 Kd.R_mono (Kd.R_bound ho) (fun k hk => ⟨hk.1, fun h2 => by
  obtain ⟨_, _, _, q, hq, cells', hc⟩ := hk; have h3 := ht q hq; rcases (h.typed k h2).2 _ _ _ hc with h4 | h4
  ·exact h3.1 h4
  ·exact h3.2 h4⟩)
theorem IsS75.own_neT (h : IsS75 w0 W g f0 f1) (ho : d.R e W base ok v xs) (ht : e ≠ 75 ∧ e ≠ 9) : ∀ k, TabAt W g k → some k ≠ v.ownBlock := fun k h2 h3 => by
 obtain ⟨cs, hc⟩ := Kd.R_typed ho k h3.symm; rcases (h.typed k h2).2 _ _ _ hc with h4 | h4
 ·exact ht.1 h4
 ·exact ht.2 h4
theorem IsS75.own_ne (h : IsS75 w0 W g f0 f1) (ho : d.R e W base ok v xs) (ht : e ≠ 75) : some g ≠ v.ownBlock := by
 obtain ⟨v, m, hb, _⟩ := h; exact Kd.R_ne ho hb ht
theorem IsS75.apartS (h : IsS75 w0 W g f0 f1) (ho : d.S e W base ok v xs) (ht : ∀ q, q ∈ e :: d.E → q ≠ 75) : d.S e W base (fun k => ok k ∧ k ≠ g) v xs := by
 obtain ⟨v, m, hb, _⟩ := h; exact Kd.S_types ho hb ht
theorem IsS75.apartTS (h : IsS75 w0 W g f0 f1) (ho : d.S e W base ok v xs) (ht : ∀ q, q ∈ e :: d.E → q ≠ 75 ∧ q ≠ 9) : d.S e W base (fun k => ok k ∧ ¬ TabAt W g k) v xs :=
 Kd.S_mono (Kd.S_bound ho) (fun k hk => ⟨hk.1, fun h2 => by
  obtain ⟨_, _, _, q, hq, cells', hc⟩ := hk; have h3 := ht q hq; rcases (h.typed k h2).2 _ _ _ hc with h4 | h4
  ·exact h3.1 h4
  ·exact h3.2 h4⟩)
theorem S_oldT {S : Nat → Prop} {w1 : World} (hu : d.S e W base (fun k => ok k ∧ ¬ S k) v xs) (hk : Kept W w1 S) : d.S e w1 base (fun k => ok k ∧ k < W.heap.size) v xs :=
 Kd.S_mono (Kd.S_kept (Kd.S_bound hu) hk (fun _ h => h.1.2)) (fun _ h => ⟨h.1.1, h.2.2.1⟩)
theorem IsS75.own_neTS (h : IsS75 w0 W g f0 f1) (ho : d.S e W base ok v xs) (ht : e ≠ 75 ∧ e ≠ 9) : ∀ k, TabAt W g k → some k ≠ v.ownBlock := fun k h2 h3 => by
 obtain ⟨cs, hc⟩ := Kd.S_typed ho k h3.symm; rcases (h.typed k h2).2 _ _ _ hc with h4 | h4
 ·exact ht.1 h4
 ·exact ht.2 h4
theorem IsS75.own_neS (h : IsS75 w0 W g f0 f1) (ho : d.S e W base ok v xs) (ht : e ≠ 75) : some g ≠ v.ownBlock := by
 obtain ⟨v, m, hb, _⟩ := h; exact Kd.R_ne (Kd.S_R ho) hb ht
/-- An elder row over a call of the table's. -/
theorem R_oldT {S : Nat → Prop} {w1 : World} (hu : d.R e W base (fun k => ok k ∧ ¬ S k) v xs) (hk : Kept W w1 S) : d.R e w1 base (fun k => ok k ∧ k < W.heap.size) v xs :=
 Kd.R_mono (Kd.R_kept (Kd.R_bound hu) hk (fun _ h => h.1.2)) (fun _ h => ⟨h.1.1, h.2.2.1⟩)
end
end
/-- A map's block is none of a row's. -/
theorem MapL.ne_row {P : Program} {k e e' m off : Nat} {l : List ByteArray} {w : World} {α : Type} {d : Kd α} {base : Nat} {ok : Nat → Prop} {v : Value} {xs : List α} (h : MapL P k e w m off l) (ho : d.R e' w base ok v xs) : some m ≠ v.ownBlock := fun h2 => by
 obtain ⟨cs, hc⟩ := Kd.R_typed ho m h2.symm; obtain ⟨D, _, ⟨es, clock, hb, _⟩, _⟩ := h; rw [hb] at hc; cases hc
/-- A row over an update of a map. -/
theorem R_mapped {P : Program} {k e e' m off : Nat} {l : List ByteArray} {w w1 : World} {α : Type} {d : Kd α} {base : Nat} {ok : Nat → Prop} {v : Value} {xs : List α} (h : d.R e' w base ok v xs) (hm : MapL P k e w m off l) (hg : w.grownBy w1 (some m)) : d.R e' w1 base ok v xs :=
 Kd.R_mono (Kd.R_grown (Kd.R_bound h) hg (fun k hk he => by
  obtain ⟨_, _, _, q, _, cells, hc⟩ := hk; injection he with he; subst he; obtain ⟨D, _, ⟨es, clock, hb, _⟩, _⟩ := hm; rw [hb] at hc; cases hc)) (fun _ hk => hk.1)
/-- An update of a map, in a region that draws. -/
theorem upd_ {P : Program} {ops : Array Oper} {Q : Exit → Act → World → Prop} {oi : Oper} {N : Option Tmp} {a : Act} {w : World} {K : Act → World → Prop} (m x v : Operand) (t k e : TypeId) (hw : Region.wanted oi (yielded ops a.tmps) = true) (hN : oi.dst = N) (hop : oi.op = .mapUpdate t m x v)
  (hk : P.underlying k = some .string) (ht : P.underlying t = some (.map k e)) (he : P.underlying e = some (.int .i64)) {b n : Nat} {D : DataW Unit} {p : ByteArray} {c : Int} (hm : a.eval m = .map (some b)) (hx : a.eval x = .string p) (hv : a.eval v = .int .i64 c)
  (hown : w.ownsMap P k (plainElem P e) b n D) (hn : n < maxLen) (hp : p.size ≤ maxLen) (hc : (Lit.int .i64 c).wf = true)
  (h : ∀ w', w'.ownsMap P k (plainElem P e) b (n + 1) (D.put (.string p.data.toList) (.lit (.int .i64 c))) → w.grownBy w' (some b) → K (a.put N undef) w') : if Region.wanted oi (yielded ops a.tmps) = true then Oper.wp P oi a w K Q else K (a.put N undef) w := by
 rw [if_pos hw]; subst hN; obtain ⟨w', hrun, r1, r2⟩ := hown.update (Maps.string_keyed hk) ht hn (WideMaps.keyOf_string_mk hk hp) (plainElem_int he hc); unfold Oper.wp
 simp [execOp, hop, hm, hx, hv, hrun, Result.andThen]
 exact h _ r1 r2
theorem MapL.ne_cells {P : Program} {k e m off g t : Nat} {fr : Nat × Nat} {cs : Array Value} {l : List ByteArray} {w : World} (h : MapL P k e w m off l) (hb : w.heap[g]? = some (.cells cs t fr)) : m ≠ g := by
 rintro rfl; obtain ⟨D, _, ⟨es, clock, he, _⟩, _⟩ := h; rw [he] at hb; cases hb
theorem wf_small {c : Int} (h0 : 0 ≤ c) (h1 : c ≤ 1000000000) : (Lit.int .i64 c).wf = true := by
 simp [Lit.wf, IntKind.min, IntKind.max, IntKind.bits, IntKind.signed]
 omega
theorem IsS75.apart {w0 W : World} {g : Nat} {f0 : List ByteArray} {f1 : Bool} {α : Type} {d : Kd α} {e : Nat} {base : Nat} {ok : Nat → Prop} {v : Value} {xs : List α} (h : IsS75 w0 W g f0 f1) (ho : d.R e W base ok v xs) (ht : ∀ q, q ∈ e :: d.E → q ≠ 75) : d.R e W base (fun k => ok k ∧ k ≠ g) v xs := by
 obtain ⟨v, m, hb, _⟩ := h; exact Kd.R_types ho hb ht
/-- A table, opened. -/
theorem IsS75.open_ {w0 W : World} {g : Nat} {f0 : List ByteArray} {f1 : Bool} (h : IsS75 w0 W g f0 f1) : ∃ A0 c0 m, W.heap[g]? = some (.cells #[.slice A0 f0.length c0, .map (some m)] 75 (0, 0)) ∧ w0.heap.size ≤ g ∧ Kd.C Kd.string W A0 f0.length f0 ∧ f0.length ≤ c0 := by
 obtain ⟨v, m, hb, hg, hm0, hr, hl, hn⟩ := h; obtain ⟨A, c, rfl, h1, h2⟩ := Kd.R_reads hr; exact ⟨A, c, m, hb, hg, h2, h1⟩
theorem cellS75_0 {W : World} {g : Nat} {A0 : Option Addr} {c0 m : Nat} {f0 : List ByteArray} (h : W.heap[g]? = some (.cells #[.slice A0 f0.length c0, .map (some m)] 75 (0, 0))) : W.cell? ⟨g, 0, none⟩ = some (.slice A0 f0.length c0) := (blk_cell h 0).trans rfl
theorem cellS75_1 {W : World} {g : Nat} {A0 : Option Addr} {c0 m : Nat} {f0 : List ByteArray} (h : W.heap[g]? = some (.cells #[.slice A0 f0.length c0, .map (some m)] 75 (0, 0))) : W.cell? ⟨g, 1, none⟩ = some (.map (some m)) := (blk_cell h 1).trans rfl

/-- All blocks, copied. -/
def blocks_Table_All.f (s0_0 : List ByteArray) (s0_1 : Bool) : Option (List ByteArray × List ByteArray × Bool) := (slices_Clone_string_string.f s0_0).bind fun t => some (t, s0_0, s0_1)
set_option maxHeartbeats 1000000 in
theorem blocks_Table_All.calls2 (g : Nat) (s0_0 : List ByteArray) (s0_1 : Bool) (r1 : List ByteArray) (r2 : List ByteArray) (r3 : Bool) (w0 w : World) (hI : IsS75 w0 w g s0_0 s0_1) (hB : Below w0.heap.size w0 w) (h : blocks_Table_All.f s0_0 s0_1 = some (r1, r2, r3)) :
  Calls Tryd.prog 27 #[.pointer (some ⟨g, 0, none⟩)] w fun e w' => ∃ v0_ : Value, e = .returned (v0_) ∧ Kd.R Kd.string 9 w' w.heap.size (fun _ => True) v0_ r1 ∧ IsS75 w0 w' g r2 r3 ∧ Below w0.heap.size w0 w' ∧ KeepBut w w' g none ∧ Below w.heap.size w w' := by
 have HI := am hI; obtain ⟨B0_, c0, m, hb, hg, hr, hc⟩ := IsS75.open_ hI; have HR := am hr; have HC := am hc; have HB0 := am hB; clear hB hr hc hg; have hc0 := cellS75_0 hb; have HB := am (Below.refl w.heap.size w); clear hb hI; obtain ⟨t, ht, h⟩ := oB h; simp only [Option.some.injEq, Prod.mk.injEq] at h
 obtain ⟨rfl, rfl, rfl⟩ := h; have HA := am ht; clear ht; go_enter Tryd.func27, Tryd.ntmps27; go_wp2_with (first | ((with_reducible refine gate_callee (f := 46) rfl ?_); refine gL (some 9) Tryd.func46 #[.slice B0_ s0_0.length c0] ?_; (with_reducible refine (slices_Clone_string_string.calls B0_ c0 s0_0 t _ HR.out HC.out HA.out).mono ?_); rintro e w4 ⟨v108, rfl, hc, hb⟩; refine ⟨_, rfl, ?_⟩; have HV := am hc; have HB4 := am hb; clear hc hb))
 go_ret; exact ⟨_, rfl, HV.out, IsS75.below HI.out HB4.out, HB0.out.trans (HB4.out.mono (below_size HB0.out)), KeepBut.of_below HB4.out g none, HB4.out⟩
theorem blocks_Table_All.calls (g : Nat) (s0_0 : List ByteArray) (s0_1 : Bool) (r1 : List ByteArray) (r2 : List ByteArray) (r3 : Bool) (w0 w : World) (hI : IsS75 w0 w g s0_0 s0_1) (hB : Below w0.heap.size w0 w) (h : blocks_Table_All.f s0_0 s0_1 = some (r1, r2, r3)) :
  Calls Tryd.prog 27 #[.pointer (some ⟨g, 0, none⟩)] w fun e w' => ∃ v0_ : Value, e = .returned (v0_) ∧ Kd.R Kd.string 9 w' w.heap.size (fun _ => True) v0_ r1 ∧ IsS75 w0 w' g r2 r3 ∧ Below w0.heap.size w0 w' ∧ KeepBut w w' g none :=
 Calls.mono (blocks_Table_All.calls2 g s0_0 s0_1 r1 r2 r3 w0 w hI hB h) (fun e w' ⟨v0_, h1, h2, h3, h4, h5, _⟩ => ⟨v0_, h1, h2, h3, h4, h5⟩)

/-- An empty table. -/
def blocks_New.f : Option (List ByteArray × Bool) := some ([], false)
set_option maxHeartbeats 1000000 in
theorem blocks_New.calls (r1 : List ByteArray) (r2 : Bool) (w0 w : World) (hB : Below w0.heap.size w0 w) (h : blocks_New.f = some (r1, r2)) :
  Calls Tryd.prog 42 #[] w fun e w' => ∃ g, e = .returned (.pointer (some ⟨g, 0, none⟩)) ∧ IsS75 w0 w' g r1 r2 ∧ Below w0.heap.size w0 w' ∧ Below w.heap.size w w' := by
 simp only [blocks_New.f, Option.some.injEq, Prod.mk.injEq] at h
 obtain ⟨rfl, rfl⟩ := h; have HB := am (Below.refl w.heap.size w); have HB0 := am hB; clear hB; have hmm := @run_makeMap Tryd.prog; go_enter Tryd.func42, Tryd.ntmps42; go_wp2_with (first | ((with_reducible refine gate_dst (N := 3) rfl ?_); (try (refine gate_guard (by rfl) ?_; dsimp only)); refine bx 3 #[.slice none 0 0, .map (some w.heap.size)] 75 ?_; intro gb hg w3 hbox hb; have n0_ := bs hb; have BK := am hbox; have GE := am (show w.heap.size ≤ gb by rw [hg]; exact below_size bz); have HM := am (MapL.below (MapL.empty Tryd.prog 9 3 w 0) hb (MapL.lt (MapL.empty Tryd.prog 9 3 w 0))); clear HB; have HB := n0_; clear n0_; clear hb hbox hg))
 go_ret; exact ⟨gb, rfl, ⟨_, _, BK.out, Nat.le_trans (below_size HB0.out) GE.out, below_size HB0.out, Kd.R_nil _ _ _ _ _, HM.out, Nat.zero_le _⟩, HB0.out.trans (HB.out.mono (below_size HB0.out)), HB.out⟩

/-! ### blocks_Cut: function 61 -/
def blocks_Cut.l0 : Nat → ByteArray → List ByteArray → Option (List ByteArray)
 | 0, _, _ => none
 | k + 1, x0, x3 => if (x0.size : Int) > 64 then (if 0 ≤ 64 then (if 64 ≤ (x0.size : Int) then (if x3.length < 8796093022208 then (blocks_Cut.l0 k (x0.extract 64 x0.size) (x3 ++ [x0.extract 0 64])) else (none)) else (none)) else (none)) else (if x0.toList = ([] : List UInt8) then (some x3) else (if x3.length < 8796093022208 then (some (x3 ++ [x0])) else (none)))
def blocks_Cut.f (k : Nat) (a0 : ByteArray) : Option (List ByteArray) := blocks_Cut.l0 k a0 ([] : List ByteArray)
theorem blocks_Cut.mono_l : ∀ k, (∀ y0 y1, LeO (blocks_Cut.l0 k y0 y1) (blocks_Cut.l0 (k + 1) y0 y1))
 | 0 => fun _ _ r h => by simp [blocks_Cut.l0] at h
 | k + 1 => by
  have ih0 := blocks_Cut.mono_l k
  ·intro y0 y1
   unfold blocks_Cut.l0
   repeat' with_reducible first | exact ih0 _ _ | exact LeO.refl _ | exact LeO.none _ | refine LeO.ite ?_ ?_ | refine LeO.bind ?_ (fun _ => ?_)
theorem blocks_Cut.mono : ∀ a0 k, LeO (blocks_Cut.f k a0) (blocks_Cut.f (k + 1) a0) := by
 intro a0 k; have ih0 := blocks_Cut.mono_l k; unfold blocks_Cut.f
 repeat' with_reducible first | exact ih0 _ _ | exact LeO.refl _ | exact LeO.none _ | refine LeO.ite ?_ ?_ | refine LeO.bind ?_ (fun _ => ?_)
set_option maxHeartbeats 8000000 in
set_option maxRecDepth 100000 in
theorem blocks_Cut.calls (k : Nat) (a0 : ByteArray) (r : List ByteArray) (w : World) (h : blocks_Cut.f k a0 = some r) :
  Calls Tryd.prog 61 #[.string a0] w fun e w' => ∃ v0_ : Value, e = .returned (v0_) ∧ Kd.R Kd.string 9 w' w.heap.size (fun _ => True) v0_ r ∧ Below w.heap.size w w' := by
 have HB := am (Below.refl w.heap.size w); have H : (blocks_Cut.l0 k a0 ([] : List ByteArray)) = some r := h; clear h; have H' := am H; clear H; go_enter Tryd.func61, Tryd.ntmps61; go_wp2
 go_loopg [0, 3] k (fun kq v0 v3 w' => ∃ (x0_1 : ByteArray) (x3_1 : List ByteArray), v0 = .string x0_1 ∧ Aside0 (blocks_Cut.l0 kq x0_1 x3_1 = some r) ∧ Aside0 (kq ≤ k) ∧ Aside0 (Kd.R Kd.string 9 w' w.heap.size (fun _ => True) v3 x3_1) ∧ Aside0 (Below w.heap.size w w'))
 case atStart => exact ⟨(a0), (([] : List ByteArray)), (by first | rfl | (simp; done) | (simp [*]; done)), H', ⟨Nat.le_refl _⟩, ⟨by first | exact Kd.R_nil _ _ _ _ _ | exact Kd.N_nil _ _ _ _ _ | exact Kd.V_nil _ _ _ _ _ | exact Kd.Q_nil _ _ _ _ _ | exact Kd.S_nil _ _ _ _ _⟩, ⟨bz⟩⟩
 case round =>
  clear H'; obtain ⟨x0_1, x3_1, rfl, HA, HK1, HO_3, HB⟩ := hrel; cases gk with
  | zero => exact absurd HA.out (by simp [blocks_Cut.l0])
  | succ k1 =>
   have H := HA.out; clear HA; simp only [blocks_Cut.l0] at H
   by_cases c2 : (x0_1.size : Int) > 64
   ·rw [if_pos c2] at H
    have c2b0 : decide (64 < (x0_1.size : Int)) = true := decide_eq_true c2; have c2b1 : decide (64 < x0_1.size) = true := decide_eq_true (by omega); clear c2; by_cases c3 : 0 ≤ 64
    ·rw [if_pos c3] at H
     have c3b0 := eq_true c3; have c3b1 : decide (0 ≤ 64) = true := decide_eq_true c3; clear c3; by_cases c4 : 64 ≤ (x0_1.size : Int)
     ·rw [if_pos c4] at H
      have c4b0 := eq_true c4; have c4b1 : decide (64 ≤ (x0_1.size : Int)) = true := decide_eq_true c4; clear c4; by_cases c5 : x3_1.length < 8796093022208
      ·rw [if_pos c5] at H
       have LMc5 := am c5; clear c5; obtain ⟨y132, hy132⟩ : ∃ y_ : List ByteArray, y_ = (x3_1 ++ [x0_1.extract 0 64]) := ⟨_, rfl⟩; try rw [← hy132] at H
       have Ny132 := am hy132; clear hy132; have c6b0 := eq_true (of_decide_eq_true (by assumption) : 64 ≤ (x0_1.size : Int)); have H' := am H; clear H; go_wp2_with (first | ((with_reducible refine gate_builtin (b := .append) (xs := #[.tmp 7, .tmp 10]) rfl ?_); at_builtin; refine Kd.R_append Kd.string (w0 := w) w.heap.size rfl (.tmp 7) (.tmp 10) 36 9 (.string ⟨#[]⟩) 16 rfl Tryd.underlying36 info9 rfl (by decide) (by omega) u3 x3_1 (x0_1.extract 0 64) [.string (x0_1.extract 0 64)] (fun _ => True) (fun _ => False) rfl rfl ?aP (fun _ hk => hk.elim) ?aF ?aO ?aB ?aS ?aL ?_; (case aP => exact rfl); (case aB => exact bz); (case aF => exact (fun _ _ => trivial)); (case aO => exact (rz HO_3.out)); (case aS => exact siz); (case aL => have := LMc5.out; omega); intro v133 w7 ho hb hg hat; rw [← Ny132.out] at ho; have n0_ := am (hb); have n1_ := am (ho); clear HB; clear HO_3; have HB := n0_; have HO134 := n1_; clear n0_ n1_; clear ho hb hg hat))
       go_roundg k1
       case measure => have := HK1.out; omega
       case rel => exact ⟨(x0_1.extract 64 x0_1.size), (y132), (by first | rfl | (simp; done) | (simp [*]; done)), H', ⟨by have := HK1.out; omega⟩, ⟨rz HO134.out⟩, ⟨bz⟩⟩
      ·rw [if_neg c5] at H
       exact absurd H (by simp)
     ·rw [if_neg c4] at H
      exact absurd H (by simp)
    ·rw [if_neg c3] at H
     exact absurd H (by simp)
   ·rw [if_neg c2] at H
    have c2b0 : decide (64 < (x0_1.size : Int)) = false := decide_eq_false c2; have c2b1 : decide (64 < x0_1.size) = false := decide_eq_false (by omega); clear c2; by_cases c8 : x0_1.toList = ([] : List UInt8)
    ·rw [if_pos c8] at H
     have c8b0 : (x0_1.toList == ([] : List UInt8)) = true := beq_iff_eq.mpr c8; have c8b1 : (x0_1.toList != ([] : List UInt8)) = false := bne_eq_false_iff_eq.mpr c8; clear c8; obtain rfl := Option.some.inj H; go_wp2
     go_ret; exact ⟨_, by first | rfl | (simp [eN, eS] <;> rfl) | (simp [*, eN, eS] <;> rfl), by (with_reducible repeat (first | apply rA | apply rN | apply rD)); exact HO_3.out, bz⟩
    ·rw [if_neg c8] at H
     have c8b0 : (x0_1.toList == ([] : List UInt8)) = false := beq_eq_false_iff_ne.mpr c8; have c8b1 : (x0_1.toList != ([] : List UInt8)) = true := bne_iff_ne.mpr c8; by_cases c9 : x3_1.length < 8796093022208
     ·rw [if_pos c9] at H
      have LMc9 := am c9; clear c9; obtain ⟨y135, hy135⟩ : ∃ y_ : List ByteArray, y_ = (x3_1 ++ [x0_1]) := ⟨_, rfl⟩; try rw [← hy135] at H
      have Ny135 := am hy135; clear hy135; obtain rfl := Option.some.inj H; go_wp2_with (first | ((with_reducible refine gate_builtin (b := .append) (xs := #[.tmp 16, .tmp 18]) rfl ?_); at_builtin; refine Kd.R_append Kd.string (w0 := w) w.heap.size rfl (.tmp 16) (.tmp 18) 36 9 (.string ⟨#[]⟩) 16 rfl Tryd.underlying36 info9 rfl (by decide) (by omega) u3 x3_1 x0_1 [.string x0_1] (fun _ => True) (fun _ => False) rfl rfl ?aP (fun _ hk => hk.elim) ?aF ?aO ?aB ?aS ?aL ?_; (case aP => exact rfl); (case aB => exact bz); (case aF => exact (fun _ _ => trivial)); (case aO => exact (rz HO_3.out)); (case aS => exact siz); (case aL => have := LMc9.out; omega); intro v136 w10 ho hb hg hat; rw [← Ny135.out] at ho; have n0_ := am (hb); have n1_ := am (ho); clear HB; clear HO_3; have HB := n0_; have HO137 := n1_; clear n0_ n1_; clear ho hb hg hat))
      go_ret; exact ⟨_, by first | rfl | (simp [eN, eS] <;> rfl) | (simp [*, eN, eS] <;> rfl), by (with_reducible repeat (first | apply rA | apply rN | apply rD)); exact HO137.out, bz⟩
     ·rw [if_neg c9] at H
      exact absurd H (by simp)

end Go.Proofs.YtcijimdogddbeaaDoor.P
