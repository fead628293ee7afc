/- Laid by a program of this session (wip/pr), after the printer of the kit: the functions that a statement reaches as plain Lean functions, and that the calls of the machine come to them. No condition. -/
import Derived.Test.YtcijimdogddbeaaDoorPx0
import Derived.Test.YtcijimdogddbeaaDoorPx2
import Derived.Test.YtcijimdogddbeaaDoorPx5
import Derived.Test.YtcijimdogddbeaaDoorPx8
import Derived.Test.YtcijimdogddbeaaDoorPx10
namespace Go.Proofs.YtcijimdogddbeaaDoor.P
open Go.RowKit Go.Proofs.YtcijimdogddbeaaDoorX Go.Proofs.YtcijimdogddbeaaDoorW.PrintWords Go.Proofs.YtcijimdogddbeaaDoorW.PrintLast Go.Proofs.YtcijimdogddbeaaDoorW.PrintMore
attribute [local go_sem] max2_int min2_int max_two min_two max_three min_three max_four min_four   -- for this text's walks alone
set_option linter.unusedVariables false
set_option linter.unusedSimpArgs false

/-! ### image_Lay: function 9 -/
/-- The writer lays a number: what it holds is another row, in its own block. -/
theorem image_writer_num.calls (k g : Nat) (A : Option Addr) (c : Nat) (l0 : List Int) (a1 : Int) (r : List Int) (w : World) (hb : w.heap[g]? = some (.cells #[.slice A l0.length c] 53 (0, 0))) (hr0 : Kd.C (Kd.int .u8) w A l0.length l0) (hc0 : l0.length ≤ c) (h : nar_Num.f k l0 a1 = some r) :
    Calls Tryd.prog 24 #[.pointer (some ⟨g, 0, none⟩), .int .i64 a1] w fun e w' => ∃ v0_ w1, e = .returned (.tuple #[]) ∧ Kd.R (Kd.int .u8) 5 w1 w.heap.size (fun _ => True) v0_ r ∧ Below w.heap.size w w1 ∧ w' = w1.setCell ⟨g, 0, none⟩ v0_ := by
  have HB := Aside0.mk hb
  have hcz0 : w.cell? ⟨g, 0, none⟩ = some (.slice A l0.length c) := (blk_cell hb 0).trans rfl
  clear hb
  go_enter Tryd.func24, Tryd.ntmps24
  go_wp2_with (first | (go_at_call 44; (with_reducible refine (nar_Num.calls k A c l0 a1 r _ ?side1 ?side2 h).mono ?_); (case side1 => exact hr0); (case side2 => exact hc0); rintro e w1 ⟨v0, rfl, ho0, hb1⟩; obtain ⟨A1_, c1_, ev_⟩ := Kd.R_slice ho0; subst ev_; have HB1 := Aside0.mk ((hb1.block g (blk_lt HB.out)).trans HB.out); have hcz1 : w1.cell? ⟨g, 0, none⟩ = some (.slice A l0.length c) := (blk_cell HB1.out 0).trans rfl; have hfz1 := blk_frozen HB1.out 0))
  try go_wp2
  first | go_end0 | ((try simp only [Exit.inBlock, Exit.then]); refine bodyPost_ret (results_none rfl _ _ _) rfl ?_)
  exact ⟨_, w1, rfl, ho0, hb1, rfl⟩
/-- The writer lays a text. -/
theorem image_writer_text.calls (k g : Nat) (A : Option Addr) (c : Nat) (l0 : List Int) (a1 : ByteArray) (r : List Int) (w : World) (hb : w.heap[g]? = some (.cells #[.slice A l0.length c] 53 (0, 0))) (hr0 : Kd.C (Kd.int .u8) w A l0.length l0) (hc0 : l0.length ≤ c) (h : nar_Text.f k l0 a1 = some r) :
    Calls Tryd.prog 25 #[.pointer (some ⟨g, 0, none⟩), .string a1] w fun e w' => ∃ v0_ w1, e = .returned (.tuple #[]) ∧ Kd.R (Kd.int .u8) 5 w1 w.heap.size (fun _ => True) v0_ r ∧ Below w.heap.size w w1 ∧ w' = w1.setCell ⟨g, 0, none⟩ v0_ := by
  have HB := Aside0.mk hb
  have hcz0 : w.cell? ⟨g, 0, none⟩ = some (.slice A l0.length c) := (blk_cell hb 0).trans rfl
  clear hb
  go_enter Tryd.func25, Tryd.ntmps25
  go_wp2_with (first | (go_at_call 45; (with_reducible refine (nar_Text.calls k A c l0 a1 r _ ?side1 ?side2 h).mono ?_); (case side1 => exact hr0); (case side2 => exact hc0); rintro e w1 ⟨v0, rfl, ho0, hb1⟩; obtain ⟨A1_, c1_, ev_⟩ := Kd.R_slice ho0; subst ev_; have HB1 := Aside0.mk ((hb1.block g (blk_lt HB.out)).trans HB.out); have hcz1 : w1.cell? ⟨g, 0, none⟩ = some (.slice A l0.length c) := (blk_cell HB1.out 0).trans rfl; have hfz1 := blk_frozen HB1.out 0))
  try go_wp2
  first | go_end0 | ((try simp only [Exit.inBlock, Exit.then]); refine bodyPost_ret (results_none rfl _ _ _) rfl ?_)
  exact ⟨_, w1, rfl, ho0, hb1, rfl⟩
/-- A call of a bound method that lies in a slot. -/
theorem goesB_ {P : Program} {ops : Array Oper} {Q : Exit → Act → World → Prop} {rest : List Oper} {oi : Oper} {a : Act} {w : World} (N : Option Tmp) (hd : oi.dst = N) (hg : oi.guard = none) {f : FuncId} {fn : Func} {x : Operand} {xs : Array Operand} {ts : Array TypeId} (pre : Array Value) (hop : oi.op = .call { callee := .value x, args := xs, argTypes := ts }) (hx : a.eval x = .func (.func f) pre #[])
    (hf : P.funcs[f]? = some fn) (hname : (fn.name == "runtime.NumGoroutine") = false) (hb : fn.body.isSome = true) (args : Array Value) (hargs : pre ++ xs.map a.eval = args)
    (h : Calls P f args w fun e w' => ∃ v, e = .returned v ∧ wpList P ops Q rest (a.put N v) w') : wpList P ops Q (oi :: rest) a w := by
  refine wpList_plain hg fun K hK => ?_
  have he := enters_ hf hname hb args w
  have hrun : (execOp a.eval oi).run P w = .ok (.enter f args) w := by
    unfold execOp
    simp [hop, hx, resolve, Deferred.ofValue, invoke, hargs, he]
  unfold Oper.wp
  rw [hrun, Oper.upon_enter]
  refine h.mono fun e w'' hh => ?_
  obtain ⟨v, rfl, hk⟩ := hh
  subst hd
  exact hK _ _ hk
/-- How many blocks a table has: nothing changes. -/
theorem tab_Len (g : Nat) (L : List ByteArray) (b : Bool) (w0 w : World) (hI : IsS75 w0 w g L b) :
    Calls Tryd.prog 26 #[.pointer (some ⟨g, 0, none⟩)] w fun e w' => e = .returned (.int .i64 (L.length : Int)) ∧ Drawn0 w w' := by
  obtain ⟨A1, c1, m1, hb, hg, hr, _⟩ := IsS75.open_ hI
  have hcz0 : w.cell? ⟨g, 0, none⟩ = some (.slice A1 L.length c1) := (blk_cell hb 0).trans rfl
  have hfz0 := blk_frozen hb 0
  go_enter Tryd.func26, Tryd.ntmps26
  go_wp2
  go_ret
  exact ⟨rfl, by repeat (first | exact Drawn0.refl _ | apply Drawn0.step)⟩
/-- What a table's All tells, of a table. -/
theorem tab_allf {w0 W : World} {g : Nat} {L : List ByteArray} {b : Bool} (h : IsS75 w0 W g L b) : blocks_Table_All.f L b = some (L, L, b) := by
  obtain ⟨v, m, _, _, _, _, _, hn⟩ := h
  have hl : ([] : List ByteArray).length + L.length < 8796093022208 := by
    rw [List.length_nil]
    omega
  unfold blocks_Table_All.f slices_Clone_string_string.f
  simp only [Option.bind_some, hl, if_true, List.nil_append]
/-- A store into the writer's block: the table, and another variable, stay. -/
theorem IsS75.box1 {w0 W : World} {g b : Nat} {f0 : List ByteArray} {f1 : Bool} {cs : Array Value} {t : TypeId} {fr : Nat × Nat} (h : IsS75 w0 W g f0 f1) (hb : W.heap[b]? = some (.cells cs t fr)) (ht : t ≠ 75 ∧ t ≠ 9) (u : Value) : IsS75 w0 (W.setCell ⟨b, 0, none⟩ u) g f0 f1 :=
  h.step (fun k _ hk => Below.heap_setCell _ ⟨b, 0, none⟩ u k (fun e => by
      subst e
      rcases (h.typed k hk).2 _ _ _ hb with h2 | h2
      · exact ht.1 h2
      · exact ht.2 h2))
theorem blk_other {W : World} {b g : Nat} {c1 c2 : Array Value} {t1 t2 : TypeId} (h1 : W.heap[b]? = some (.cells c1 t1 (0, 0))) (h2 : W.heap[g]? = some (.cells c2 t2 (0, 0))) (ht : t1 ≠ t2) (u : Value) : (W.setCell ⟨g, 0, none⟩ u).heap[b]? = some (.cells c1 t1 (0, 0)) :=
  blk_far h1 (fun e => by
    have e : b = g := e
    subst e
    rw [h1] at h2
    injection h2 with h2
    injection h2 with _ h2
    exact ht h2) u
/-- Numbers that are read lie elsewhere than a variable whose one cell is a slice. -/
theorem C_other {k : IntKind} {W : World} {A : Option Addr} {n g : Nat} {xs : List Int} {A1 : Option Addr} {n1 c1 : Nat} {t : TypeId} (h : Kd.C (Kd.int k) W A n xs) (hb : W.heap[g]? = some (.cells #[.slice A1 n1 c1] t (0, 0))) (u : Value) : Kd.C (Kd.int k) (W.setCell ⟨g, 0, none⟩ u) A n xs := by
  obtain ⟨h1, h2, h3⟩ := h
  refine ⟨h1, h2, fun h0 => ?_⟩
  obtain ⟨ad, e, hc⟩ := h3 h0
  refine ⟨ad, e, fun j p hp => ?_⟩
  obtain ⟨c, hl, hK, hcell⟩ := hc j p hp
  refine ⟨c, hl, hK, fun i v hv => ?_⟩
  have h4 := hcell i v hv
  have hne : (ad.add (j * (Kd.int k).sz + i)).block ≠ g := fun he => by
    have hc1 : c = [.int k p] := hK
    rw [hc1] at hv
    have hi : i = 0 := by
      match i with
      | 0 => rfl
      | i + 1 => simp at hv
    subst hi
    have hv2 : Value.int k p = v := by simpa using hv
    subst hv2
    unfold World.cell? at h4
    rw [he, hb] at h4
    revert h4
    match (ad.add (j * (Kd.int k).sz + 0)).off with
    | 0 => simp
    | o + 1 => simp
  unfold World.cell? at h4 ⊢
  rw [Below.heap_setCell W ⟨g, 0, none⟩ u _ hne]
  exact h4
/-- A block stays over what follows. -/
theorem blk_next {W0 W w1 : World} {g : Nat} {o : Obj} (h0 : W0.heap[g]? = some o) (hb : Below W.heap.size W w1) (h : W0.heap[g]? = some o → W.heap[g]? = some o := by intro h_; (with_reducible repeat (first | refine blk_drewN ?_ _ | refine blk_drew ?_ | refine blk_alloc ?_ _ | refine blk_far ?_ NEW.out _)); exact h_) : w1.heap[g]? = some o := (hb.block g (blk_lt (h h0))).trans (h h0)
theorem ne_next {W0 W : World} {g b : Nat} {o : Obj} (h0 : W0.heap[g]? = some o) (hg : b = W.heap.size) (h : W0.heap[g]? = some o → W.heap[g]? = some o := by intro h_; (with_reducible repeat (first | refine blk_drewN ?_ _ | refine blk_drew ?_ | refine blk_alloc ?_ _)); exact h_) : g ≠ b := fun e => by
  have := blk_lt (h h0)
  omega
theorem blk_nextR {W0 W w1 : World} {g t : Nat} {cs : Array Value} {α : Type} {d : Kd α} {e base : Nat} {ok : Nat → Prop} {v : Value} {xs : List α} (h0 : W0.heap[g]? = some (.cells cs t (0, 0))) (HO : d.R e W0 base ok v xs) (hg : W.grownBy w1 v.ownBlock) (ht : e ≠ t) (h : W0.heap[g]? = some (.cells cs t (0, 0)) → W.heap[g]? = some (.cells cs t (0, 0)) := by intro h_; (with_reducible repeat (first | refine blk_drewN ?_ _ | refine blk_drew ?_ | refine blk_alloc ?_ _ | refine blk_far ?_ NEW.out _)); exact h_) : w1.heap[g]? = some (.cells cs t (0, 0)) := (hg.block g (blk_lt (h h0)) (Kd.R_ne HO h0 ht)).trans (h h0)
theorem lent_lit {P : Program} {ops : Array Oper} {rest : List Oper} {o : Oper} {a : Act} {Q : Exit → Act → World → Prop} {w0 W : World} {A : Option Addr} {c : Nat} {xs : List Int} (HC : Kd.C (Kd.int .u8) w0 A xs.length xs) (hc : xs.length ≤ c) (e : Nat) (hgd : o.guard = none) {N : Tmp} (hd : o.dst = some N)
    (hrun : (execOp a.eval o).run P W = .ok (.value (.slice (some ⟨W.heap.size, 0, none⟩) 1 1)) (W.alloc (.cells #[.slice A xs.length c] e)))
    (h : ∀ v1 w1, Kd.R (lentK w0) e w1 W.heap.size (fun _ => True) v1 [xs] → Below W.heap.size W w1 → wpList P ops Q rest (a.put o.dst v1) w1) : wpList P ops Q (o :: rest) a W :=
  Kd.R_lit (lentK w0) W.heap.size e hgd hd (xs := [xs]) (inner := [.slice A xs.length c]) (ok := fun _ => True) (okp := fun _ => True) hrun (lent_one HC hc) (fun _ hk => hk) trivial (Below.refl _ _) (Nat.le_refl _) (by simp) (fun v1 w1 h1 h2 _ _ => h v1 w1 h1 h2)
section
variable {w W W' : World} {g t : Nat} {cs : Array Value} {u : Value} {α : Type} {d : Kd α} {e base : Nat} {ok : Nat → Prop} {v : Value} {xs : List α}
theorem putR (h : d.R e W base ok v xs) (hb : W.heap[g]? = some (.cells cs t (0, 0))) (ht : ∀ q, q ∈ e :: d.E → q ≠ t) (hS : W' = W.setCell ⟨g, 0, none⟩ u) : d.R e W' base ok v xs := by subst hS; exact Kd.R_set h hb ht 0 u
theorem putS (h : d.S e W base ok v xs) (hb : W.heap[g]? = some (.cells cs t (0, 0))) (ht : ∀ q, q ∈ e :: d.E → q ≠ t) (hS : W' = W.setCell ⟨g, 0, none⟩ u) : d.S e W' base ok v xs := by subst hS; exact Kd.S_set h hb ht 0 u
theorem putI {w0 : World} {g0 : Nat} {f0 : List ByteArray} {f1 : Bool} {fr : Nat × Nat} (h : IsS75 w0 W g0 f0 f1) (hb : W.heap[g]? = some (.cells cs t fr)) (ht : t ≠ 75 ∧ t ≠ 9) (hS : W' = W.setCell ⟨g, 0, none⟩ u) : IsS75 w0 W' g0 f0 f1 := by subst hS; exact IsS75.box1 h hb ht u
theorem putHB (h : Below w.heap.size w W) (hg : w.heap.size ≤ g) (hS : W' = W.setCell ⟨g, 0, none⟩ u) : Below w.heap.size w W' := by subst hS; exact below_set h hg
theorem putB {b t1 : Nat} {c1 : Array Value} (h1 : W.heap[b]? = some (.cells c1 t1 (0, 0))) (h2 : W.heap[g]? = some (.cells cs t (0, 0))) (ht : t1 ≠ t) (hS : W' = W.setCell ⟨g, 0, none⟩ u) : W'.heap[b]? = some (.cells c1 t1 (0, 0)) := by subst hS; exact blk_other h1 h2 ht u
theorem putC {k : IntKind} {A : Option Addr} {n : Nat} {ys : List Int} {A1 : Option Addr} {n1 c1 : Nat} (h : Kd.C (Kd.int k) W A n ys) (hb : W.heap[g]? = some (.cells #[.slice A1 n1 c1] t (0, 0))) (hS : W' = W.setCell ⟨g, 0, none⟩ u) : Kd.C (Kd.int k) W' A n ys := by subst hS; exact C_other h hb u
theorem putW {x : Value} (hb : W.heap[g]? = some (.cells #[x] t (0, 0))) (hS : W' = W.setCell ⟨g, 0, none⟩ u) : W'.heap[g]? = some (.cells #[u] t (0, 0)) := by subst hS; simpa using blk_set hb 0 u
end
theorem lent_step {w0 w1 : World} {e base : Nat} {ok : Nat → Prop} {v : Value} {xs : List (List Int)} (h : Kd.R (lentK w0) e w1 base ok v xs) (hb : Below w0.heap.size w0 w1) : Aside0 (Below w0.heap.size w0 w1) := ⟨hb⟩
mutual
def image_Lay.l0 : Nat → List (S46) → List (List Int) → List Int → List Int → List ByteArray → Int → Int → Option (List Int × Int)
  | 0, _, _, _, _, _, _, _ => none
  | k + 1, x0, x5, x6, x9, x38, x39, x40 => if x40 < x39 then (if 0 ≤ x40 then (if x40 < (x38.length : Int) then ((lz_Pack.f k (rdOf ByteArray.empty x38 x40)).bind fun t213 => ((nar_Num.f k x6 ((rdOf ByteArray.empty x38 x40).size : Int)).bind fun t214 => ((nar_Num.f k t214 (t213.size : Int)).bind fun t217 => ((sum_Text.f k (rdOf ByteArray.empty x38 x40)).bind fun t220 => ((nar_Num.f k t217 (wrap64 (t220))).bind fun t221 => (if x9.length + t213.size < 140737488355328 then (image_Lay.l0 k x0 x5 t221 (x9 ++ bytesOf t213) x38 x39 (wrap64 (x40 + 1))) else (none))))))) else (none)) else (none)) else ((nar_Num.f k x6 (x0.length : Int)).bind fun t227 => (image_Lay.l1 k x5 t227 x9 x0 (x0.length : Int) 0))
def image_Lay.l1 : Nat → List (List Int) → List Int → List Int → List (S46) → Int → Int → Option (List Int × Int)
  | 0, _, _, _, _, _, _ => none
  | k + 1, x5, x6, x9, x69, x70, x71 => if x71 < x70 then (if 0 ≤ x71 then (if x71 < (x69.length : Int) then ((nar_Text.f k x6 ((rd_T46 x69 x71).f0)).bind fun t235 => ((nar_Num.f k t235 ((rd_T46 x69 x71).f1)).bind fun t238 => ((nar_Num.f k t238 (((rd_T46 x69 x71).f2).size : Int)).bind fun t241 => (if x71 < (x5.length : Int) then ((nar_Num.f k t241 ((rd_L10 x5 x71).length : Int)).bind fun t245 => (image_Lay.l2 k x5 t245 x9 x69 x70 x71 (rd_L10 x5 x71) ((rd_L10 x5 x71).length : Int) 0)) else (none))))) else (none)) else (none)) else (if x6.length + x9.length < 140737488355328 then (some ((x6 ++ x9), 0)) else (none))
def image_Lay.l2 : Nat → List (List Int) → List Int → List Int → List (S46) → Int → Int → List Int → Int → Int → Option (List Int × Int)
  | 0, _, _, _, _, _, _, _, _, _ => none
  | k + 1, x5, x6, x9, x69, x70, x71, x99, x100, x101 => if x101 < x100 then (if 0 ≤ x101 then (if x101 < (x99.length : Int) then ((nar_Num.f k x6 (rd x99 x101)).bind fun t250 => (image_Lay.l2 k x5 t250 x9 x69 x70 x71 x99 x100 (wrap64 (x101 + 1)))) else (none)) else (none)) else (image_Lay.l1 k x5 x6 x9 x69 x70 (wrap64 (x71 + 1)))
end
def image_Lay.f (k : Nat) (l0 : List (S46)) : Option (List Int × Int) := (tree_May.f k l0).bind fun t199 => (if t199 = true then ((image_parts.f k l0).bind fun bt200 => ((nar_Text.f k ([] : List Int) (⟨#[105, 109, 97, 103, 101]⟩ : ByteArray)).bind fun t206 => ((nar_Num.f k t206 (bt200.1.length : Int)).bind fun t209 => (image_Lay.l0 k l0 bt200.2 t209 ([] : List Int) bt200.1 (bt200.1.length : Int) 0)))) else (some (([] : List Int), 7)))
theorem image_Lay.mono_l : ∀ k, (∀ y0 y1 y2 y3 y4 y5 y6, LeO (image_Lay.l0 k y0 y1 y2 y3 y4 y5 y6) (image_Lay.l0 (k + 1) y0 y1 y2 y3 y4 y5 y6)) ∧ (∀ y0 y1 y2 y3 y4 y5, LeO (image_Lay.l1 k y0 y1 y2 y3 y4 y5) (image_Lay.l1 (k + 1) y0 y1 y2 y3 y4 y5)) ∧ (∀ y0 y1 y2 y3 y4 y5 y6 y7 y8, LeO (image_Lay.l2 k y0 y1 y2 y3 y4 y5 y6 y7 y8) (image_Lay.l2 (k + 1) y0 y1 y2 y3 y4 y5 y6 y7 y8))
  | 0 => ⟨fun _ _ _ _ _ _ _ r h => by simp [image_Lay.l0] at h, fun _ _ _ _ _ _ r h => by simp [image_Lay.l1] at h, fun _ _ _ _ _ _ _ _ _ r h => by simp [image_Lay.l2] at h⟩
  | k + 1 => by
    obtain ⟨ih0, ih1, ih2⟩ := image_Lay.mono_l k
    refine ⟨?_, ?_, ?_⟩
    · intro y0 y1 y2 y3 y4 y5 y6
      unfold image_Lay.l0
      repeat' first
      | (with_reducible exact ih0 _ _ _ _ _ _ _)
      | (with_reducible exact ih1 _ _ _ _ _ _)
      | (with_reducible exact ih2 _ _ _ _ _ _ _ _ _)
      | (with_reducible exact sum_Text.mono _ _)
      | (with_reducible exact image_parts.mono _ _)
      | (with_reducible exact lz_Pack.mono _ _)
      | (with_reducible exact nar_Num.mono _ _ _)
      | (with_reducible exact nar_Text.mono _ _ _)
      | (with_reducible exact tree_May.mono _ _)
      | (with_reducible exact LeO.refl _)
      | (with_reducible exact LeO.none _)
      | (with_reducible refine LeO.ite ?_ ?_)
      | (with_reducible refine LeO.bind ?_ (fun _ => ?_))
      | exact ih0 _ _ _ _ _ _ _
      | exact ih1 _ _ _ _ _ _
      | exact ih2 _ _ _ _ _ _ _ _ _
      | exact sum_Text.mono _ _
      | exact image_parts.mono _ _
      | exact lz_Pack.mono _ _
      | exact nar_Num.mono _ _ _
      | exact nar_Text.mono _ _ _
      | exact tree_May.mono _ _
      | exact LeO.none _
      | refine LeO.ite ?_ ?_
      | refine LeO.bind ?_ (fun _ => ?_)
    · intro y0 y1 y2 y3 y4 y5
      unfold image_Lay.l1
      repeat' first
      | (with_reducible exact ih0 _ _ _ _ _ _ _)
      | (with_reducible exact ih1 _ _ _ _ _ _)
      | (with_reducible exact ih2 _ _ _ _ _ _ _ _ _)
      | (with_reducible exact sum_Text.mono _ _)
      | (with_reducible exact image_parts.mono _ _)
      | (with_reducible exact lz_Pack.mono _ _)
      | (with_reducible exact nar_Num.mono _ _ _)
      | (with_reducible exact nar_Text.mono _ _ _)
      | (with_reducible exact tree_May.mono _ _)
      | (with_reducible exact LeO.refl _)
      | (with_reducible exact LeO.none _)
      | (with_reducible refine LeO.ite ?_ ?_)
      | (with_reducible refine LeO.bind ?_ (fun _ => ?_))
      | exact ih0 _ _ _ _ _ _ _
      | exact ih1 _ _ _ _ _ _
      | exact ih2 _ _ _ _ _ _ _ _ _
      | exact sum_Text.mono _ _
      | exact image_parts.mono _ _
      | exact lz_Pack.mono _ _
      | exact nar_Num.mono _ _ _
      | exact nar_Text.mono _ _ _
      | exact tree_May.mono _ _
      | exact LeO.none _
      | refine LeO.ite ?_ ?_
      | refine LeO.bind ?_ (fun _ => ?_)
    · intro y0 y1 y2 y3 y4 y5 y6 y7 y8
      unfold image_Lay.l2
      repeat' first
      | (with_reducible exact ih0 _ _ _ _ _ _ _)
      | (with_reducible exact ih1 _ _ _ _ _ _)
      | (with_reducible exact ih2 _ _ _ _ _ _ _ _ _)
      | (with_reducible exact sum_Text.mono _ _)
      | (with_reducible exact image_parts.mono _ _)
      | (with_reducible exact lz_Pack.mono _ _)
      | (with_reducible exact nar_Num.mono _ _ _)
      | (with_reducible exact nar_Text.mono _ _ _)
      | (with_reducible exact tree_May.mono _ _)
      | (with_reducible exact LeO.refl _)
      | (with_reducible exact LeO.none _)
      | (with_reducible refine LeO.ite ?_ ?_)
      | (with_reducible refine LeO.bind ?_ (fun _ => ?_))
      | exact ih0 _ _ _ _ _ _ _
      | exact ih1 _ _ _ _ _ _
      | exact ih2 _ _ _ _ _ _ _ _ _
      | exact sum_Text.mono _ _
      | exact image_parts.mono _ _
      | exact lz_Pack.mono _ _
      | exact nar_Num.mono _ _ _
      | exact nar_Text.mono _ _ _
      | exact tree_May.mono _ _
      | exact LeO.none _
      | refine LeO.ite ?_ ?_
      | refine LeO.bind ?_ (fun _ => ?_)
theorem image_Lay.mono : ∀ a0 k, LeO (image_Lay.f k a0) (image_Lay.f (k + 1) a0) := by
  intro a0 k
  obtain ⟨ih0, ih1, ih2⟩ := image_Lay.mono_l k
  unfold image_Lay.f
  repeat' first
      | (with_reducible exact ih0 _ _ _ _ _ _ _)
      | (with_reducible exact ih1 _ _ _ _ _ _)
      | (with_reducible exact ih2 _ _ _ _ _ _ _ _ _)
      | (with_reducible exact sum_Text.mono _ _)
      | (with_reducible exact image_parts.mono _ _)
      | (with_reducible exact lz_Pack.mono _ _)
      | (with_reducible exact nar_Num.mono _ _ _)
      | (with_reducible exact nar_Text.mono _ _ _)
      | (with_reducible exact tree_May.mono _ _)
      | (with_reducible exact LeO.refl _)
      | (with_reducible exact LeO.none _)
      | (with_reducible refine LeO.ite ?_ ?_)
      | (with_reducible refine LeO.bind ?_ (fun _ => ?_))
      | exact ih0 _ _ _ _ _ _ _
      | exact ih1 _ _ _ _ _ _
      | exact ih2 _ _ _ _ _ _ _ _ _
      | exact sum_Text.mono _ _
      | exact image_parts.mono _ _
      | exact lz_Pack.mono _ _
      | exact nar_Num.mono _ _ _
      | exact nar_Text.mono _ _ _
      | exact tree_May.mono _ _
      | exact LeO.none _
      | refine LeO.ite ?_ ?_
      | refine LeO.bind ?_ (fun _ => ?_)
set_option maxHeartbeats 8000000 in
set_option maxRecDepth 100000 in
theorem image_Lay.calls (k : Nat) (A0 : Option Addr) (c0 : Nat) (l0 : List (S46)) (r1 : List Int) (r2 : Int) (w : World) (hr0 : Kd.C k46 w A0 l0.length l0) (hc0 : l0.length ≤ c0) (h : image_Lay.f k l0 = some (r1, r2)) :
    Calls Tryd.prog 9 #[.slice A0 l0.length c0] w fun e w' => ∃ v0_ : Value, e = .returned (.tuple #[v0_, .int .i64 r2]) ∧ Kd.R (Kd.int .u8) 5 w' w.heap.size (fun _ => True) v0_ r1 ∧ Below w.heap.size w w' := by
  have hu46 := Tryd.underlying46
  have HR0 := Aside0.mk hr0
  have HC0 := Aside0.mk hc0
  clear hr0 hc0
  have HB := Aside0.mk (Below.refl w.heap.size w)
  have H : ((tree_May.f k l0).bind fun t199 => (if t199 = true then ((image_parts.f k l0).bind fun bt200 => ((nar_Text.f k ([] : List Int) (⟨#[105, 109, 97, 103, 101]⟩ : ByteArray)).bind fun t206 => ((nar_Num.f k t206 (bt200.1.length : Int)).bind fun t209 => (image_Lay.l0 k l0 bt200.2 t209 ([] : List Int) bt200.1 (bt200.1.length : Int) 0)))) else (some (([] : List Int), 7)))) = some (r1, r2) := h
  clear h
  replace H := Option.bind_eq_some_iff.mp H
  obtain ⟨t199, A20, H⟩ := H
  replace H : (if t199 = true then ((image_parts.f k l0).bind fun bt200 => ((nar_Text.f k ([] : List Int) (⟨#[105, 109, 97, 103, 101]⟩ : ByteArray)).bind fun t206 => ((nar_Num.f k t206 (bt200.1.length : Int)).bind fun t209 => (image_Lay.l0 k l0 bt200.2 t209 ([] : List Int) bt200.1 (bt200.1.length : Int) 0)))) else (some (([] : List Int), 7))) = some (r1, r2) := H
  have A2 := Aside0.mk A20
  clear A20
  by_cases c3 : t199 = true
  · subst c3
    have H1 : ((image_parts.f k l0).bind fun bt200 => ((nar_Text.f k ([] : List Int) (⟨#[105, 109, 97, 103, 101]⟩ : ByteArray)).bind fun t206 => ((nar_Num.f k t206 (bt200.1.length : Int)).bind fun t209 => (image_Lay.l0 k l0 bt200.2 t209 ([] : List Int) bt200.1 (bt200.1.length : Int) 0)))) = some (r1, r2) := by rw [if_pos rfl] at H; exact H
    clear H
    have H := H1
    clear H1
    replace H := Option.bind_eq_some_iff.mp H
    obtain ⟨⟨t200, t201⟩, A40, H⟩ := H
    replace H : ((nar_Text.f k ([] : List Int) (⟨#[105, 109, 97, 103, 101]⟩ : ByteArray)).bind fun t206 => ((nar_Num.f k t206 (t200.length : Int)).bind fun t209 => (image_Lay.l0 k l0 t201 t209 ([] : List Int) t200 (t200.length : Int) 0))) = some (r1, r2) := H
    have A4 := Aside0.mk A40
    clear A40
    replace H := Option.bind_eq_some_iff.mp H
    obtain ⟨t206, A50, H⟩ := H
    replace H : ((nar_Num.f k t206 (t200.length : Int)).bind fun t209 => (image_Lay.l0 k l0 t201 t209 ([] : List Int) t200 (t200.length : Int) 0)) = some (r1, r2) := H
    have A5 := Aside0.mk A50
    clear A50
    replace H := Option.bind_eq_some_iff.mp H
    obtain ⟨t209, A60, H⟩ := H
    replace H : (image_Lay.l0 k l0 t201 t209 ([] : List Int) t200 (t200.length : Int) 0) = some (r1, r2) := H
    have A6 := Aside0.mk A60
    clear A60
    have H' := Aside0.mk H
    clear H
    go_enter Tryd.func9, Tryd.ntmps9
    go_wp2_with (first | ((with_reducible refine gate_callee (f := 19) rfl ?_); refine goesL_ (some 18) rfl rfl Tryd.func19 (by kernel_rfl) rfl #[.slice A0 l0.length c0] rfl (by (try simp only [List.map_toArray, List.map_cons, List.map_nil]); first | done | rfl | (simp only [List.length_drop, List.length_take]; rfl)) ?_; (with_reducible refine (tree_May.calls k _ _ l0 true _ ?side1 ?side2 A2.out).mono ?_); (case side1 => repeat (first | exact HR0.out | (with_reducible refine Kd.C_alloc ?_ _) | (with_reducible refine Kd.C_drewN ?_ _) | (with_reducible refine Kd.C_drew ?_))); (case side2 => exact HC0.out); rintro e w7 ⟨rfl, hb⟩; refine ⟨_, rfl, ?_⟩; have n0_ := Aside0.mk (below_step (by repeat (first | (with_reducible first | exact HB.out | apply below_alloc | apply pw_below_drewN | apply below_drew1) | exact HB.out)) hb); clear HB; have HB := n0_; clear n0_; (try clear hb); (try clear hb2); (try clear hk); (try clear hi)) | ((with_reducible refine gate_callee (f := 23) rfl ?_); refine goesL_ (some 22) rfl rfl Tryd.func23 (by kernel_rfl) rfl #[.slice A0 l0.length c0] rfl (by (try simp only [List.map_toArray, List.map_cons, List.map_nil]); first | done | rfl | (simp only [List.length_drop, List.length_take]; rfl)) ?_; (with_reducible refine (image_parts.calls k _ _ l0 t200 t201 _ ?side1 ?side2 A4.out).mono ?_); (case side1 => repeat (first | exact (Kd.C_below HR0.out HB.out) | (with_reducible refine Kd.C_alloc ?_ _) | (with_reducible refine Kd.C_drewN ?_ _) | (with_reducible refine Kd.C_drew ?_))); (case side2 => exact HC0.out); rintro e w8 ⟨gT_, bT_, v204, rfl, hiT_, ho1, hb⟩; refine ⟨_, rfl, ?_⟩; have n0_ := Aside0.mk (IsS75.lower hiT_ (below_size (by repeat (first | (with_reducible first | exact HB.out | apply below_alloc | apply pw_below_drewN | apply below_drew1) | exact HB.out)))); have n1_ := Aside0.mk (Kd.S_lower ho1 (below_size (by repeat (first | (with_reducible first | exact HB.out | apply below_alloc | apply pw_below_drewN | apply below_drew1) | exact HB.out)))); have n2_ := Aside0.mk (below_step (by repeat (first | (with_reducible first | exact HB.out | apply below_alloc | apply pw_below_drewN | apply below_drew1) | exact HB.out)) hb); clear HB; have HO203 := n0_; have HO205 := n1_; have HB := n2_; clear n0_ n1_ n2_; (try clear hb); (try clear hb2); (try clear hk); (try clear hi); (try clear hiT_); (try clear ho1)) | ((with_reducible refine gate_dst (N := 26) rfl ?_); (try (refine gate_guard (by rfl) ?_; dsimp only)); refine box_event ?hg (N := 26) ?hd (cs := #[.slice none 0 0]) (t := 53) ?hr ?_; (case hd => rfl); (case hg => rfl); (case hr => first | (go_simp; done) | (go_simp; rfl)); intro gW_ hg wW_ hbox hb; have GEW := Aside0.mk (show w.heap.size ≤ gW_ from by rw [hg]; exact below_size (by repeat (first | (with_reducible first | exact HB.out | apply below_alloc | apply pw_below_drewN | apply below_drew1) | exact HB.out))); (try (have n_ := Aside0.mk (IsS75.below (by repeat (first | (with_reducible first | exact HO203.out | apply IsS75.alloc | apply IsS75.drewN | apply IsS75.drew) | exact HO203.out)) hb); clear HO203; have HO203 := n_; clear n_)); (try (have n_ := Aside0.mk (Kd.S_below (by (with_reducible repeat (first | apply Kd.S_alloc | apply Kd.S_drewN | apply Kd.S_drew)); exact HO205.out) hb); clear HO205; have HO205 := n_; clear n_)); (try (have n_ := Aside0.mk (below_step (by repeat (first | (with_reducible first | exact HB.out | apply below_alloc | apply pw_below_drewN | apply below_drew1) | exact HB.out)) hb); clear HB; have HB := n_; clear n_)); have BKW := Aside0.mk hbox; clear hbox hb hg) | (go_at_call 26; (with_reducible refine (tab_Len gT_ t200 bT_ w _ ?side1).mono ?_); (case side1 => exact (by repeat (first | (with_reducible first | exact HO203.out | apply IsS75.alloc | apply IsS75.drewN | apply IsS75.drew) | exact HO203.out))); rintro e w' ⟨rfl, ⟨nd, rfl⟩⟩; (try first | exact ⟨rfl, _, World.drewN_drewN _ _ _⟩ | exact ⟨rfl, _, Eq.trans (World.drewN_drewN _ _ _) (congrArg (World.drewN _) (Nat.add_assoc _ _ _))⟩)) | ((with_reducible refine gate_callee (f := 27) rfl ?_); refine goesL_ (some 38) rfl rfl Tryd.func27 (by kernel_rfl) rfl #[.pointer (some ⟨gT_, 0, none⟩)] rfl (by (try simp only [List.map_toArray, List.map_cons, List.map_nil]); first | done | rfl) ?_; (with_reducible refine (blocks_Table_All.calls2 gT_ t200 bT_ t200 t200 bT_ w _ ?side1 ?side2 (tab_allf HO203.out)).mono ?_); (case side1 => exact (by repeat (first | (with_reducible first | exact HO203.out | apply IsS75.alloc | apply IsS75.drewN | apply IsS75.drew) | exact HO203.out))); (case side2 => exact (by repeat (first | (with_reducible first | exact HB.out | apply below_alloc | apply pw_below_drewN | apply below_drew1) | exact HB.out))); rintro e wA_ ⟨vA_, rfl, ho0, hiT_, hbT_, hkT_, hb⟩; refine ⟨_, rfl, ?_⟩; clear hiT_ hbT_ hkT_; have nW_ := Aside0.mk (blk_next BKW.out hb); clear BKW; have BKW := nW_; clear nW_; have n0_ := Aside0.mk (Kd.R_lower ho0 (below_size (by repeat (first | (with_reducible first | exact HB.out | apply below_alloc | apply pw_below_drewN | apply below_drew1) | exact HB.out)))); have n_ := Aside0.mk (Kd.S_below (by (with_reducible repeat (first | apply Kd.S_alloc | apply Kd.S_drewN | apply Kd.S_drew)); exact HO205.out) hb); clear HO205; have HO205 := n_; clear n_; have n_ := Aside0.mk (Kd.R_below (by (with_reducible repeat (first | apply Kd.R_alloc | apply Kd.R_drewN | apply Kd.R_drew)); exact HO208.out) hb); clear HO208; have HO208 := n_; clear n_; have n_ := Aside0.mk (Kd.R_below (by (with_reducible repeat (first | apply Kd.R_alloc | apply Kd.R_drewN | apply Kd.R_drew)); exact HO211.out) hb); clear HO211; have HO211 := n_; clear n_; have nB_ := Aside0.mk (below_step (by repeat (first | (with_reducible first | exact HB.out | apply below_alloc | apply pw_below_drewN | apply below_drew1) | exact HB.out)) hb); clear HO203; clear HB; have HO203 := n0_; have HB := nB_; clear n0_ nB_; clear ho0 hb; obtain ⟨Ao10, co10, eo10⟩ := Kd.R_slice HO203.out; subst eo10) | ((with_reducible refine gate_dst (N := 32) rfl ?_); refine goesB_ (some 32) rfl rfl #[.pointer (some ⟨gW_, 0, none⟩)] rfl rfl Tryd.func25 (by kernel_rfl) rfl #[.pointer (some ⟨gW_, 0, none⟩), .string (⟨#[105, 109, 97, 103, 101]⟩ : ByteArray)] (by first | rfl | (simp; done) | (simp; rfl)) ?_; (refine (image_writer_text.calls k gW_ none 0 ([] : List Int) (⟨#[105, 109, 97, 103, 101]⟩ : ByteArray) t206 _ ?sideW ?side1 ?side2 A5.out).mono ?_); (case sideW => exact (by (with_reducible repeat (first | refine blk_drewN ?_ _ | refine blk_drew ?_ | refine blk_alloc ?_ _ | refine blk_far ?_ NEW.out _)); exact BKW.out)); (case side1 => exact Kd.C_nil _ _); (case side2 => exact Nat.le_refl _); rintro e w9 ⟨v207, w9p, rfl, ho0, hb, hS_⟩; refine ⟨_, rfl, ?_⟩; have NW_ := Aside0.mk (blk_next BKW.out hb); clear BKW; have n0_ := Aside0.mk (IsS75.below (by repeat (first | (with_reducible first | exact HO203.out | apply IsS75.alloc | apply IsS75.drewN | apply IsS75.drew) | exact HO203.out)) hb); have n1_ := Aside0.mk (Kd.S_below (by (with_reducible repeat (first | apply Kd.S_alloc | apply Kd.S_drewN | apply Kd.S_drew)); exact HO205.out) hb); have n2_ := Aside0.mk (Kd.R_lower ho0 (below_size (by repeat (first | (with_reducible first | exact HB.out | apply below_alloc | apply pw_below_drewN | apply below_drew1) | exact HB.out)))); have n3_ := Aside0.mk (below_step (by repeat (first | (with_reducible first | exact HB.out | apply below_alloc | apply pw_below_drewN | apply below_drew1) | exact HB.out)) hb); clear HO203; clear HO205; clear HB; have HO203 := n0_; have HO205 := n1_; have HO208 := n2_; have HB := n3_; clear n0_ n1_ n2_ n3_; (try clear hb); (try clear hb2); (try clear hk); (try clear hi); (try clear ho0); (try (have n_ := Aside0.mk (putI HO203.out NW_.out (by decide) hS_); clear HO203; have HO203 := n_; clear n_)); (try (have n_ := Aside0.mk (putS HO205.out NW_.out (by decide) hS_); clear HO205; have HO205 := n_; clear n_)); (try (have n_ := Aside0.mk (putR HO208.out NW_.out (by decide) hS_); clear HO208; have HO208 := n_; clear n_)); (try (have n_ := Aside0.mk (putHB HB.out GEW.out hS_); clear HB; have HB := n_; clear n_)); have BKW := Aside0.mk (putW NW_.out hS_); clear NW_ hS_; obtain ⟨Ao11, co11, eo11⟩ := Kd.R_slice HO208.out; subst eo11) | ((with_reducible refine gate_dst (N := 36) rfl ?_); refine goesB_ (some 36) rfl rfl #[.pointer (some ⟨gW_, 0, none⟩)] rfl rfl Tryd.func24 (by kernel_rfl) rfl #[.pointer (some ⟨gW_, 0, none⟩), .int .i64 (t200.length : Int)] (by first | rfl | (simp; done) | (simp; rfl)) ?_; (with_reducible refine (image_writer_num.calls k gW_ Ao11 co11 t206 (t200.length : Int) t209 _ ?sideW ?side1 ?side2 A6.out).mono ?_); (case sideW => exact (by (with_reducible repeat (first | refine blk_drewN ?_ _ | refine blk_drew ?_ | refine blk_alloc ?_ _ | refine blk_far ?_ NEW.out _)); exact BKW.out)); (case side1 => repeat (first | exact (Kd.R_reads' HO208.out).2.2 | (with_reducible refine Kd.C_alloc ?_ _) | (with_reducible refine Kd.C_drewN ?_ _) | (with_reducible refine Kd.C_drew ?_))); (case side2 => exact (Kd.R_reads' HO208.out).2.1); rintro e w12 ⟨v210, w12p, rfl, ho0, hb, hS_⟩; refine ⟨_, rfl, ?_⟩; have NW_ := Aside0.mk (blk_next BKW.out hb); clear BKW; have n0_ := Aside0.mk (IsS75.below (by repeat (first | (with_reducible first | exact HO203.out | apply IsS75.alloc | apply IsS75.drewN | apply IsS75.drew) | exact HO203.out)) hb); have n1_ := Aside0.mk (Kd.S_below (by (with_reducible repeat (first | apply Kd.S_alloc | apply Kd.S_drewN | apply Kd.S_drew)); exact HO205.out) hb); have n2_ := Aside0.mk (Kd.R_elder' (by (with_reducible repeat (first | apply Kd.R_alloc | apply Kd.R_drewN | apply Kd.R_drew)); exact HO208.out) (Kd.R_base ho0) hb); have n3_ := Aside0.mk (Kd.R_lower (Kd.R_new' ho0 (Kd.R_lt (by (with_reducible repeat (first | apply Kd.R_alloc | apply Kd.R_drewN | apply Kd.R_drew)); exact HO208.out))) (below_size (by repeat (first | (with_reducible first | exact HB.out | apply below_alloc | apply pw_below_drewN | apply below_drew1) | exact HB.out)))); have n4_ := Aside0.mk (below_step (by repeat (first | (with_reducible first | exact HB.out | apply below_alloc | apply pw_below_drewN | apply below_drew1) | exact HB.out)) hb); clear HO203; clear HO205; clear HO208; clear HB; have HO203 := n0_; have HO205 := n1_; have HO208 := n2_; have HO211 := n3_; have HB := n4_; clear n0_ n1_ n2_ n3_ n4_; (try clear hb); (try clear hb2); (try clear hk); (try clear hi); (try clear ho0); (try (have n_ := Aside0.mk (putI HO203.out NW_.out (by decide) hS_); clear HO203; have HO203 := n_; clear n_)); (try (have n_ := Aside0.mk (putS HO205.out NW_.out (by decide) hS_); clear HO205; have HO205 := n_; clear n_)); (try (have n_ := Aside0.mk (putR HO208.out NW_.out (by decide) hS_); clear HO208; have HO208 := n_; clear n_)); (try (have n_ := Aside0.mk (putR HO211.out NW_.out (by decide) hS_); clear HO211; have HO211 := n_; clear n_)); (try (have n_ := Aside0.mk (putHB HB.out GEW.out hS_); clear HB; have HB := n_; clear n_)); have BKW := Aside0.mk (putW NW_.out hS_); clear NW_ hS_))
    go_loopg [9, 40] k (fun kq v9 v40 w' => ∃ (v6 : Value) (x6_1 : List Int) (x9_1 : List Int) (x40_1 : Int), v40 = .int .i64 x40_1 ∧ Aside0 (image_Lay.l0 kq l0 t201 x6_1 x9_1 t200 (t200.length : Int) x40_1 = some (r1, r2)) ∧ Aside0 (kq ≤ k) ∧ Aside0 (Kd.S (Kd.slice 3 (Kd.int .i64)) 61 w' w.heap.size (fun _ => True) v204 t201) ∧ Aside0 (Kd.R (Kd.int .u8) 5 w' w.heap.size (fun k_ => some k_ ≠ (v9 : Value).ownBlock) v6 x6_1) ∧ Aside0 (Kd.R (Kd.int .u8) 5 w' w.heap.size (fun k_ => some k_ ≠ (v6 : Value).ownBlock) v9 x9_1) ∧ Aside0 (Kd.R Kd.string 9 w' w.heap.size (fun _ => True) (.slice Ao10 t200.length co10) t200) ∧ Aside0 (Below w.heap.size w w') ∧ Aside0 (w'.heap[gW_]? = some (.cells #[v6] 53 (0, 0))))
    case atStart => exact ⟨_, (t209), (([] : List Int)), (0), (by first | rfl | (simp; done) | (simp [*]; done)), H', ⟨Nat.le_refl _⟩, ⟨by (with_reducible repeat (first | apply Kd.S_alloc | apply Kd.S_drewN | apply Kd.S_drew)); exact HO205.out⟩, ⟨by (with_reducible repeat (first | apply Kd.R_alloc | apply Kd.R_drewN | apply Kd.R_drew)); exact Kd.R_mono HO211.out (fun _ hk => (by simp [Value.ownBlock]))⟩, ⟨by first | exact Kd.R_nil _ _ _ _ _ | exact Kd.N_nil _ _ _ _ _ | exact Kd.V_nil _ _ _ _ _ | exact Kd.Q_nil _ _ _ _ _ | exact Kd.S_nil _ _ _ _ _⟩, ⟨by (with_reducible repeat (first | apply Kd.R_alloc | apply Kd.R_drewN | apply Kd.R_drew)); exact HO203.out⟩, ⟨by repeat (first | (with_reducible first | exact HB.out | apply below_alloc | apply pw_below_drewN | apply below_drew1) | exact HB.out)⟩, ⟨by (with_reducible repeat (first | refine blk_drewN ?_ _ | refine blk_drew ?_ | refine blk_alloc ?_ _ | refine blk_far ?_ NEW.out _)); exact BKW.out⟩⟩
    case round =>
      clear H'
      try clear c1
      try clear c2
      try clear p2
      try clear c3
      try clear c4
      try clear c9
      obtain ⟨u6, x6_1, x9_1, x40_1, rfl, HA, HK1, HO_5, HO_6, HO_9, HO_38, HB, BKW⟩ := hrel
      cases gk with
      | zero => exact absurd HA.out (by simp [image_Lay.l0])
      | succ k1 =>
        have H := HA.out
        clear HA
        simp only [image_Lay.l0] at H
        by_cases c13 : x40_1 < (t200.length : Int)
        · rw [if_pos c13] at H
          have c13b0 : decide (x40_1 < (t200.length : Int)) = true := decide_eq_true c13
          clear c13
          by_cases c14 : 0 ≤ x40_1
          · rw [if_pos c14] at H
            have c14b0 : decide (0 ≤ x40_1) = true := decide_eq_true c14
            clear c14
            by_cases c15 : x40_1 < (t200.length : Int)
            · rw [if_pos c15] at H
              have c15b0 : decide (x40_1 < (t200.length : Int)) = true := decide_eq_true c15
              clear c15
              replace H := Option.bind_eq_some_iff.mp H
              obtain ⟨t213, A160, H⟩ := H
              replace H : ((nar_Num.f k1 x6_1 ((rdOf ByteArray.empty t200 x40_1).size : Int)).bind fun t214 => ((nar_Num.f k1 t214 (t213.size : Int)).bind fun t217 => ((sum_Text.f k1 (rdOf ByteArray.empty t200 x40_1)).bind fun t220 => ((nar_Num.f k1 t217 (wrap64 (t220))).bind fun t221 => (if x9_1.length + t213.size < 140737488355328 then (image_Lay.l0 k1 l0 t201 t221 (x9_1 ++ bytesOf t213) t200 (t200.length : Int) (wrap64 (x40_1 + 1))) else (none)))))) = some (r1, r2) := H
              have A16 := Aside0.mk A160
              clear A160
              replace H := Option.bind_eq_some_iff.mp H
              obtain ⟨t214, A170, H⟩ := H
              replace H : ((nar_Num.f k1 t214 (t213.size : Int)).bind fun t217 => ((sum_Text.f k1 (rdOf ByteArray.empty t200 x40_1)).bind fun t220 => ((nar_Num.f k1 t217 (wrap64 (t220))).bind fun t221 => (if x9_1.length + t213.size < 140737488355328 then (image_Lay.l0 k1 l0 t201 t221 (x9_1 ++ bytesOf t213) t200 (t200.length : Int) (wrap64 (x40_1 + 1))) else (none))))) = some (r1, r2) := H
              have A17 := Aside0.mk A170
              clear A170
              replace H := Option.bind_eq_some_iff.mp H
              obtain ⟨t217, A180, H⟩ := H
              replace H : ((sum_Text.f k1 (rdOf ByteArray.empty t200 x40_1)).bind fun t220 => ((nar_Num.f k1 t217 (wrap64 (t220))).bind fun t221 => (if x9_1.length + t213.size < 140737488355328 then (image_Lay.l0 k1 l0 t201 t221 (x9_1 ++ bytesOf t213) t200 (t200.length : Int) (wrap64 (x40_1 + 1))) else (none)))) = some (r1, r2) := H
              have A18 := Aside0.mk A180
              clear A180
              replace H := Option.bind_eq_some_iff.mp H
              obtain ⟨t220, A190, H⟩ := H
              replace H : ((nar_Num.f k1 t217 (wrap64 (t220))).bind fun t221 => (if x9_1.length + t213.size < 140737488355328 then (image_Lay.l0 k1 l0 t201 t221 (x9_1 ++ bytesOf t213) t200 (t200.length : Int) (wrap64 (x40_1 + 1))) else (none))) = some (r1, r2) := H
              have A19 := Aside0.mk A190
              clear A190
              replace H := Option.bind_eq_some_iff.mp H
              obtain ⟨t221, A200, H⟩ := H
              replace H : (if x9_1.length + t213.size < 140737488355328 then (image_Lay.l0 k1 l0 t201 t221 (x9_1 ++ bytesOf t213) t200 (t200.length : Int) (wrap64 (x40_1 + 1))) else (none)) = some (r1, r2) := H
              have A20 := Aside0.mk A200
              clear A200
              by_cases c21 : x9_1.length + t213.size < 140737488355328
              · rw [if_pos c21] at H
                have LMc21 := Aside0.mk c21
                clear c21
                obtain ⟨y224, hy224⟩ : ∃ y_ : List Int, y_ = (x9_1 ++ bytesOf t213) := ⟨_, rfl⟩
                replace H : (image_Lay.l0 k1 l0 t201 t221 y224 t200 (t200.length : Int) (wrap64 (x40_1 + 1))) = some (r1, r2) := by first | (rw [hy224]; with_reducible exact H) | (have H2_ := (Option.bind_some _ _).symm.trans H; rw [hy224]; with_reducible exact H2_) | (have H2_ := (Option.bind_some _ _).symm.trans H; with_reducible exact H2_) | with_reducible exact H | (rw [hy224]; exact H) | exact H
                have Ny224 := Aside0.mk hy224
                clear hy224
                have H' := Aside0.mk H
                clear H
                have p212 : 0 ≤ (x40_1 : Int) := of_decide_eq_true (by first | (with_reducible assumption) | assumption)
                have q212 : x40_1 < (t200.length : Int) := of_decide_eq_true (by first | (with_reducible assumption) | assumption)
                obtain ⟨ad212, e212, hx212_0⟩ := Kd.at_string (Kd.R_reads' HO_38.out).2.2 x40_1 p212 q212
                cases e212
                replace p212 := eq_true p212
                replace q212 := eq_true q212
                go_wp2_with (first | ((with_reducible refine gate_callee (f := 28) rfl ?_); refine goesL_ (some 45) rfl rfl Tryd.func28 (by kernel_rfl) rfl #[.string (rdOf ByteArray.empty t200 x40_1)] rfl (by (try simp only [List.map_toArray, List.map_cons, List.map_nil]); first | done | rfl | (simp only [List.length_drop, List.length_take]; rfl)) ?_; (with_reducible refine (lz_Pack.calls k1 (rdOf ByteArray.empty t200 x40_1) t213 _ A16.out).mono ?_); rintro e w22 ⟨rfl, hb⟩; refine ⟨_, rfl, ?_⟩; have nW_ := Aside0.mk (blk_next BKW.out hb); clear BKW; have BKW := nW_; clear nW_; have n0_ := Aside0.mk (Kd.S_below (by (with_reducible repeat (first | apply Kd.S_alloc | apply Kd.S_drewN | apply Kd.S_drew)); exact HO_5.out) hb); have n1_ := Aside0.mk (Kd.R_below (by (with_reducible repeat (first | apply Kd.R_alloc | apply Kd.R_drewN | apply Kd.R_drew)); exact HO_6.out) hb); have n2_ := Aside0.mk (Kd.R_below (by (with_reducible repeat (first | apply Kd.R_alloc | apply Kd.R_drewN | apply Kd.R_drew)); exact HO_9.out) hb); have n3_ := Aside0.mk (Kd.R_below (by (with_reducible repeat (first | apply Kd.R_alloc | apply Kd.R_drewN | apply Kd.R_drew)); exact HO_38.out) hb); have n4_ := Aside0.mk (below_step (by repeat (first | (with_reducible first | exact HB.out | apply below_alloc | apply pw_below_drewN | apply below_drew1) | exact HB.out)) hb); clear HO_5; clear HO_6; clear HO_9; clear HO_38; clear HB; have HO_5 := n0_; have HO_6 := n1_; have HO_9 := n2_; have HO_38 := n3_; have HB := n4_; clear n0_ n1_ n2_ n3_ n4_; (try clear hb); (try clear hb2); (try clear hk); (try clear hi); obtain ⟨Ao23, co23, eo23⟩ := Kd.R_slice HO_6.out; subst eo23) | ((with_reducible refine gate_dst (N := 49) rfl ?_); refine goesB_ (some 49) rfl rfl #[.pointer (some ⟨gW_, 0, none⟩)] rfl rfl Tryd.func24 (by kernel_rfl) rfl #[.pointer (some ⟨gW_, 0, none⟩), .int .i64 ((rdOf ByteArray.empty t200 x40_1).size : Int)] (by first | rfl | (simp; done) | (simp; rfl)) ?_; (with_reducible refine (image_writer_num.calls k1 gW_ Ao23 co23 x6_1 ((rdOf ByteArray.empty t200 x40_1).size : Int) t214 _ ?sideW ?side1 ?side2 A17.out).mono ?_); (case sideW => exact (by (with_reducible repeat (first | refine blk_drewN ?_ _ | refine blk_drew ?_ | refine blk_alloc ?_ _ | refine blk_far ?_ NEW.out _)); exact BKW.out)); (case side1 => repeat (first | exact (Kd.R_reads' HO_6.out).2.2 | (with_reducible refine Kd.C_alloc ?_ _) | (with_reducible refine Kd.C_drewN ?_ _) | (with_reducible refine Kd.C_drew ?_))); (case side2 => exact (Kd.R_reads' HO_6.out).2.1); rintro e w24 ⟨v215, w24p, rfl, ho0, hb, hS_⟩; refine ⟨_, rfl, ?_⟩; have NW_ := Aside0.mk (blk_next BKW.out hb); clear BKW; have n0_ := Aside0.mk (Kd.S_below (by (with_reducible repeat (first | apply Kd.S_alloc | apply Kd.S_drewN | apply Kd.S_drew)); exact HO_5.out) hb); have n1_ := Aside0.mk (Kd.R_elder' (by (with_reducible repeat (first | apply Kd.R_alloc | apply Kd.R_drewN | apply Kd.R_drew)); exact HO_6.out) (Kd.R_base ho0) hb); have n2_ := Aside0.mk (Kd.R_elder' (by (with_reducible repeat (first | apply Kd.R_alloc | apply Kd.R_drewN | apply Kd.R_drew)); exact HO_9.out) (Kd.R_base ho0) hb); have n3_ := Aside0.mk (Kd.R_below (by (with_reducible repeat (first | apply Kd.R_alloc | apply Kd.R_drewN | apply Kd.R_drew)); exact HO_38.out) hb); have n4_ := Aside0.mk (Kd.R_lower (Kd.R_new' (Kd.R_new' ho0 (Kd.R_lt (by (with_reducible repeat (first | apply Kd.R_alloc | apply Kd.R_drewN | apply Kd.R_drew)); exact HO_6.out))) (Kd.R_lt (by (with_reducible repeat (first | apply Kd.R_alloc | apply Kd.R_drewN | apply Kd.R_drew)); exact HO_9.out))) (below_size (by repeat (first | (with_reducible first | exact HB.out | apply below_alloc | apply pw_below_drewN | apply below_drew1) | exact HB.out)))); have n5_ := Aside0.mk (below_step (by repeat (first | (with_reducible first | exact HB.out | apply below_alloc | apply pw_below_drewN | apply below_drew1) | exact HB.out)) hb); clear HO_5; clear HO_6; clear HO_9; clear HO_38; clear HB; have HO_5 := n0_; have HO_6 := n1_; have HO_9 := n2_; have HO_38 := n3_; have HO216 := n4_; have HB := n5_; clear n0_ n1_ n2_ n3_ n4_ n5_; (try clear hb); (try clear hb2); (try clear hk); (try clear hi); (try clear ho0); (try (have n_ := Aside0.mk (putS HO_5.out NW_.out (by decide) hS_); clear HO_5; have HO_5 := n_; clear n_)); (try (have n_ := Aside0.mk (putR HO_6.out NW_.out (by decide) hS_); clear HO_6; have HO_6 := n_; clear n_)); (try (have n_ := Aside0.mk (putR HO_9.out NW_.out (by decide) hS_); clear HO_9; have HO_9 := n_; clear n_)); (try (have n_ := Aside0.mk (putR HO_38.out NW_.out (by decide) hS_); clear HO_38; have HO_38 := n_; clear n_)); (try (have n_ := Aside0.mk (putR HO216.out NW_.out (by decide) hS_); clear HO216; have HO216 := n_; clear n_)); (try (have n_ := Aside0.mk (putHB HB.out GEW.out hS_); clear HB; have HB := n_; clear n_)); have BKW := Aside0.mk (putW NW_.out hS_); clear NW_ hS_; obtain ⟨Ao25, co25, eo25⟩ := Kd.R_slice HO216.out; subst eo25) | ((with_reducible refine gate_dst (N := 53) rfl ?_); refine goesB_ (some 53) rfl rfl #[.pointer (some ⟨gW_, 0, none⟩)] rfl rfl Tryd.func24 (by kernel_rfl) rfl #[.pointer (some ⟨gW_, 0, none⟩), .int .i64 (t213.size : Int)] (by first | rfl | (simp; done) | (simp; rfl)) ?_; (with_reducible refine (image_writer_num.calls k1 gW_ Ao25 co25 t214 (t213.size : Int) t217 _ ?sideW ?side1 ?side2 A18.out).mono ?_); (case sideW => exact (by (with_reducible repeat (first | refine blk_drewN ?_ _ | refine blk_drew ?_ | refine blk_alloc ?_ _ | refine blk_far ?_ NEW.out _)); exact BKW.out)); (case side1 => repeat (first | exact (Kd.R_reads' HO216.out).2.2 | (with_reducible refine Kd.C_alloc ?_ _) | (with_reducible refine Kd.C_drewN ?_ _) | (with_reducible refine Kd.C_drew ?_))); (case side2 => exact (Kd.R_reads' HO216.out).2.1); rintro e w26 ⟨v218, w26p, rfl, ho0, hb, hS_⟩; refine ⟨_, rfl, ?_⟩; have NW_ := Aside0.mk (blk_next BKW.out hb); clear BKW; have n0_ := Aside0.mk (Kd.S_below (by (with_reducible repeat (first | apply Kd.S_alloc | apply Kd.S_drewN | apply Kd.S_drew)); exact HO_5.out) hb); have n1_ := Aside0.mk (Kd.R_elder' (by (with_reducible repeat (first | apply Kd.R_alloc | apply Kd.R_drewN | apply Kd.R_drew)); exact HO_6.out) (Kd.R_base ho0) hb); have n2_ := Aside0.mk (Kd.R_elder' (by (with_reducible repeat (first | apply Kd.R_alloc | apply Kd.R_drewN | apply Kd.R_drew)); exact HO_9.out) (Kd.R_base ho0) hb); have n3_ := Aside0.mk (Kd.R_below (by (with_reducible repeat (first | apply Kd.R_alloc | apply Kd.R_drewN | apply Kd.R_drew)); exact HO_38.out) hb); have n4_ := Aside0.mk (Kd.R_elder' (by (with_reducible repeat (first | apply Kd.R_alloc | apply Kd.R_drewN | apply Kd.R_drew)); exact HO216.out) (Kd.R_base ho0) hb); have n5_ := Aside0.mk (Kd.R_lower (Kd.R_new' (Kd.R_new' (Kd.R_new' ho0 (Kd.R_lt (by (with_reducible repeat (first | apply Kd.R_alloc | apply Kd.R_drewN | apply Kd.R_drew)); exact HO_6.out))) (Kd.R_lt (by (with_reducible repeat (first | apply Kd.R_alloc | apply Kd.R_drewN | apply Kd.R_drew)); exact HO_9.out))) (Kd.R_lt (by (with_reducible repeat (first | apply Kd.R_alloc | apply Kd.R_drewN | apply Kd.R_drew)); exact HO216.out))) (below_size (by repeat (first | (with_reducible first | exact HB.out | apply below_alloc | apply pw_below_drewN | apply below_drew1) | exact HB.out)))); have n6_ := Aside0.mk (below_step (by repeat (first | (with_reducible first | exact HB.out | apply below_alloc | apply pw_below_drewN | apply below_drew1) | exact HB.out)) hb); clear HO_5; clear HO_6; clear HO_9; clear HO_38; clear HO216; clear HB; have HO_5 := n0_; have HO_6 := n1_; have HO_9 := n2_; have HO_38 := n3_; have HO216 := n4_; have HO219 := n5_; have HB := n6_; clear n0_ n1_ n2_ n3_ n4_ n5_ n6_; (try clear hb); (try clear hb2); (try clear hk); (try clear hi); (try clear ho0); (try (have n_ := Aside0.mk (putS HO_5.out NW_.out (by decide) hS_); clear HO_5; have HO_5 := n_; clear n_)); (try (have n_ := Aside0.mk (putR HO_6.out NW_.out (by decide) hS_); clear HO_6; have HO_6 := n_; clear n_)); (try (have n_ := Aside0.mk (putR HO_9.out NW_.out (by decide) hS_); clear HO_9; have HO_9 := n_; clear n_)); (try (have n_ := Aside0.mk (putR HO_38.out NW_.out (by decide) hS_); clear HO_38; have HO_38 := n_; clear n_)); (try (have n_ := Aside0.mk (putR HO216.out NW_.out (by decide) hS_); clear HO216; have HO216 := n_; clear n_)); (try (have n_ := Aside0.mk (putR HO219.out NW_.out (by decide) hS_); clear HO219; have HO219 := n_; clear n_)); (try (have n_ := Aside0.mk (putHB HB.out GEW.out hS_); clear HB; have HB := n_; clear n_)); have BKW := Aside0.mk (putW NW_.out hS_); clear NW_ hS_) | ((with_reducible refine gate_dst (N := 56) rfl ?_); refine text_bytes rfl (.tmp 55) rfl (s := (rdOf ByteArray.empty t200 x40_1)) rfl Tryd.underlying9 Tryd.underlying26 Tryd.underlying5 (sum_Text.lim A19.out) ?_; intro gS_ cS_ wS_ hCS_ hcS_ hb; (try (have n_ := Aside0.mk (Kd.S_below (by (with_reducible repeat (first | apply Kd.S_alloc | apply Kd.S_drewN | apply Kd.S_drew)); exact HO_5.out) hb); clear HO_5; have HO_5 := n_; clear n_)); (try (have n_ := Aside0.mk (Kd.R_below (by (with_reducible repeat (first | apply Kd.R_alloc | apply Kd.R_drewN | apply Kd.R_drew)); exact HO_6.out) hb); clear HO_6; have HO_6 := n_; clear n_)); (try (have n_ := Aside0.mk (Kd.R_below (by (with_reducible repeat (first | apply Kd.R_alloc | apply Kd.R_drewN | apply Kd.R_drew)); exact HO_9.out) hb); clear HO_9; have HO_9 := n_; clear n_)); (try (have n_ := Aside0.mk (Kd.R_below (by (with_reducible repeat (first | apply Kd.R_alloc | apply Kd.R_drewN | apply Kd.R_drew)); exact HO_38.out) hb); clear HO_38; have HO_38 := n_; clear n_)); (try (have n_ := Aside0.mk (Kd.R_below (by (with_reducible repeat (first | apply Kd.R_alloc | apply Kd.R_drewN | apply Kd.R_drew)); exact HO216.out) hb); clear HO216; have HO216 := n_; clear n_)); (try (have n_ := Aside0.mk (Kd.R_below (by (with_reducible repeat (first | apply Kd.R_alloc | apply Kd.R_drewN | apply Kd.R_drew)); exact HO219.out) hb); clear HO219; have HO219 := n_; clear n_)); (try (have n_ := Aside0.mk (below_step (by repeat (first | (with_reducible first | exact HB.out | apply below_alloc | apply pw_below_drewN | apply below_drew1) | exact HB.out)) hb); clear HB; have HB := n_; clear n_)); (try (have n_ := Aside0.mk (blk_next BKW.out hb); clear BKW; have BKW := n_; clear n_)); have HCS := Aside0.mk hCS_; have HCc := Aside0.mk hcS_; clear hCS_ hcS_ hb) | ((with_reducible refine gate_dst (N := 57) rfl ?_); refine lent_lit HCS.out HCc.out 26 ?hg (N := 57) ?hd ?hr ?_; (case hd => rfl); (case hg => rfl); (case hr => first | (go_simp; done) | (go_simp; rfl)); intro vL_ wL_ ho_ hb; obtain ⟨AL_, cL_, eL_⟩ := Kd.R_slice ho_; subst eL_; have HVL := Aside0.mk ho_; have HWL := lent_step ho_ (below_step (by repeat (first | exact Below.refl _ _ | apply below_alloc | apply pw_below_drewN | apply below_drew1)) hb); (try (have n_ := Aside0.mk (Kd.S_below (by (with_reducible repeat (first | apply Kd.S_alloc | apply Kd.S_drewN | apply Kd.S_drew)); exact HO_5.out) hb); clear HO_5; have HO_5 := n_; clear n_)); (try (have n_ := Aside0.mk (Kd.R_below (by (with_reducible repeat (first | apply Kd.R_alloc | apply Kd.R_drewN | apply Kd.R_drew)); exact HO_6.out) hb); clear HO_6; have HO_6 := n_; clear n_)); (try (have n_ := Aside0.mk (Kd.R_below (by (with_reducible repeat (first | apply Kd.R_alloc | apply Kd.R_drewN | apply Kd.R_drew)); exact HO_9.out) hb); clear HO_9; have HO_9 := n_; clear n_)); (try (have n_ := Aside0.mk (Kd.R_below (by (with_reducible repeat (first | apply Kd.R_alloc | apply Kd.R_drewN | apply Kd.R_drew)); exact HO_38.out) hb); clear HO_38; have HO_38 := n_; clear n_)); (try (have n_ := Aside0.mk (Kd.R_below (by (with_reducible repeat (first | apply Kd.R_alloc | apply Kd.R_drewN | apply Kd.R_drew)); exact HO216.out) hb); clear HO216; have HO216 := n_; clear n_)); (try (have n_ := Aside0.mk (Kd.R_below (by (with_reducible repeat (first | apply Kd.R_alloc | apply Kd.R_drewN | apply Kd.R_drew)); exact HO219.out) hb); clear HO219; have HO219 := n_; clear n_)); (try (have n_ := Aside0.mk (below_step (by repeat (first | (with_reducible first | exact HB.out | apply below_alloc | apply pw_below_drewN | apply below_drew1) | exact HB.out)) hb); clear HB; have HB := n_; clear n_)); (try (have n_ := Aside0.mk (blk_next BKW.out hb); clear BKW; have BKW := n_; clear n_)); clear ho_ hb) | ((with_reducible refine gate_callee (f := 29) rfl ?_); refine goesL_ (some 58) rfl rfl Tryd.func29 (by kernel_rfl) rfl #[.slice AL_ [bytesOf (rdOf ByteArray.empty t200 x40_1)].length cL_] rfl (by (try simp only [List.map_toArray, List.map_cons, List.map_nil]); first | done | rfl | (simp only [List.length_drop, List.length_take]; rfl)) ?_; (with_reducible refine (sum_Text.calls k1 HVL.out AL_ cL_ t220 _ ?sideB ?sideR ?sideC A19.out).mono ?_); (case sideB => repeat (first | exact HWL.out | apply below_alloc | apply pw_below_drewN | apply below_drew1)); (case sideR => repeat (first | exact (Kd.R_reads' HVL.out).2.2 | (with_reducible refine Kd.C_alloc ?_ _) | (with_reducible refine Kd.C_drewN ?_ _) | (with_reducible refine Kd.C_drew ?_))); (case sideC => exact (Kd.R_reads' HVL.out).2.1); rintro e _ ⟨rfl, ⟨nd, rfl⟩⟩; refine ⟨_, rfl, ?_⟩; clear HCS HCc HVL HWL; obtain ⟨Ao28, co28, eo28⟩ := Kd.R_slice HO219.out; subst eo28) | ((with_reducible refine gate_dst (N := 60) rfl ?_); refine goesB_ (some 60) rfl rfl #[.pointer (some ⟨gW_, 0, none⟩)] rfl rfl Tryd.func24 (by kernel_rfl) rfl #[.pointer (some ⟨gW_, 0, none⟩), .int .i64 (wrap64 (t220))] (by first | rfl | (simp; done) | (simp; rfl)) ?_; (with_reducible refine (image_writer_num.calls k1 gW_ Ao28 co28 t217 (wrap64 (t220)) t221 _ ?sideW ?side1 ?side2 A20.out).mono ?_); (case sideW => exact (by (with_reducible repeat (first | refine blk_drewN ?_ _ | refine blk_drew ?_ | refine blk_alloc ?_ _ | refine blk_far ?_ NEW.out _)); exact BKW.out)); (case side1 => repeat (first | exact (Kd.R_reads' HO219.out).2.2 | (with_reducible refine Kd.C_alloc ?_ _) | (with_reducible refine Kd.C_drewN ?_ _) | (with_reducible refine Kd.C_drew ?_))); (case side2 => exact (Kd.R_reads' HO219.out).2.1); rintro e w29 ⟨v222, w29p, rfl, ho0, hb, hS_⟩; refine ⟨_, rfl, ?_⟩; have NW_ := Aside0.mk (blk_next BKW.out hb); clear BKW; have n0_ := Aside0.mk (Kd.S_below (by (with_reducible repeat (first | apply Kd.S_alloc | apply Kd.S_drewN | apply Kd.S_drew)); exact HO_5.out) hb); have n1_ := Aside0.mk (Kd.R_elder' (by (with_reducible repeat (first | apply Kd.R_alloc | apply Kd.R_drewN | apply Kd.R_drew)); exact HO_6.out) (Kd.R_base ho0) hb); have n2_ := Aside0.mk (Kd.R_elder' (by (with_reducible repeat (first | apply Kd.R_alloc | apply Kd.R_drewN | apply Kd.R_drew)); exact HO_9.out) (Kd.R_base ho0) hb); have n3_ := Aside0.mk (Kd.R_below (by (with_reducible repeat (first | apply Kd.R_alloc | apply Kd.R_drewN | apply Kd.R_drew)); exact HO_38.out) hb); have n4_ := Aside0.mk (Kd.R_elder' (by (with_reducible repeat (first | apply Kd.R_alloc | apply Kd.R_drewN | apply Kd.R_drew)); exact HO216.out) (Kd.R_base ho0) hb); have n5_ := Aside0.mk (Kd.R_elder' (by (with_reducible repeat (first | apply Kd.R_alloc | apply Kd.R_drewN | apply Kd.R_drew)); exact HO219.out) (Kd.R_base ho0) hb); have n6_ := Aside0.mk (Kd.R_lower (Kd.R_new' (Kd.R_new' (Kd.R_new' (Kd.R_new' ho0 (Kd.R_lt (by (with_reducible repeat (first | apply Kd.R_alloc | apply Kd.R_drewN | apply Kd.R_drew)); exact HO_6.out))) (Kd.R_lt (by (with_reducible repeat (first | apply Kd.R_alloc | apply Kd.R_drewN | apply Kd.R_drew)); exact HO_9.out))) (Kd.R_lt (by (with_reducible repeat (first | apply Kd.R_alloc | apply Kd.R_drewN | apply Kd.R_drew)); exact HO216.out))) (Kd.R_lt (by (with_reducible repeat (first | apply Kd.R_alloc | apply Kd.R_drewN | apply Kd.R_drew)); exact HO219.out))) (below_size (by repeat (first | (with_reducible first | exact HB.out | apply below_alloc | apply pw_below_drewN | apply below_drew1) | exact HB.out)))); have n7_ := Aside0.mk (below_step (by repeat (first | (with_reducible first | exact HB.out | apply below_alloc | apply pw_below_drewN | apply below_drew1) | exact HB.out)) hb); clear HO_5; clear HO_6; clear HO_9; clear HO_38; clear HO216; clear HO219; clear HB; have HO_5 := n0_; have HO_6 := n1_; have HO_9 := n2_; have HO_38 := n3_; have HO216 := n4_; have HO219 := n5_; have HO223 := n6_; have HB := n7_; clear n0_ n1_ n2_ n3_ n4_ n5_ n6_ n7_; (try clear hb); (try clear hb2); (try clear hk); (try clear hi); (try clear ho0); (try (have n_ := Aside0.mk (putS HO_5.out NW_.out (by decide) hS_); clear HO_5; have HO_5 := n_; clear n_)); (try (have n_ := Aside0.mk (putR HO_6.out NW_.out (by decide) hS_); clear HO_6; have HO_6 := n_; clear n_)); (try (have n_ := Aside0.mk (putR HO_9.out NW_.out (by decide) hS_); clear HO_9; have HO_9 := n_; clear n_)); (try (have n_ := Aside0.mk (putR HO_38.out NW_.out (by decide) hS_); clear HO_38; have HO_38 := n_; clear n_)); (try (have n_ := Aside0.mk (putR HO216.out NW_.out (by decide) hS_); clear HO216; have HO216 := n_; clear n_)); (try (have n_ := Aside0.mk (putR HO219.out NW_.out (by decide) hS_); clear HO219; have HO219 := n_; clear n_)); (try (have n_ := Aside0.mk (putR HO223.out NW_.out (by decide) hS_); clear HO223; have HO223 := n_; clear n_)); (try (have n_ := Aside0.mk (putHB HB.out GEW.out hS_); clear HB; have HB := n_; clear n_)); have BKW := Aside0.mk (putW NW_.out hS_); clear NW_ hS_) | (at_builtin; refine Kd.R_append_str (w0 := w) w.heap.size rfl (.tmp 61) _ 26 9 5 rfl Tryd.underlying26 Tryd.underlying9 info5 u9 x9_1 t213 (fun k_ => some k_ ≠ (.slice Ao23 x6_1.length co23 : Value).ownBlock ∧ some k_ ≠ (.slice Ao25 t214.length co25 : Value).ownBlock ∧ some k_ ≠ (.slice Ao28 t217.length co28 : Value).ownBlock ∧ some k_ ≠ (v222 : Value).ownBlock) rfl rfl ?aF ?aO ?aB ?aS ?aL ?_; (case aB => exact (by repeat (first | (with_reducible first | exact HB.out | apply below_alloc | apply pw_below_drewN | apply below_drew1) | exact HB.out))); (case aF => exact (fun k_ hk => ⟨Kd.fresh' (Kd.R_lt (by (with_reducible repeat (first | apply Kd.R_alloc | apply Kd.R_drewN | apply Kd.R_drew)); exact HO_6.out)) k_ hk, Kd.fresh' (Kd.R_lt (by (with_reducible repeat (first | apply Kd.R_alloc | apply Kd.R_drewN | apply Kd.R_drew)); exact HO216.out)) k_ hk, Kd.fresh' (Kd.R_lt (by (with_reducible repeat (first | apply Kd.R_alloc | apply Kd.R_drewN | apply Kd.R_drew)); exact HO219.out)) k_ hk, Kd.fresh' (Kd.R_lt (by (with_reducible repeat (first | apply Kd.R_alloc | apply Kd.R_drewN | apply Kd.R_drew)); exact HO223.out)) k_ hk⟩)); (case aO => exact (by (with_reducible repeat (first | apply Kd.R_alloc | apply Kd.R_drewN | apply Kd.R_drew)); exact Kd.R_mono HO_9.out (fun _ hk => ⟨hk.1.1.1, ⟨hk.1.1.2, ⟨hk.1.2, hk.2⟩⟩⟩))); (case aS => exact (below_size (by repeat (first | (with_reducible first | exact HB.out | apply below_alloc | apply pw_below_drewN | apply below_drew1) | exact HB.out)))); (case aL => have := LMc21.out; omega); intro v225 w30 ho hb hg hat; have nW_ := Aside0.mk (blk_nextR BKW.out HO_9.out hg (by decide)); clear BKW; have BKW := nW_; clear nW_; rw [← Ny224.out] at ho; have n0_ := Aside0.mk (Kd.S_over' (by (with_reducible repeat (first | apply Kd.S_alloc | apply Kd.S_drewN | apply Kd.S_drew)); exact HO_5.out) (Kd.R_typed (by (with_reducible repeat (first | apply Kd.R_alloc | apply Kd.R_drewN | apply Kd.R_drew)); exact HO_9.out)) (by decide) hg); have n1_ := Aside0.mk (Kd.R_after (ok := (fun k_ => some k_ ≠ (.slice Ao25 t214.length co25 : Value).ownBlock ∧ some k_ ≠ (.slice Ao28 t217.length co28 : Value).ownBlock ∧ some k_ ≠ (v222 : Value).ownBlock)) (by (with_reducible repeat (first | apply Kd.R_alloc | apply Kd.R_drewN | apply Kd.R_drew)); exact Kd.R_mono HO_6.out (fun _ hk => ⟨⟨hk.1.1.2, ⟨hk.1.2, hk.2⟩⟩, hk.1.1.1⟩)) hg hat); have n2_ := Aside0.mk (Kd.R_over' (by (with_reducible repeat (first | apply Kd.R_alloc | apply Kd.R_drewN | apply Kd.R_drew)); exact HO_38.out) (Kd.R_typed (by (with_reducible repeat (first | apply Kd.R_alloc | apply Kd.R_drewN | apply Kd.R_drew)); exact HO_9.out)) (by decide) hg); have n3_ := Aside0.mk (Kd.R_after (ok := (fun k_ => some k_ ≠ (.slice Ao23 x6_1.length co23 : Value).ownBlock ∧ some k_ ≠ (.slice Ao28 t217.length co28 : Value).ownBlock ∧ some k_ ≠ (v222 : Value).ownBlock)) (by (with_reducible repeat (first | apply Kd.R_alloc | apply Kd.R_drewN | apply Kd.R_drew)); exact Kd.R_mono HO216.out (fun _ hk => ⟨⟨hk.1.1.1.2, ⟨hk.1.2, hk.2⟩⟩, hk.1.1.2⟩)) hg hat); have n4_ := Aside0.mk (Kd.R_after (ok := (fun k_ => some k_ ≠ (.slice Ao23 x6_1.length co23 : Value).ownBlock ∧ some k_ ≠ (.slice Ao25 t214.length co25 : Value).ownBlock ∧ some k_ ≠ (v222 : Value).ownBlock)) (by (with_reducible repeat (first | apply Kd.R_alloc | apply Kd.R_drewN | apply Kd.R_drew)); exact Kd.R_mono HO219.out (fun _ hk => ⟨⟨hk.1.1.1.2, ⟨hk.1.2, hk.2⟩⟩, hk.1.1.2⟩)) hg hat); have n5_ := Aside0.mk (Kd.R_after (ok := (fun k_ => some k_ ≠ (.slice Ao23 x6_1.length co23 : Value).ownBlock ∧ some k_ ≠ (.slice Ao25 t214.length co25 : Value).ownBlock ∧ some k_ ≠ (.slice Ao28 t217.length co28 : Value).ownBlock)) (by (with_reducible repeat (first | apply Kd.R_alloc | apply Kd.R_drewN | apply Kd.R_drew)); exact Kd.R_mono HO223.out (fun _ hk => ⟨⟨hk.1.1.1.2, ⟨hk.1.2, hk.2⟩⟩, hk.1.1.2⟩)) hg hat); have n6_ := Aside0.mk (hb); have n7_ := Aside0.mk (ho); clear HO_5; clear HO_6; clear HO_38; clear HO216; clear HO219; clear HO223; clear HB; clear HO_9; have HO_5 := n0_; have HO_6 := n1_; have HO_38 := n2_; have HO216 := n3_; have HO219 := n4_; have HO223 := n5_; have HB := n6_; have HO226 := n7_; clear n0_ n1_ n2_ n3_ n4_ n5_ n6_ n7_; clear ho hb hg hat))
                go_roundg k1
                case measure => have := HK1.out; omega
                case rel => exact ⟨_, (t221), (y224), (wrap64 (x40_1 + 1)), (by first | rfl | (simp; done) | (simp [*]; done)), H', ⟨by have := HK1.out; omega⟩, ⟨by (with_reducible repeat (first | apply Kd.S_alloc | apply Kd.S_drewN | apply Kd.S_drew)); exact HO_5.out⟩, ⟨by (with_reducible repeat (first | apply Kd.R_alloc | apply Kd.R_drewN | apply Kd.R_drew)); exact Kd.R_mono HO223.out (fun _ hk => hk.2)⟩, ⟨by (with_reducible repeat (first | apply Kd.R_alloc | apply Kd.R_drewN | apply Kd.R_drew)); exact Kd.R_mono HO226.out (fun _ hk => hk.2.2.2)⟩, ⟨by (with_reducible repeat (first | apply Kd.R_alloc | apply Kd.R_drewN | apply Kd.R_drew)); exact HO_38.out⟩, ⟨by repeat (first | (with_reducible first | exact HB.out | apply below_alloc | apply pw_below_drewN | apply below_drew1) | exact HB.out)⟩, ⟨by (with_reducible repeat (first | refine blk_drewN ?_ _ | refine blk_drew ?_ | refine blk_alloc ?_ _ | refine blk_far ?_ NEW.out _)); exact BKW.out⟩⟩
              · rw [if_neg c21] at H
                exact absurd H (by simp)
            · rw [if_neg c15] at H
              exact absurd H (by simp)
          · rw [if_neg c14] at H
            exact absurd H (by simp)
        · rw [if_neg c13] at H
          have c13b0 : decide (x40_1 < (t200.length : Int)) = false := decide_eq_false c13
          clear c13
          replace H := Option.bind_eq_some_iff.mp H
          obtain ⟨t227, A310, H⟩ := H
          replace H : (image_Lay.l1 k1 t201 t227 x9_1 l0 (l0.length : Int) 0) = some (r1, r2) := H
          have A31 := Aside0.mk A310
          clear A310
          have H' := Aside0.mk H
          clear H
          obtain ⟨Ao32, co32, eo32⟩ := Kd.R_slice HO_6.out
          subst eo32
          go_wp2_with (first | ((with_reducible refine gate_dst (N := 68) rfl ?_); refine goesB_ (some 68) rfl rfl #[.pointer (some ⟨gW_, 0, none⟩)] rfl rfl Tryd.func24 (by kernel_rfl) rfl #[.pointer (some ⟨gW_, 0, none⟩), .int .i64 (l0.length : Int)] (by first | rfl | (simp; done) | (simp; rfl)) ?_; (with_reducible refine (image_writer_num.calls k1 gW_ Ao32 co32 x6_1 (l0.length : Int) t227 _ ?sideW ?side1 ?side2 A31.out).mono ?_); (case sideW => exact (by (with_reducible repeat (first | refine blk_drewN ?_ _ | refine blk_drew ?_ | refine blk_alloc ?_ _ | refine blk_far ?_ NEW.out _)); exact BKW.out)); (case side1 => repeat (first | exact (Kd.R_reads' HO_6.out).2.2 | (with_reducible refine Kd.C_alloc ?_ _) | (with_reducible refine Kd.C_drewN ?_ _) | (with_reducible refine Kd.C_drew ?_))); (case side2 => exact (Kd.R_reads' HO_6.out).2.1); rintro e w33 ⟨v228, w33p, rfl, ho0, hb, hS_⟩; refine ⟨_, rfl, ?_⟩; have NW_ := Aside0.mk (blk_next BKW.out hb); clear BKW; have n0_ := Aside0.mk (Kd.S_below (by (with_reducible repeat (first | apply Kd.S_alloc | apply Kd.S_drewN | apply Kd.S_drew)); exact HO_5.out) hb); have n1_ := Aside0.mk (Kd.R_elder' (by (with_reducible repeat (first | apply Kd.R_alloc | apply Kd.R_drewN | apply Kd.R_drew)); exact HO_6.out) (Kd.R_base ho0) hb); have n2_ := Aside0.mk (Kd.R_elder' (by (with_reducible repeat (first | apply Kd.R_alloc | apply Kd.R_drewN | apply Kd.R_drew)); exact HO_9.out) (Kd.R_base ho0) hb); have n3_ := Aside0.mk (Kd.R_below (by (with_reducible repeat (first | apply Kd.R_alloc | apply Kd.R_drewN | apply Kd.R_drew)); exact HO_38.out) hb); have n4_ := Aside0.mk (Kd.R_lower (Kd.R_new' (Kd.R_new' ho0 (Kd.R_lt (by (with_reducible repeat (first | apply Kd.R_alloc | apply Kd.R_drewN | apply Kd.R_drew)); exact HO_6.out))) (Kd.R_lt (by (with_reducible repeat (first | apply Kd.R_alloc | apply Kd.R_drewN | apply Kd.R_drew)); exact HO_9.out))) (below_size (by repeat (first | (with_reducible first | exact HB.out | apply below_alloc | apply pw_below_drewN | apply below_drew1) | exact HB.out)))); have n5_ := Aside0.mk (below_step (by repeat (first | (with_reducible first | exact HB.out | apply below_alloc | apply pw_below_drewN | apply below_drew1) | exact HB.out)) hb); clear HO_5; clear HO_6; clear HO_9; clear HO_38; clear HB; have HO_5 := n0_; have HO_6 := n1_; have HO_9 := n2_; have HO_38 := n3_; have HO229 := n4_; have HB := n5_; clear n0_ n1_ n2_ n3_ n4_ n5_; (try clear hb); (try clear hb2); (try clear hk); (try clear hi); (try clear ho0); (try (have n_ := Aside0.mk (putS HO_5.out NW_.out (by decide) hS_); clear HO_5; have HO_5 := n_; clear n_)); (try (have n_ := Aside0.mk (putR HO_6.out NW_.out (by decide) hS_); clear HO_6; have HO_6 := n_; clear n_)); (try (have n_ := Aside0.mk (putR HO_9.out NW_.out (by decide) hS_); clear HO_9; have HO_9 := n_; clear n_)); (try (have n_ := Aside0.mk (putR HO_38.out NW_.out (by decide) hS_); clear HO_38; have HO_38 := n_; clear n_)); (try (have n_ := Aside0.mk (putR HO229.out NW_.out (by decide) hS_); clear HO229; have HO229 := n_; clear n_)); (try (have n_ := Aside0.mk (putHB HB.out GEW.out hS_); clear HB; have HB := n_; clear n_)); have BKW := Aside0.mk (putW NW_.out hS_); clear NW_ hS_))
          go_loopg [71] k1 (fun kq v71 w' => ∃ (v6 : Value) (x6_2 : List Int) (x71_2 : Int), v71 = .int .i64 x71_2 ∧ Aside0 (image_Lay.l1 kq t201 x6_2 x9_1 l0 (l0.length : Int) x71_2 = some (r1, r2)) ∧ Aside0 (kq ≤ k1) ∧ Aside0 (Kd.S (Kd.slice 3 (Kd.int .i64)) 61 w' w.heap.size (fun _ => True) v204 t201) ∧ Aside0 (Kd.R (Kd.int .u8) 5 w' w.heap.size (fun k_ => some k_ ≠ (u9 : Value).ownBlock) v6 x6_2) ∧ Aside0 (Kd.R (Kd.int .u8) 5 w' w.heap.size (fun k_ => some k_ ≠ (v6 : Value).ownBlock) u9 x9_1) ∧ Aside0 (Below w.heap.size w w') ∧ Aside0 (w'.heap[gW_]? = some (.cells #[v6] 53 (0, 0))))
          case atStart => exact ⟨_, (t227), (0), (by first | rfl | (simp; done) | (simp [*]; done)), H', ⟨Nat.le_refl _⟩, ⟨by (with_reducible repeat (first | apply Kd.S_alloc | apply Kd.S_drewN | apply Kd.S_drew)); exact HO_5.out⟩, ⟨by (with_reducible repeat (first | apply Kd.R_alloc | apply Kd.R_drewN | apply Kd.R_drew)); exact Kd.R_mono HO229.out (fun _ hk => hk.2)⟩, ⟨by (with_reducible repeat (first | apply Kd.R_alloc | apply Kd.R_drewN | apply Kd.R_drew)); exact Kd.R_mono HO_9.out (fun _ hk => hk.2)⟩, ⟨by repeat (first | (with_reducible first | exact HB.out | apply below_alloc | apply pw_below_drewN | apply below_drew1) | exact HB.out)⟩, ⟨by (with_reducible repeat (first | refine blk_drewN ?_ _ | refine blk_drew ?_ | refine blk_alloc ?_ _ | refine blk_far ?_ NEW.out _)); exact BKW.out⟩⟩
          case round =>
            clear H'
            try clear c1
            try clear c2
            try clear p2
            try clear q2
            try clear hx2
            try clear c3
            try clear c4
            try clear c5
            try clear p6
            try clear c9
            try clear c13
            try clear c13b0
            try clear c14
            try clear c14b0
            try clear c15
            try clear c15b0
            try clear c19
            try clear c21
            try clear p21
            try clear q21
            try clear hx21
            try clear c23
            try clear c28
            try clear hx212_0
            try clear p2
            try clear p212
            try clear q212
            obtain ⟨u6, x6_2, x71_2, rfl, HA, HK2, HO_5, HO_6, HO_9, HB, BKW⟩ := hrel
            cases gk with
            | zero => exact absurd HA.out (by simp [image_Lay.l1])
            | succ k2 =>
              have H := HA.out
              clear HA
              simp only [image_Lay.l1] at H
              by_cases c34 : x71_2 < (l0.length : Int)
              · rw [if_pos c34] at H
                have c34b0 : decide (x71_2 < (l0.length : Int)) = true := decide_eq_true c34
                clear c34
                by_cases c35 : 0 ≤ x71_2
                · rw [if_pos c35] at H
                  have c35b0 : decide (0 ≤ x71_2) = true := decide_eq_true c35
                  clear c35
                  by_cases c36 : x71_2 < (l0.length : Int)
                  · rw [if_pos c36] at H
                    have c36b0 : decide (x71_2 < (l0.length : Int)) = true := decide_eq_true c36
                    clear c36
                    replace H := Option.bind_eq_some_iff.mp H
                    obtain ⟨t235, A370, H⟩ := H
                    replace H : ((nar_Num.f k2 t235 ((rd_T46 l0 x71_2).f1)).bind fun t238 => ((nar_Num.f k2 t238 (((rd_T46 l0 x71_2).f2).size : Int)).bind fun t241 => (if x71_2 < (t201.length : Int) then ((nar_Num.f k2 t241 ((rd_L10 t201 x71_2).length : Int)).bind fun t245 => (image_Lay.l2 k2 t201 t245 x9_1 l0 (l0.length : Int) x71_2 (rd_L10 t201 x71_2) ((rd_L10 t201 x71_2).length : Int) 0)) else (none)))) = some (r1, r2) := H
                    have A37 := Aside0.mk A370
                    clear A370
                    replace H := Option.bind_eq_some_iff.mp H
                    obtain ⟨t238, A380, H⟩ := H
                    replace H : ((nar_Num.f k2 t238 (((rd_T46 l0 x71_2).f2).size : Int)).bind fun t241 => (if x71_2 < (t201.length : Int) then ((nar_Num.f k2 t241 ((rd_L10 t201 x71_2).length : Int)).bind fun t245 => (image_Lay.l2 k2 t201 t245 x9_1 l0 (l0.length : Int) x71_2 (rd_L10 t201 x71_2) ((rd_L10 t201 x71_2).length : Int) 0)) else (none))) = some (r1, r2) := H
                    have A38 := Aside0.mk A380
                    clear A380
                    replace H := Option.bind_eq_some_iff.mp H
                    obtain ⟨t241, A390, H⟩ := H
                    replace H : (if x71_2 < (t201.length : Int) then ((nar_Num.f k2 t241 ((rd_L10 t201 x71_2).length : Int)).bind fun t245 => (image_Lay.l2 k2 t201 t245 x9_1 l0 (l0.length : Int) x71_2 (rd_L10 t201 x71_2) ((rd_L10 t201 x71_2).length : Int) 0)) else (none)) = some (r1, r2) := H
                    have A39 := Aside0.mk A390
                    clear A390
                    by_cases c40 : x71_2 < (t201.length : Int)
                    · rw [if_pos c40] at H
                      have c40b0 : decide (x71_2 < (t201.length : Int)) = true := decide_eq_true c40
                      clear c40
                      replace H := Option.bind_eq_some_iff.mp H
                      obtain ⟨t245, A410, H⟩ := H
                      replace H : (image_Lay.l2 k2 t201 t245 x9_1 l0 (l0.length : Int) x71_2 (rd_L10 t201 x71_2) ((rd_L10 t201 x71_2).length : Int) 0) = some (r1, r2) := H
                      have A41 := Aside0.mk A410
                      clear A410
                      have H' := Aside0.mk H
                      clear H
                      have p233 : 0 ≤ (x71_2 : Int) := of_decide_eq_true (by first | (with_reducible assumption) | assumption)
                      have q233 : x71_2 < (l0.length : Int) := of_decide_eq_true (by first | (with_reducible assumption) | assumption)
                      obtain ⟨ad233, e233, hx233_0, hx233_1, hx233_2⟩ := at_T46 HR0.out x71_2 p233 q233
                      cases e233
                      replace hx233_0 := (HB.out.cell (World.block_lt_of_cell? w _ hx233_0)).trans hx233_0
                      replace hx233_1 := (HB.out.cell (World.block_lt_of_cell? w _ hx233_1)).trans hx233_1
                      replace hx233_2 := (HB.out.cell (World.block_lt_of_cell? w _ hx233_2)).trans hx233_2
                      replace p233 := eq_true p233
                      replace q233 := eq_true q233
                      go_wp2_with (first | ((with_reducible refine gate_dst (N := 14) rfl ?_); refine box_event ?hg (N := 14) ?hd (cs := #[.string (⟨#[]⟩ : ByteArray), .int .i64 0, .string (⟨#[]⟩ : ByteArray)]) (t := 46) ?hr ?_; (case hd => rfl); (case hg => rfl); (case hr => first | (go_simp; done) | (go_simp; rfl)); intro gb234 hg w42 hbox hb; have NEW := Aside0.mk (ne_next BKW.out hg); have nW_ := Aside0.mk (blk_next BKW.out hb); clear BKW; have BKW := nW_; clear nW_; have n0_ := Aside0.mk (Kd.S_below (by (with_reducible repeat (first | apply Kd.S_alloc | apply Kd.S_drewN | apply Kd.S_drew)); exact HO_5.out) hb); have n1_ := Aside0.mk (Kd.R_below (by (with_reducible repeat (first | apply Kd.R_alloc | apply Kd.R_drewN | apply Kd.R_drew)); exact HO_6.out) hb); have n2_ := Aside0.mk (Kd.R_below (by (with_reducible repeat (first | apply Kd.R_alloc | apply Kd.R_drewN | apply Kd.R_drew)); exact HO_9.out) hb); have n3_ := Aside0.mk (below_step (by repeat (first | (with_reducible first | exact HB.out | apply below_alloc | apply pw_below_drewN | apply below_drew1) | exact HB.out)) hb); have n4_ := Aside0.mk (hbox); have n5_ := Aside0.mk ((by rw [hg]; exact (below_size (by repeat (first | (with_reducible first | exact HB.out | apply below_alloc | apply pw_below_drewN | apply below_drew1) | exact HB.out))) : w.heap.size ≤ gb234)); have n6_ := Aside0.mk ((by rw [hg]; exact (below_size (by repeat (first | (with_reducible first | exact HB.out | apply below_alloc | apply pw_below_drewN | apply below_drew1) | exact HB.out))) : w.heap.size ≤ gb234)); clear HO_5; clear HO_6; clear HO_9; clear HB; have HO_5 := n0_; have HO_6 := n1_; have HO_9 := n2_; have HB := n3_; have BK234 := n4_; have GW234 := n5_; have GE234 := n6_; clear n0_ n1_ n2_ n3_ n4_ n5_ n6_; clear hb hbox hg; have hcz43_0 : w42.cell? ⟨gb234, 0, none⟩ = some (.string (⟨#[]⟩ : ByteArray)) := (blk_cell BK234.out 0).trans rfl; have hcz43_1 : w42.cell? ⟨gb234, 1, none⟩ = some (.int .i64 0) := (blk_cell BK234.out 1).trans rfl; have hcz43_2 : w42.cell? ⟨gb234, 2, none⟩ = some (.string (⟨#[]⟩ : ByteArray)) := (blk_cell BK234.out 2).trans rfl; have hfz43_0 := blk_frozen BK234.out 0; have hfz43_1 := blk_frozen BK234.out 1; have hfz43_2 := blk_frozen BK234.out 2; obtain ⟨Ao44, co44, eo44⟩ := Kd.R_slice HO_6.out; subst eo44) | ((with_reducible refine gate_dst (N := 79) rfl ?_); refine goesB_ (some 79) rfl rfl #[.pointer (some ⟨gW_, 0, none⟩)] rfl rfl Tryd.func25 (by kernel_rfl) rfl #[.pointer (some ⟨gW_, 0, none⟩), .string ((rd_T46 l0 x71_2).f0)] (by first | rfl | (simp; done) | (simp; rfl)) ?_; (with_reducible refine (image_writer_text.calls k2 gW_ Ao44 co44 x6_2 ((rd_T46 l0 x71_2).f0) t235 _ ?sideW ?side1 ?side2 A37.out).mono ?_); (case sideW => exact (by (with_reducible repeat (first | refine blk_drewN ?_ _ | refine blk_drew ?_ | refine blk_alloc ?_ _ | refine blk_far ?_ NEW.out _)); exact BKW.out)); (case side1 => refine (Kd.R_reads' (e := 5) (base := w.heap.size) (ok := fun k_ => some k_ ≠ (u9 : Value).ownBlock) (n := x6_2.length) (c := co44) ?_).2.2; exact (by (with_reducible repeat (first | apply Kd.R_alloc | apply Kd.R_drewN | apply Kd.R_drew)); exact (Kd.R_mono (Kd.R_far (p := ⟨gb234, 2, none⟩) (Kd.R_far (p := ⟨gb234, 1, none⟩) (Kd.R_far (p := ⟨gb234, 0, none⟩) (Kd.R_types HO_6.out BK234.out (by decide)) (fun _ hk => hk.2) (.string ((rd_T46 l0 x71_2).f0))) (fun _ hk => hk.2) (.int .i64 ((rd_T46 l0 x71_2).f1))) (fun _ hk => hk.2) (.string ((rd_T46 l0 x71_2).f2))) (fun _ h_ => h_.1)))); (case side2 => exact (Kd.R_reads' HO_6.out).2.1); rintro e w45 ⟨v236, w45p, rfl, ho0, hb, hS_⟩; refine ⟨_, rfl, ?_⟩; have NW_ := Aside0.mk (blk_next BKW.out hb); clear BKW; have n0_ := Aside0.mk (Kd.S_below (by (with_reducible repeat (first | apply Kd.S_alloc | apply Kd.S_drewN | apply Kd.S_drew)); exact (Kd.S_mono (Kd.S_far (p := ⟨gb234, 2, none⟩) (Kd.S_far (p := ⟨gb234, 1, none⟩) (Kd.S_far (p := ⟨gb234, 0, none⟩) (Kd.S_types HO_5.out BK234.out (by decide)) (fun _ hk => hk.2) (.string ((rd_T46 l0 x71_2).f0))) (fun _ hk => hk.2) (.int .i64 ((rd_T46 l0 x71_2).f1))) (fun _ hk => hk.2) (.string ((rd_T46 l0 x71_2).f2))) (fun _ h_ => h_.1))) hb); have n1_ := Aside0.mk (Kd.R_elder' (by (with_reducible repeat (first | apply Kd.R_alloc | apply Kd.R_drewN | apply Kd.R_drew)); exact (Kd.R_mono (Kd.R_far (p := ⟨gb234, 2, none⟩) (Kd.R_far (p := ⟨gb234, 1, none⟩) (Kd.R_far (p := ⟨gb234, 0, none⟩) (Kd.R_types HO_6.out BK234.out (by decide)) (fun _ hk => hk.2) (.string ((rd_T46 l0 x71_2).f0))) (fun _ hk => hk.2) (.int .i64 ((rd_T46 l0 x71_2).f1))) (fun _ hk => hk.2) (.string ((rd_T46 l0 x71_2).f2))) (fun _ h_ => h_.1))) (Kd.R_base ho0) hb); have n2_ := Aside0.mk (Kd.R_elder' (by (with_reducible repeat (first | apply Kd.R_alloc | apply Kd.R_drewN | apply Kd.R_drew)); exact (Kd.R_mono (Kd.R_far (p := ⟨gb234, 2, none⟩) (Kd.R_far (p := ⟨gb234, 1, none⟩) (Kd.R_far (p := ⟨gb234, 0, none⟩) (Kd.R_types HO_9.out BK234.out (by decide)) (fun _ hk => hk.2) (.string ((rd_T46 l0 x71_2).f0))) (fun _ hk => hk.2) (.int .i64 ((rd_T46 l0 x71_2).f1))) (fun _ hk => hk.2) (.string ((rd_T46 l0 x71_2).f2))) (fun _ h_ => h_.1))) (Kd.R_base ho0) hb); have n3_ := Aside0.mk (Kd.R_lower (Kd.R_new' (Kd.R_new' ho0 (Kd.R_lt (by (with_reducible repeat (first | apply Kd.R_alloc | apply Kd.R_drewN | apply Kd.R_drew)); exact (Kd.R_mono (Kd.R_far (p := ⟨gb234, 2, none⟩) (Kd.R_far (p := ⟨gb234, 1, none⟩) (Kd.R_far (p := ⟨gb234, 0, none⟩) (Kd.R_types HO_6.out BK234.out (by decide)) (fun _ hk => hk.2) (.string ((rd_T46 l0 x71_2).f0))) (fun _ hk => hk.2) (.int .i64 ((rd_T46 l0 x71_2).f1))) (fun _ hk => hk.2) (.string ((rd_T46 l0 x71_2).f2))) (fun _ h_ => h_.1))))) (Kd.R_lt (by (with_reducible repeat (first | apply Kd.R_alloc | apply Kd.R_drewN | apply Kd.R_drew)); exact (Kd.R_mono (Kd.R_far (p := ⟨gb234, 2, none⟩) (Kd.R_far (p := ⟨gb234, 1, none⟩) (Kd.R_far (p := ⟨gb234, 0, none⟩) (Kd.R_types HO_9.out BK234.out (by decide)) (fun _ hk => hk.2) (.string ((rd_T46 l0 x71_2).f0))) (fun _ hk => hk.2) (.int .i64 ((rd_T46 l0 x71_2).f1))) (fun _ hk => hk.2) (.string ((rd_T46 l0 x71_2).f2))) (fun _ h_ => h_.1))))) (below_size (by repeat (first | (with_reducible first | exact HB.out | apply below_alloc | apply pw_below_drewN | apply below_drew1 | refine below_set ?_ GE234.out) | exact HB.out)))); have n4_ := Aside0.mk (blk_below (g := gb234) (o := .cells #[.string ((rd_T46 l0 x71_2).f0), .int .i64 ((rd_T46 l0 x71_2).f1), .string ((rd_T46 l0 x71_2).f2)] 46 (0, 0)) (by (with_reducible repeat (first | refine blk_drewN ?_ _ | refine blk_drew ?_ | refine blk_alloc ?_ _)); refine blk_put (cs := #[.string ((rd_T46 l0 x71_2).f0), .int .i64 ((rd_T46 l0 x71_2).f1), .string (⟨#[]⟩ : ByteArray)]) ?_ 2 _ rfl; (with_reducible repeat (first | refine blk_drewN ?_ _ | refine blk_drew ?_ | refine blk_alloc ?_ _)); refine blk_put (cs := #[.string ((rd_T46 l0 x71_2).f0), .int .i64 0, .string (⟨#[]⟩ : ByteArray)]) ?_ 1 _ rfl; (with_reducible repeat (first | refine blk_drewN ?_ _ | refine blk_drew ?_ | refine blk_alloc ?_ _)); refine blk_put (cs := #[.string (⟨#[]⟩ : ByteArray), .int .i64 0, .string (⟨#[]⟩ : ByteArray)]) ?_ 0 _ rfl; (with_reducible repeat (first | refine blk_drewN ?_ _ | refine blk_drew ?_ | refine blk_alloc ?_ _)); exact BK234.out) hb); have n5_ := Aside0.mk (below_step (by repeat (first | (with_reducible first | exact HB.out | apply below_alloc | apply pw_below_drewN | apply below_drew1 | refine below_set ?_ GE234.out) | exact HB.out)) hb); clear HO_5; clear HO_6; clear HO_9; clear BK234; clear HB; have HO_5 := n0_; have HO_6 := n1_; have HO_9 := n2_; have HO237 := n3_; have BK234 := n4_; have HB := n5_; clear n0_ n1_ n2_ n3_ n4_ n5_; (try clear hb); (try clear hb2); (try clear hk); (try clear hi); (try clear ho0); (try (have n_ := Aside0.mk (putS HO_5.out NW_.out (by decide) hS_); clear HO_5; have HO_5 := n_; clear n_)); (try (have n_ := Aside0.mk (putR HO_6.out NW_.out (by decide) hS_); clear HO_6; have HO_6 := n_; clear n_)); (try (have n_ := Aside0.mk (putR HO_9.out NW_.out (by decide) hS_); clear HO_9; have HO_9 := n_; clear n_)); (try (have n_ := Aside0.mk (putR HO237.out NW_.out (by decide) hS_); clear HO237; have HO237 := n_; clear n_)); (try (have n_ := Aside0.mk (putB BK234.out NW_.out (by decide) hS_); clear BK234; have BK234 := n_; clear n_)); (try (have n_ := Aside0.mk (putHB HB.out GEW.out hS_); clear HB; have HB := n_; clear n_)); have BKW := Aside0.mk (putW NW_.out hS_); clear NW_ hS_; have hcz46_0 : w45.cell? ⟨gb234, 0, none⟩ = some (.string ((rd_T46 l0 x71_2).f0)) := (blk_cell BK234.out 0).trans rfl; have hcz46_1 : w45.cell? ⟨gb234, 1, none⟩ = some (.int .i64 ((rd_T46 l0 x71_2).f1)) := (blk_cell BK234.out 1).trans rfl; have hcz46_2 : w45.cell? ⟨gb234, 2, none⟩ = some (.string ((rd_T46 l0 x71_2).f2)) := (blk_cell BK234.out 2).trans rfl; have hfz46_0 := blk_frozen BK234.out 0; have hfz46_1 := blk_frozen BK234.out 1; have hfz46_2 := blk_frozen BK234.out 2; obtain ⟨Ao47, co47, eo47⟩ := Kd.R_slice HO237.out; subst eo47) | ((with_reducible refine gate_dst (N := 83) rfl ?_); refine goesB_ (some 83) rfl rfl #[.pointer (some ⟨gW_, 0, none⟩)] rfl rfl Tryd.func24 (by kernel_rfl) rfl #[.pointer (some ⟨gW_, 0, none⟩), .int .i64 ((rd_T46 l0 x71_2).f1)] (by first | rfl | (simp; done) | (simp; rfl)) ?_; (with_reducible refine (image_writer_num.calls k2 gW_ Ao47 co47 t235 ((rd_T46 l0 x71_2).f1) t238 _ ?sideW ?side1 ?side2 A38.out).mono ?_); (case sideW => exact (by (with_reducible repeat (first | refine blk_drewN ?_ _ | refine blk_drew ?_ | refine blk_alloc ?_ _ | refine blk_far ?_ NEW.out _)); exact BKW.out)); (case side1 => repeat (first | exact (Kd.R_reads' HO237.out).2.2 | (with_reducible refine Kd.C_alloc ?_ _) | (with_reducible refine Kd.C_drewN ?_ _) | (with_reducible refine Kd.C_drew ?_))); (case side2 => exact (Kd.R_reads' HO237.out).2.1); rintro e w48 ⟨v239, w48p, rfl, ho0, hb, hS_⟩; refine ⟨_, rfl, ?_⟩; have NW_ := Aside0.mk (blk_next BKW.out hb); clear BKW; have n0_ := Aside0.mk (Kd.S_below (by (with_reducible repeat (first | apply Kd.S_alloc | apply Kd.S_drewN | apply Kd.S_drew)); exact HO_5.out) hb); have n1_ := Aside0.mk (Kd.R_elder' (by (with_reducible repeat (first | apply Kd.R_alloc | apply Kd.R_drewN | apply Kd.R_drew)); exact HO_6.out) (Kd.R_base ho0) hb); have n2_ := Aside0.mk (Kd.R_elder' (by (with_reducible repeat (first | apply Kd.R_alloc | apply Kd.R_drewN | apply Kd.R_drew)); exact HO_9.out) (Kd.R_base ho0) hb); have n3_ := Aside0.mk (Kd.R_elder' (by (with_reducible repeat (first | apply Kd.R_alloc | apply Kd.R_drewN | apply Kd.R_drew)); exact HO237.out) (Kd.R_base ho0) hb); have n4_ := Aside0.mk (Kd.R_lower (Kd.R_new' (Kd.R_new' (Kd.R_new' ho0 (Kd.R_lt (by (with_reducible repeat (first | apply Kd.R_alloc | apply Kd.R_drewN | apply Kd.R_drew)); exact HO_6.out))) (Kd.R_lt (by (with_reducible repeat (first | apply Kd.R_alloc | apply Kd.R_drewN | apply Kd.R_drew)); exact HO_9.out))) (Kd.R_lt (by (with_reducible repeat (first | apply Kd.R_alloc | apply Kd.R_drewN | apply Kd.R_drew)); exact HO237.out))) (below_size (by repeat (first | (with_reducible first | exact HB.out | apply below_alloc | apply pw_below_drewN | apply below_drew1 | refine below_set ?_ GE234.out) | exact HB.out)))); have n5_ := Aside0.mk (blk_below (g := gb234) (o := .cells #[.string ((rd_T46 l0 x71_2).f0), .int .i64 ((rd_T46 l0 x71_2).f1), .string ((rd_T46 l0 x71_2).f2)] 46 (0, 0)) (by (with_reducible repeat (first | refine blk_drewN ?_ _ | refine blk_drew ?_ | refine blk_alloc ?_ _)); exact BK234.out) hb); have n6_ := Aside0.mk (below_step (by repeat (first | (with_reducible first | exact HB.out | apply below_alloc | apply pw_below_drewN | apply below_drew1 | refine below_set ?_ GE234.out) | exact HB.out)) hb); clear HO_5; clear HO_6; clear HO_9; clear HO237; clear BK234; clear HB; have HO_5 := n0_; have HO_6 := n1_; have HO_9 := n2_; have HO237 := n3_; have HO240 := n4_; have BK234 := n5_; have HB := n6_; clear n0_ n1_ n2_ n3_ n4_ n5_ n6_; (try clear hb); (try clear hb2); (try clear hk); (try clear hi); (try clear ho0); (try (have n_ := Aside0.mk (putS HO_5.out NW_.out (by decide) hS_); clear HO_5; have HO_5 := n_; clear n_)); (try (have n_ := Aside0.mk (putR HO_6.out NW_.out (by decide) hS_); clear HO_6; have HO_6 := n_; clear n_)); (try (have n_ := Aside0.mk (putR HO_9.out NW_.out (by decide) hS_); clear HO_9; have HO_9 := n_; clear n_)); (try (have n_ := Aside0.mk (putR HO237.out NW_.out (by decide) hS_); clear HO237; have HO237 := n_; clear n_)); (try (have n_ := Aside0.mk (putR HO240.out NW_.out (by decide) hS_); clear HO240; have HO240 := n_; clear n_)); (try (have n_ := Aside0.mk (putB BK234.out NW_.out (by decide) hS_); clear BK234; have BK234 := n_; clear n_)); (try (have n_ := Aside0.mk (putHB HB.out GEW.out hS_); clear HB; have HB := n_; clear n_)); have BKW := Aside0.mk (putW NW_.out hS_); clear NW_ hS_; have hcz49_0 : w48.cell? ⟨gb234, 0, none⟩ = some (.string ((rd_T46 l0 x71_2).f0)) := (blk_cell BK234.out 0).trans rfl; have hcz49_1 : w48.cell? ⟨gb234, 1, none⟩ = some (.int .i64 ((rd_T46 l0 x71_2).f1)) := (blk_cell BK234.out 1).trans rfl; have hcz49_2 : w48.cell? ⟨gb234, 2, none⟩ = some (.string ((rd_T46 l0 x71_2).f2)) := (blk_cell BK234.out 2).trans rfl; have hfz49_0 := blk_frozen BK234.out 0; have hfz49_1 := blk_frozen BK234.out 1; have hfz49_2 := blk_frozen BK234.out 2; obtain ⟨Ao50, co50, eo50⟩ := Kd.R_slice HO240.out; subst eo50) | ((with_reducible refine gate_dst (N := 88) rfl ?_); refine goesB_ (some 88) rfl rfl #[.pointer (some ⟨gW_, 0, none⟩)] rfl rfl Tryd.func24 (by kernel_rfl) rfl #[.pointer (some ⟨gW_, 0, none⟩), .int .i64 (((rd_T46 l0 x71_2).f2).size : Int)] (by first | rfl | (simp; done) | (simp; rfl)) ?_; (with_reducible refine (image_writer_num.calls k2 gW_ Ao50 co50 t238 (((rd_T46 l0 x71_2).f2).size : Int) t241 _ ?sideW ?side1 ?side2 A39.out).mono ?_); (case sideW => exact (by (with_reducible repeat (first | refine blk_drewN ?_ _ | refine blk_drew ?_ | refine blk_alloc ?_ _ | refine blk_far ?_ NEW.out _)); exact BKW.out)); (case side1 => repeat (first | exact (Kd.R_reads' HO240.out).2.2 | (with_reducible refine Kd.C_alloc ?_ _) | (with_reducible refine Kd.C_drewN ?_ _) | (with_reducible refine Kd.C_drew ?_))); (case side2 => exact (Kd.R_reads' HO240.out).2.1); rintro e w51 ⟨v242, w51p, rfl, ho0, hb, hS_⟩; refine ⟨_, rfl, ?_⟩; have NW_ := Aside0.mk (blk_next BKW.out hb); clear BKW; have n0_ := Aside0.mk (Kd.S_below (by (with_reducible repeat (first | apply Kd.S_alloc | apply Kd.S_drewN | apply Kd.S_drew)); exact HO_5.out) hb); have n1_ := Aside0.mk (Kd.R_elder' (by (with_reducible repeat (first | apply Kd.R_alloc | apply Kd.R_drewN | apply Kd.R_drew)); exact HO_6.out) (Kd.R_base ho0) hb); have n2_ := Aside0.mk (Kd.R_elder' (by (with_reducible repeat (first | apply Kd.R_alloc | apply Kd.R_drewN | apply Kd.R_drew)); exact HO_9.out) (Kd.R_base ho0) hb); have n3_ := Aside0.mk (Kd.R_elder' (by (with_reducible repeat (first | apply Kd.R_alloc | apply Kd.R_drewN | apply Kd.R_drew)); exact HO237.out) (Kd.R_base ho0) hb); have n4_ := Aside0.mk (Kd.R_elder' (by (with_reducible repeat (first | apply Kd.R_alloc | apply Kd.R_drewN | apply Kd.R_drew)); exact HO240.out) (Kd.R_base ho0) hb); have n5_ := Aside0.mk (Kd.R_lower (Kd.R_new' (Kd.R_new' (Kd.R_new' (Kd.R_new' ho0 (Kd.R_lt (by (with_reducible repeat (first | apply Kd.R_alloc | apply Kd.R_drewN | apply Kd.R_drew)); exact HO_6.out))) (Kd.R_lt (by (with_reducible repeat (first | apply Kd.R_alloc | apply Kd.R_drewN | apply Kd.R_drew)); exact HO_9.out))) (Kd.R_lt (by (with_reducible repeat (first | apply Kd.R_alloc | apply Kd.R_drewN | apply Kd.R_drew)); exact HO237.out))) (Kd.R_lt (by (with_reducible repeat (first | apply Kd.R_alloc | apply Kd.R_drewN | apply Kd.R_drew)); exact HO240.out))) (below_size (by repeat (first | (with_reducible first | exact HB.out | apply below_alloc | apply pw_below_drewN | apply below_drew1 | refine below_set ?_ GE234.out) | exact HB.out)))); have n6_ := Aside0.mk (blk_below (g := gb234) (o := .cells #[.string ((rd_T46 l0 x71_2).f0), .int .i64 ((rd_T46 l0 x71_2).f1), .string ((rd_T46 l0 x71_2).f2)] 46 (0, 0)) (by (with_reducible repeat (first | refine blk_drewN ?_ _ | refine blk_drew ?_ | refine blk_alloc ?_ _)); exact BK234.out) hb); have n7_ := Aside0.mk (below_step (by repeat (first | (with_reducible first | exact HB.out | apply below_alloc | apply pw_below_drewN | apply below_drew1 | refine below_set ?_ GE234.out) | exact HB.out)) hb); clear HO_5; clear HO_6; clear HO_9; clear HO237; clear HO240; clear BK234; clear HB; have HO_5 := n0_; have HO_6 := n1_; have HO_9 := n2_; have HO237 := n3_; have HO240 := n4_; have HO243 := n5_; have BK234 := n6_; have HB := n7_; clear n0_ n1_ n2_ n3_ n4_ n5_ n6_ n7_; (try clear hb); (try clear hb2); (try clear hk); (try clear hi); (try clear ho0); (try (have n_ := Aside0.mk (putS HO_5.out NW_.out (by decide) hS_); clear HO_5; have HO_5 := n_; clear n_)); (try (have n_ := Aside0.mk (putR HO_6.out NW_.out (by decide) hS_); clear HO_6; have HO_6 := n_; clear n_)); (try (have n_ := Aside0.mk (putR HO_9.out NW_.out (by decide) hS_); clear HO_9; have HO_9 := n_; clear n_)); (try (have n_ := Aside0.mk (putR HO237.out NW_.out (by decide) hS_); clear HO237; have HO237 := n_; clear n_)); (try (have n_ := Aside0.mk (putR HO240.out NW_.out (by decide) hS_); clear HO240; have HO240 := n_; clear n_)); (try (have n_ := Aside0.mk (putR HO243.out NW_.out (by decide) hS_); clear HO243; have HO243 := n_; clear n_)); (try (have n_ := Aside0.mk (putB BK234.out NW_.out (by decide) hS_); clear BK234; have BK234 := n_; clear n_)); (try (have n_ := Aside0.mk (putHB HB.out GEW.out hS_); clear HB; have HB := n_; clear n_)); have BKW := Aside0.mk (putW NW_.out hS_); clear NW_ hS_; obtain ⟨Ao52, co52, eo52⟩ := Kd.S_slice HO_5.out; subst eo52; have p244 : 0 ≤ (x71_2 : Int) := of_decide_eq_true (by first | (with_reducible assumption) | assumption); have q244 : x71_2 < (t201.length : Int) := of_decide_eq_true (by first | (with_reducible assumption) | assumption); obtain ⟨ad244, A244_0, c244_0, e244, hx244_0, hl244_0, hi244_0⟩ := at_L10 (Kd.S_reads' HO_5.out).2.2 x71_2 p244 q244; cases e244; obtain ⟨ce244, hce244, hMe244, hcc244⟩ := Kd.S_get HO_5.out [] x71_2 p244 (by first | exact q244 | exact of_decide_eq_true (by first | (with_reducible assumption) | assumption) | (have e_ := (Kd.S_reads' HO_5.out).1; omega)); obtain ⟨ve244_0, rfl, ge244_0⟩ := hMe244; have hv244_0 := hcc244 0 _ rfl; rw [Nat.add_zero, show ((Kd.slice 3 (Kd.int .i64))).sz = 1 from rfl, Nat.mul_one] at hv244_0; replace hv244_0 := Option.some.inj (hv244_0.symm.trans hx244_0); rw [hv244_0] at ge244_0; have HL244_0 := Aside0.mk (show Kd.R (Kd.int .i64) 3 _ _ _ _ (rd_L10 t201 x71_2) from ge244_0); clear hv244_0 ge244_0; clear hcc244 hce244; have HR244_0 := Aside0.mk hi244_0; have HC244_0 := Aside0.mk hl244_0; clear hi244_0 hl244_0; replace p244 := eq_true p244; replace q244 := eq_true q244; obtain ⟨Ao53, co53, eo53⟩ := Kd.R_slice HO243.out; subst eo53) | ((with_reducible refine gate_dst (N := 95) rfl ?_); refine goesB_ (some 95) rfl rfl #[.pointer (some ⟨gW_, 0, none⟩)] rfl rfl Tryd.func24 (by kernel_rfl) rfl #[.pointer (some ⟨gW_, 0, none⟩), .int .i64 ((rd_L10 t201 x71_2).length : Int)] (by first | rfl | (simp; done) | (simp; rfl)) ?_; (with_reducible refine (image_writer_num.calls k2 gW_ Ao53 co53 t241 ((rd_L10 t201 x71_2).length : Int) t245 _ ?sideW ?side1 ?side2 A41.out).mono ?_); (case sideW => exact (by (with_reducible repeat (first | refine blk_drewN ?_ _ | refine blk_drew ?_ | refine blk_alloc ?_ _ | refine blk_far ?_ NEW.out _)); exact BKW.out)); (case side1 => repeat (first | exact (Kd.R_reads' HO243.out).2.2 | (with_reducible refine Kd.C_alloc ?_ _) | (with_reducible refine Kd.C_drewN ?_ _) | (with_reducible refine Kd.C_drew ?_))); (case side2 => exact (Kd.R_reads' HO243.out).2.1); rintro e w54 ⟨v246, w54p, rfl, ho0, hb, hS_⟩; refine ⟨_, rfl, ?_⟩; have NW_ := Aside0.mk (blk_next BKW.out hb); clear BKW; have n0_ := Aside0.mk (Kd.S_below (by (with_reducible repeat (first | apply Kd.S_alloc | apply Kd.S_drewN | apply Kd.S_drew)); exact HO_5.out) hb); have n1_ := Aside0.mk (Kd.R_elder' (by (with_reducible repeat (first | apply Kd.R_alloc | apply Kd.R_drewN | apply Kd.R_drew)); exact HO_6.out) (Kd.R_base ho0) hb); have n2_ := Aside0.mk (Kd.R_elder' (by (with_reducible repeat (first | apply Kd.R_alloc | apply Kd.R_drewN | apply Kd.R_drew)); exact HO_9.out) (Kd.R_base ho0) hb); have n3_ := Aside0.mk (Kd.R_elder' (by (with_reducible repeat (first | apply Kd.R_alloc | apply Kd.R_drewN | apply Kd.R_drew)); exact HO237.out) (Kd.R_base ho0) hb); have n4_ := Aside0.mk (Kd.R_elder' (by (with_reducible repeat (first | apply Kd.R_alloc | apply Kd.R_drewN | apply Kd.R_drew)); exact HO240.out) (Kd.R_base ho0) hb); have n5_ := Aside0.mk (Kd.R_elder' (by (with_reducible repeat (first | apply Kd.R_alloc | apply Kd.R_drewN | apply Kd.R_drew)); exact HO243.out) (Kd.R_base ho0) hb); have n6_ := Aside0.mk (Kd.R_below (by (with_reducible repeat (first | apply Kd.R_alloc | apply Kd.R_drewN | apply Kd.R_drew)); exact HL244_0.out) hb); have n7_ := Aside0.mk (Kd.R_lower (Kd.R_new' (Kd.R_new' (Kd.R_new' (Kd.R_new' (Kd.R_new' ho0 (Kd.R_lt (by (with_reducible repeat (first | apply Kd.R_alloc | apply Kd.R_drewN | apply Kd.R_drew)); exact HO_6.out))) (Kd.R_lt (by (with_reducible repeat (first | apply Kd.R_alloc | apply Kd.R_drewN | apply Kd.R_drew)); exact HO_9.out))) (Kd.R_lt (by (with_reducible repeat (first | apply Kd.R_alloc | apply Kd.R_drewN | apply Kd.R_drew)); exact HO237.out))) (Kd.R_lt (by (with_reducible repeat (first | apply Kd.R_alloc | apply Kd.R_drewN | apply Kd.R_drew)); exact HO240.out))) (Kd.R_lt (by (with_reducible repeat (first | apply Kd.R_alloc | apply Kd.R_drewN | apply Kd.R_drew)); exact HO243.out))) (below_size (by repeat (first | (with_reducible first | exact HB.out | apply below_alloc | apply pw_below_drewN | apply below_drew1 | refine below_set ?_ GE234.out) | exact HB.out)))); have n8_ := Aside0.mk (blk_below (g := gb234) (o := .cells #[.string ((rd_T46 l0 x71_2).f0), .int .i64 ((rd_T46 l0 x71_2).f1), .string ((rd_T46 l0 x71_2).f2)] 46 (0, 0)) (by (with_reducible repeat (first | refine blk_drewN ?_ _ | refine blk_drew ?_ | refine blk_alloc ?_ _)); exact BK234.out) hb); have n9_ := Aside0.mk (Kd.C_below (by repeat (first | (with_reducible exact HR244_0.out) | (with_reducible refine Kd.C_alloc ?_ _) | (with_reducible refine Kd.C_drewN ?_ _) | (with_reducible refine Kd.C_drew ?_) | exact HR244_0.out)) hb); have n10_ := Aside0.mk (below_step (by repeat (first | (with_reducible first | exact HB.out | apply below_alloc | apply pw_below_drewN | apply below_drew1 | refine below_set ?_ GE234.out) | exact HB.out)) hb); clear HO_5; clear HO_6; clear HO_9; clear HO237; clear HO240; clear HO243; clear HL244_0; clear BK234; clear HR244_0; clear HB; have HO_5 := n0_; have HO_6 := n1_; have HO_9 := n2_; have HO237 := n3_; have HO240 := n4_; have HO243 := n5_; have HL244_0 := n6_; have HO247 := n7_; have BK234 := n8_; have HR244_0 := n9_; have HB := n10_; clear n0_ n1_ n2_ n3_ n4_ n5_ n6_ n7_ n8_ n9_ n10_; (try clear hb); (try clear hb2); (try clear hk); (try clear hi); (try clear ho0); (try (have n_ := Aside0.mk (putS HO_5.out NW_.out (by decide) hS_); clear HO_5; have HO_5 := n_; clear n_)); (try (have n_ := Aside0.mk (putR HO_6.out NW_.out (by decide) hS_); clear HO_6; have HO_6 := n_; clear n_)); (try (have n_ := Aside0.mk (putR HO_9.out NW_.out (by decide) hS_); clear HO_9; have HO_9 := n_; clear n_)); (try (have n_ := Aside0.mk (putR HO237.out NW_.out (by decide) hS_); clear HO237; have HO237 := n_; clear n_)); (try (have n_ := Aside0.mk (putR HO240.out NW_.out (by decide) hS_); clear HO240; have HO240 := n_; clear n_)); (try (have n_ := Aside0.mk (putR HO243.out NW_.out (by decide) hS_); clear HO243; have HO243 := n_; clear n_)); (try (have n_ := Aside0.mk (putR HL244_0.out NW_.out (by decide) hS_); clear HL244_0; have HL244_0 := n_; clear n_)); (try (have n_ := Aside0.mk (putR HO247.out NW_.out (by decide) hS_); clear HO247; have HO247 := n_; clear n_)); (try (have n_ := Aside0.mk (putB BK234.out NW_.out (by decide) hS_); clear BK234; have BK234 := n_; clear n_)); (try (have n_ := Aside0.mk (putC HR244_0.out NW_.out hS_); clear HR244_0; have HR244_0 := n_; clear n_)); (try (have n_ := Aside0.mk (putHB HB.out GEW.out hS_); clear HB; have HB := n_; clear n_)); have BKW := Aside0.mk (putW NW_.out hS_); clear NW_ hS_; have p248 : 0 ≤ (x71_2 : Int) := of_decide_eq_true (by first | (with_reducible assumption) | assumption); have q248 : x71_2 < (t201.length : Int) := of_decide_eq_true (by first | (with_reducible assumption) | assumption); obtain ⟨ad248, A248_0, c248_0, e248, hx248_0, hl248_0, hi248_0⟩ := at_L10 (Kd.S_reads' HO_5.out).2.2 x71_2 p248 q248; obtain rfl : ad244 = ad248 := (by injection e248); obtain ⟨ce248, hce248, hMe248, hcc248⟩ := Kd.S_get HO_5.out [] x71_2 p248 (by first | exact q248 | exact of_decide_eq_true (by first | (with_reducible assumption) | assumption) | (have e_ := (Kd.S_reads' HO_5.out).1; omega)); obtain ⟨ve248_0, rfl, ge248_0⟩ := hMe248; have hv248_0 := hcc248 0 _ rfl; rw [Nat.add_zero, show ((Kd.slice 3 (Kd.int .i64))).sz = 1 from rfl, Nat.mul_one] at hv248_0; replace hv248_0 := Option.some.inj (hv248_0.symm.trans hx248_0); rw [hv248_0] at ge248_0; have HL248_0 := Aside0.mk (show Kd.R (Kd.int .i64) 3 _ _ _ _ (rd_L10 t201 x71_2) from ge248_0); clear hv248_0 ge248_0; clear hcc248 hce248; have HR248_0 := Aside0.mk hi248_0; have HC248_0 := Aside0.mk hl248_0; clear hi248_0 hl248_0; replace p248 := eq_true p248; replace q248 := eq_true q248))
                      go_loopg [101] k2 (fun kq v101 w' => ∃ (v6 : Value) (x6_3 : List Int) (x101_3 : Int), v101 = .int .i64 x101_3 ∧ Aside0 (image_Lay.l2 kq t201 x6_3 x9_1 l0 (l0.length : Int) x71_2 (rd_L10 t201 x71_2) ((rd_L10 t201 x71_2).length : Int) x101_3 = some (r1, r2)) ∧ Aside0 (kq ≤ k2) ∧ Aside0 (Kd.S (Kd.slice 3 (Kd.int .i64)) 61 w' w.heap.size (fun _ => True) (.slice (some ad244) t201.length co52) t201) ∧ Aside0 (Kd.R (Kd.int .u8) 5 w' w.heap.size (fun k_ => some k_ ≠ (u9 : Value).ownBlock) v6 x6_3) ∧ Aside0 (Kd.R (Kd.int .u8) 5 w' w.heap.size (fun k_ => some k_ ≠ (v6 : Value).ownBlock) u9 x9_1) ∧ Aside0 (w'.heap[gb234]? = some (.cells #[.string ((rd_T46 l0 x71_2).f0), .int .i64 ((rd_T46 l0 x71_2).f1), .string ((rd_T46 l0 x71_2).f2)] 46 (0, 0))) ∧ Aside0 (Kd.C (Kd.int .i64) w' A244_0 (rd_L10 t201 x71_2).length (rd_L10 t201 x71_2)) ∧ Aside0 (Kd.C (Kd.int .i64) w' A248_0 (rd_L10 t201 x71_2).length (rd_L10 t201 x71_2)) ∧ Aside0 (Below w.heap.size w w') ∧ Aside0 (w'.heap[gW_]? = some (.cells #[v6] 53 (0, 0))))
                      case atStart => exact ⟨_, (t245), (0), (by first | rfl | (simp; done) | (simp [*]; done)), H', ⟨Nat.le_refl _⟩, ⟨by (with_reducible repeat (first | apply Kd.S_alloc | apply Kd.S_drewN | apply Kd.S_drew)); exact HO_5.out⟩, ⟨by (with_reducible repeat (first | apply Kd.R_alloc | apply Kd.R_drewN | apply Kd.R_drew)); exact Kd.R_mono HO247.out (fun _ hk => hk.1.1.1.2)⟩, ⟨by (with_reducible repeat (first | apply Kd.R_alloc | apply Kd.R_drewN | apply Kd.R_drew)); exact Kd.R_mono HO_9.out (fun _ hk => hk.2)⟩, ⟨by (with_reducible repeat (first | refine blk_drewN ?_ _ | refine blk_drew ?_ | refine blk_alloc ?_ _)); exact BK234.out⟩, ⟨by repeat (first | (with_reducible exact HR244_0.out) | (with_reducible refine Kd.C_alloc ?_ _) | (with_reducible refine Kd.C_drewN ?_ _) | (with_reducible refine Kd.C_drew ?_) | exact HR244_0.out)⟩, ⟨by repeat (first | (with_reducible exact HR248_0.out) | (with_reducible refine Kd.C_alloc ?_ _) | (with_reducible refine Kd.C_drewN ?_ _) | (with_reducible refine Kd.C_drew ?_) | exact HR248_0.out)⟩, ⟨by repeat (first | (with_reducible first | exact HB.out | apply below_alloc | apply pw_below_drewN | apply below_drew1 | refine below_set ?_ GE234.out) | exact HB.out)⟩, ⟨by (with_reducible repeat (first | refine blk_drewN ?_ _ | refine blk_drew ?_ | refine blk_alloc ?_ _ | refine blk_far ?_ NEW.out _)); exact BKW.out⟩⟩
                      case round =>
                        clear H'
                        try clear c1
                        try clear c2
                        try clear p2
                        try clear q2
                        try clear hx2
                        try clear c3
                        try clear c4
                        try clear c5
                        try clear p6
                        try clear c9
                        try clear c13
                        try clear c13b0
                        try clear c14
                        try clear c14b0
                        try clear c15
                        try clear c15b0
                        try clear c19
                        try clear c21
                        try clear p21
                        try clear q21
                        try clear hx21
                        try clear c23
                        try clear p23
                        try clear q23
                        try clear hx23
                        try clear c24
                        try clear p24
                        try clear q24
                        try clear hx24
                        try clear c28
                        try clear c34
                        try clear c34b0
                        try clear c35
                        try clear c35b0
                        try clear c36
                        try clear c36b0
                        try clear c40
                        try clear c40b0
                        try clear c44
                        try clear c45
                        try clear hcz43_0
                        try clear hcz43_1
                        try clear hcz43_2
                        try clear hcz46_0
                        try clear hcz46_1
                        try clear hcz46_2
                        try clear hcz49_0
                        try clear hcz49_1
                        try clear hcz49_2
                        try clear hfz43_0
                        try clear hfz43_1
                        try clear hfz43_2
                        try clear hfz46_0
                        try clear hfz46_1
                        try clear hfz46_2
                        try clear hfz49_0
                        try clear hfz49_1
                        try clear hfz49_2
                        try clear hx212_0
                        try clear hx233_0
                        try clear hx233_1
                        try clear hx233_2
                        try clear hx244_0
                        try clear hx248_0
                        try clear p2
                        try clear p21
                        try clear p212
                        try clear p233
                        try clear p244
                        try clear p248
                        try clear p6
                        try clear q2
                        try clear q21
                        try clear q212
                        try clear q233
                        try clear q244
                        try clear q248
                        obtain ⟨u6, x6_3, x101_3, rfl, HA, HK3, HO_5, HO_6, HO_9, BK234, HR244_0, HR248_0, HB, BKW⟩ := hrel
                        cases gk with
                        | zero => exact absurd HA.out (by simp [image_Lay.l2])
                        | succ k3 =>
                          have H := HA.out
                          clear HA
                          simp only [image_Lay.l2] at H
                          by_cases c55 : x101_3 < ((rd_L10 t201 x71_2).length : Int)
                          · rw [if_pos c55] at H
                            have c55b0 : decide (x101_3 < ((rd_L10 t201 x71_2).length : Int)) = true := decide_eq_true c55
                            clear c55
                            by_cases c56 : 0 ≤ x101_3
                            · rw [if_pos c56] at H
                              have c56b0 : decide (0 ≤ x101_3) = true := decide_eq_true c56
                              clear c56
                              by_cases c57 : x101_3 < ((rd_L10 t201 x71_2).length : Int)
                              · rw [if_pos c57] at H
                                have c57b0 : decide (x101_3 < ((rd_L10 t201 x71_2).length : Int)) = true := decide_eq_true c57
                                clear c57
                                replace H := Option.bind_eq_some_iff.mp H
                                obtain ⟨t250, A580, H⟩ := H
                                replace H : (image_Lay.l2 k3 t201 t250 x9_1 l0 (l0.length : Int) x71_2 (rd_L10 t201 x71_2) ((rd_L10 t201 x71_2).length : Int) (wrap64 (x101_3 + 1))) = some (r1, r2) := H
                                have A58 := Aside0.mk A580
                                clear A580
                                have H' := Aside0.mk H
                                clear H
                                have p249 : 0 ≤ (x101_3 : Int) := of_decide_eq_true (by first | (with_reducible assumption) | assumption)
                                have q249 : x101_3 < ((rd_L10 t201 x71_2).length : Int) := of_decide_eq_true (by first | (with_reducible assumption) | assumption)
                                obtain ⟨ad249, e249, hx249_0⟩ := Kd.at_int HR248_0.out x101_3 p249 q249
                                cases e249
                                replace p249 := eq_true p249
                                replace q249 := eq_true q249
                                obtain ⟨Ao59, co59, eo59⟩ := Kd.R_slice HO_6.out
                                subst eo59
                                go_wp2_with (first | ((with_reducible refine gate_dst (N := 107) rfl ?_); refine goesB_ (some 107) rfl rfl #[.pointer (some ⟨gW_, 0, none⟩)] rfl rfl Tryd.func24 (by kernel_rfl) rfl #[.pointer (some ⟨gW_, 0, none⟩), .int .i64 (rd (rd_L10 t201 x71_2) x101_3)] (by first | rfl | (simp; done) | (simp; rfl)) ?_; (with_reducible refine (image_writer_num.calls k3 gW_ Ao59 co59 x6_3 (rd (rd_L10 t201 x71_2) x101_3) t250 _ ?sideW ?side1 ?side2 A58.out).mono ?_); (case sideW => exact (by (with_reducible repeat (first | refine blk_drewN ?_ _ | refine blk_drew ?_ | refine blk_alloc ?_ _ | refine blk_far ?_ NEW.out _)); exact BKW.out)); (case side1 => repeat (first | exact (Kd.R_reads' HO_6.out).2.2 | (with_reducible refine Kd.C_alloc ?_ _) | (with_reducible refine Kd.C_drewN ?_ _) | (with_reducible refine Kd.C_drew ?_))); (case side2 => exact (Kd.R_reads' HO_6.out).2.1); rintro e w60 ⟨v251, w60p, rfl, ho0, hb, hS_⟩; refine ⟨_, rfl, ?_⟩; have NW_ := Aside0.mk (blk_next BKW.out hb); clear BKW; have n0_ := Aside0.mk (Kd.S_below (by (with_reducible repeat (first | apply Kd.S_alloc | apply Kd.S_drewN | apply Kd.S_drew)); exact HO_5.out) hb); have n1_ := Aside0.mk (Kd.R_elder' (by (with_reducible repeat (first | apply Kd.R_alloc | apply Kd.R_drewN | apply Kd.R_drew)); exact HO_6.out) (Kd.R_base ho0) hb); have n2_ := Aside0.mk (Kd.R_elder' (by (with_reducible repeat (first | apply Kd.R_alloc | apply Kd.R_drewN | apply Kd.R_drew)); exact HO_9.out) (Kd.R_base ho0) hb); have n3_ := Aside0.mk (Kd.R_lower (Kd.R_new' (Kd.R_new' ho0 (Kd.R_lt (by (with_reducible repeat (first | apply Kd.R_alloc | apply Kd.R_drewN | apply Kd.R_drew)); exact HO_6.out))) (Kd.R_lt (by (with_reducible repeat (first | apply Kd.R_alloc | apply Kd.R_drewN | apply Kd.R_drew)); exact HO_9.out))) (below_size (by repeat (first | (with_reducible first | exact HB.out | apply below_alloc | apply pw_below_drewN | apply below_drew1 | refine below_set ?_ GE234.out) | exact HB.out)))); have n4_ := Aside0.mk (blk_below (g := gb234) (o := .cells #[.string ((rd_T46 l0 x71_2).f0), .int .i64 ((rd_T46 l0 x71_2).f1), .string ((rd_T46 l0 x71_2).f2)] 46 (0, 0)) (by (with_reducible repeat (first | refine blk_drewN ?_ _ | refine blk_drew ?_ | refine blk_alloc ?_ _)); exact BK234.out) hb); have n5_ := Aside0.mk (Kd.C_below (by repeat (first | (with_reducible exact HR244_0.out) | (with_reducible refine Kd.C_alloc ?_ _) | (with_reducible refine Kd.C_drewN ?_ _) | (with_reducible refine Kd.C_drew ?_) | exact HR244_0.out)) hb); have n6_ := Aside0.mk (Kd.C_below (by repeat (first | (with_reducible exact HR248_0.out) | (with_reducible refine Kd.C_alloc ?_ _) | (with_reducible refine Kd.C_drewN ?_ _) | (with_reducible refine Kd.C_drew ?_) | exact HR248_0.out)) hb); have n7_ := Aside0.mk (below_step (by repeat (first | (with_reducible first | exact HB.out | apply below_alloc | apply pw_below_drewN | apply below_drew1 | refine below_set ?_ GE234.out) | exact HB.out)) hb); clear HO_5; clear HO_6; clear HO_9; clear BK234; clear HR244_0; clear HR248_0; clear HB; have HO_5 := n0_; have HO_6 := n1_; have HO_9 := n2_; have HO252 := n3_; have BK234 := n4_; have HR244_0 := n5_; have HR248_0 := n6_; have HB := n7_; clear n0_ n1_ n2_ n3_ n4_ n5_ n6_ n7_; (try clear hb); (try clear hb2); (try clear hk); (try clear hi); (try clear ho0); (try (have n_ := Aside0.mk (putS HO_5.out NW_.out (by decide) hS_); clear HO_5; have HO_5 := n_; clear n_)); (try (have n_ := Aside0.mk (putR HO_6.out NW_.out (by decide) hS_); clear HO_6; have HO_6 := n_; clear n_)); (try (have n_ := Aside0.mk (putR HO_9.out NW_.out (by decide) hS_); clear HO_9; have HO_9 := n_; clear n_)); (try (have n_ := Aside0.mk (putR HO252.out NW_.out (by decide) hS_); clear HO252; have HO252 := n_; clear n_)); (try (have n_ := Aside0.mk (putB BK234.out NW_.out (by decide) hS_); clear BK234; have BK234 := n_; clear n_)); (try (have n_ := Aside0.mk (putC HR244_0.out NW_.out hS_); clear HR244_0; have HR244_0 := n_; clear n_)); (try (have n_ := Aside0.mk (putC HR248_0.out NW_.out hS_); clear HR248_0; have HR248_0 := n_; clear n_)); (try (have n_ := Aside0.mk (putHB HB.out GEW.out hS_); clear HB; have HB := n_; clear n_)); have BKW := Aside0.mk (putW NW_.out hS_); clear NW_ hS_))
                                go_roundg k3
                                case measure => have := HK1.out; have := HK2.out; have := HK3.out; omega
                                case rel => exact ⟨_, (t250), (wrap64 (x101_3 + 1)), (by first | rfl | (simp; done) | (simp [*]; done)), H', ⟨by have := HK1.out; have := HK2.out; have := HK3.out; omega⟩, ⟨by (with_reducible repeat (first | apply Kd.S_alloc | apply Kd.S_drewN | apply Kd.S_drew)); exact HO_5.out⟩, ⟨by (with_reducible repeat (first | apply Kd.R_alloc | apply Kd.R_drewN | apply Kd.R_drew)); exact Kd.R_mono HO252.out (fun _ hk => hk.2)⟩, ⟨by (with_reducible repeat (first | apply Kd.R_alloc | apply Kd.R_drewN | apply Kd.R_drew)); exact Kd.R_mono HO_9.out (fun _ hk => hk.2)⟩, ⟨by (with_reducible repeat (first | refine blk_drewN ?_ _ | refine blk_drew ?_ | refine blk_alloc ?_ _)); exact BK234.out⟩, ⟨by repeat (first | (with_reducible exact HR244_0.out) | (with_reducible refine Kd.C_alloc ?_ _) | (with_reducible refine Kd.C_drewN ?_ _) | (with_reducible refine Kd.C_drew ?_) | exact HR244_0.out)⟩, ⟨by repeat (first | (with_reducible exact HR248_0.out) | (with_reducible refine Kd.C_alloc ?_ _) | (with_reducible refine Kd.C_drewN ?_ _) | (with_reducible refine Kd.C_drew ?_) | exact HR248_0.out)⟩, ⟨by repeat (first | (with_reducible first | exact HB.out | apply below_alloc | apply pw_below_drewN | apply below_drew1 | refine below_set ?_ GE234.out) | exact HB.out)⟩, ⟨by (with_reducible repeat (first | refine blk_drewN ?_ _ | refine blk_drew ?_ | refine blk_alloc ?_ _ | refine blk_far ?_ NEW.out _)); exact BKW.out⟩⟩
                              · rw [if_neg c57] at H
                                exact absurd H (by simp)
                            · rw [if_neg c56] at H
                              exact absurd H (by simp)
                          · rw [if_neg c55] at H
                            have c55b0 : decide (x101_3 < ((rd_L10 t201 x71_2).length : Int)) = false := decide_eq_false c55
                            clear c55
                            have H' := Aside0.mk H
                            clear H
                            go_wp2
                            go_roundg k3
                            case measure => have := HK1.out; have := HK2.out; have := HK3.out; omega
                            case rel => exact ⟨_, (x6_3), (wrap64 (x71_2 + 1)), (by first | rfl | (simp; done) | (simp [*]; done)), H', ⟨by have := HK1.out; have := HK2.out; have := HK3.out; omega⟩, ⟨by (with_reducible repeat (first | apply Kd.S_alloc | apply Kd.S_drewN | apply Kd.S_drew)); exact HO_5.out⟩, ⟨by (with_reducible repeat (first | apply Kd.R_alloc | apply Kd.R_drewN | apply Kd.R_drew)); exact HO_6.out⟩, ⟨by (with_reducible repeat (first | apply Kd.R_alloc | apply Kd.R_drewN | apply Kd.R_drew)); exact HO_9.out⟩, ⟨by repeat (first | (with_reducible first | exact HB.out | apply below_alloc | apply pw_below_drewN | apply below_drew1 | refine below_set ?_ GE234.out) | exact HB.out)⟩, ⟨by (with_reducible repeat (first | refine blk_drewN ?_ _ | refine blk_drew ?_ | refine blk_alloc ?_ _ | refine blk_far ?_ NEW.out _)); exact BKW.out⟩⟩
                    · rw [if_neg c40] at H
                      exact absurd H (by simp)
                  · rw [if_neg c36] at H
                    exact absurd H (by simp)
                · rw [if_neg c35] at H
                  exact absurd H (by simp)
              · rw [if_neg c34] at H
                have c34b0 : decide (x71_2 < (l0.length : Int)) = false := decide_eq_false c34
                clear c34
                by_cases c61 : x6_2.length + x9_1.length < 140737488355328
                · rw [if_pos c61] at H
                  have LMc61 := Aside0.mk c61
                  clear c61
                  obtain ⟨y230, hy230⟩ : ∃ y_ : List Int, y_ = (x6_2 ++ x9_1) := ⟨_, rfl⟩
                  replace H : (some (y230, 0)) = some (r1, r2) := by first | (rw [hy230]; with_reducible exact H) | (have H2_ := (Option.bind_some _ _).symm.trans H; rw [hy230]; with_reducible exact H2_) | (have H2_ := (Option.bind_some _ _).symm.trans H; with_reducible exact H2_) | with_reducible exact H | (rw [hy230]; exact H) | exact H
                  have Ny230 := Aside0.mk hy230
                  clear hy230
                  simp only [Option.some.injEq, Prod.mk.injEq] at H
                  obtain ⟨rfl, rfl⟩ := H
                  obtain ⟨Ao63, co63, eo63⟩ := Kd.R_slice HO_9.out
                  subst eo63
                  have hczW : World.cell? _ ⟨gW_, 0, none⟩ = some u6 := (blk_cell BKW.out 0).trans rfl
                  go_wp2_with (first | ((with_reducible refine gate_builtin (b := .append) (xs := #[.tmp 113, .tmp 114]) rfl ?_); at_builtin; refine Kd.R_append_rows (Kd.int .u8) (w0 := w) w.heap.size rfl (.tmp 113) (.tmp 114) 26 5 (.int .u8 0) 1 rfl Tryd.underlying26 info5 rfl (by decide) (by omega) u6 x6_2 x9_1 _ _ _ (fun k_ => some k_ ≠ (.slice Ao63 x9_1.length co63 : Value).ownBlock) (fun _ => False) rfl rfl ?aO ?aR (fun _ _ h => h) (fun _ h => h.elim) ?aF ?aB ?aS ?aL ?_; (case aR => repeat (first | exact (Kd.R_reads' HO_9.out).2.2 | (with_reducible refine Kd.C_alloc ?_ _) | (with_reducible refine Kd.C_drewN ?_ _) | (with_reducible refine Kd.C_drew ?_))); (case aB => exact (by repeat (first | (with_reducible first | exact HB.out | apply below_alloc | apply pw_below_drewN | apply below_drew1) | exact HB.out))); (case aF => exact (fun k_ hk => Kd.fresh' (Kd.R_lt (by (with_reducible repeat (first | apply Kd.R_alloc | apply Kd.R_drewN | apply Kd.R_drew)); exact HO_9.out)) k_ hk)); (case aO => exact (by (with_reducible repeat (first | apply Kd.R_alloc | apply Kd.R_drewN | apply Kd.R_drew)); exact HO_6.out)); (case aS => exact (below_size (by repeat (first | (with_reducible first | exact HB.out | apply below_alloc | apply pw_below_drewN | apply below_drew1) | exact HB.out)))); (case aL => have := LMc61.out; omega); intro v231 w62 ho hb hg hat; have nW_ := Aside0.mk (blk_nextR BKW.out HO_6.out hg (by decide)); clear BKW; have BKW := nW_; clear nW_; rw [← Ny230.out] at ho; have n0_ := Aside0.mk (Kd.S_over' (by (with_reducible repeat (first | apply Kd.S_alloc | apply Kd.S_drewN | apply Kd.S_drew)); exact HO_5.out) (Kd.R_typed (by (with_reducible repeat (first | apply Kd.R_alloc | apply Kd.R_drewN | apply Kd.R_drew)); exact HO_6.out)) (by decide) hg); have n1_ := Aside0.mk (Kd.R_after (ok := (fun _ => True)) (by (with_reducible repeat (first | apply Kd.R_alloc | apply Kd.R_drewN | apply Kd.R_drew)); exact Kd.R_mono HO_9.out (fun _ hk => ⟨trivial, hk⟩)) hg hat); have n2_ := Aside0.mk (hb); have n3_ := Aside0.mk (ho); clear HO_5; clear HO_9; clear HB; clear HO_6; have HO_5 := n0_; have HO_9 := n1_; have HB := n2_; have HO232 := n3_; clear n0_ n1_ n2_ n3_; clear ho hb hg hat))
                  go_ret2
                  exact ⟨_, by first | rfl | (simp [errW_none, errW_some] <;> rfl) | (simp [*, errW_none, errW_some] <;> rfl), by (with_reducible repeat (first | apply Kd.R_alloc | apply Kd.R_drewN | apply Kd.R_drew)); exact Kd.R_mono HO232.out (fun _ hk => trivial), by repeat (first | (with_reducible first | exact HB.out | apply below_alloc | apply pw_below_drewN | apply below_drew1) | exact HB.out)⟩
                · rw [if_neg c61] at H
                  exact absurd H (by simp)
  · replace c3 := Bool.eq_false_iff.mpr c3
    subst c3
    have H1 : (some (([] : List Int), 7)) = some (r1, r2) := by rw [if_neg (show ¬ (false = true) by decide)] at H; exact H
    clear H
    have H := H1
    clear H1
    simp only [Option.some.injEq, Prod.mk.injEq] at H
    obtain ⟨rfl, rfl⟩ := H
    go_enter Tryd.func9, Tryd.ntmps9
    go_wp2_with (first | ((with_reducible refine gate_callee (f := 19) rfl ?_); refine goesL_ (some 18) rfl rfl Tryd.func19 (by kernel_rfl) rfl #[.slice A0 l0.length c0] rfl (by (try simp only [List.map_toArray, List.map_cons, List.map_nil]); first | done | rfl | (simp only [List.length_drop, List.length_take]; rfl)) ?_; (with_reducible refine (tree_May.calls k _ _ l0 false _ ?side1 ?side2 A2.out).mono ?_); (case side1 => repeat (first | exact HR0.out | (with_reducible refine Kd.C_alloc ?_ _) | (with_reducible refine Kd.C_drewN ?_ _) | (with_reducible refine Kd.C_drew ?_))); (case side2 => exact HC0.out); rintro e w64 ⟨rfl, hb⟩; refine ⟨_, rfl, ?_⟩; have n0_ := Aside0.mk (below_step (by repeat (first | (with_reducible first | exact HB.out | apply below_alloc | apply pw_below_drewN | apply below_drew1) | exact HB.out)) hb); clear HB; have HB := n0_; clear n0_; (try clear hb); (try clear hb2); (try clear hk); (try clear hi)))
    go_ret2
    exact ⟨_, by first | rfl | (simp [errW_none, errW_some] <;> rfl) | (simp [*, errW_none, errW_some] <;> rfl), by first | exact Kd.R_nil _ _ _ _ _ | exact Kd.N_nil _ _ _ _ _ | exact Kd.V_nil _ _ _ _ _ | exact Kd.Q_nil _ _ _ _ _ | exact Kd.S_nil _ _ _ _ _, by repeat (first | (with_reducible first | exact HB.out | apply below_alloc | apply pw_below_drewN | apply below_drew1) | exact HB.out)⟩

end Go.Proofs.YtcijimdogddbeaaDoor.P
