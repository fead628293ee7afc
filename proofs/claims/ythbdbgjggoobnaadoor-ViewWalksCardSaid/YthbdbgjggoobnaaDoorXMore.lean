/- Few words of this session's own that the walks lean on: the greater and the lesser of two, cheap looks ahead of a call, short names. No condition. -/
import Derived.Test.YthbdbgjggoobnaaDoorWWords
import Derived.Test.YthbdbgjggoobnaaDoorWLast
import Derived.Test.YthbdbgjggoobnaaDoorWApart
import Derived.Test.YthbdbgjggoobnaaDoorWKept
import Derived.Test.YthbdbgjggoobnaaDoorWTab
import Derived.Test.YthbdbgjggoobnaaDoorXWords
namespace Go.Proofs.YthbdbgjggoobnaaDoorW.PrintMore
open Go.RowKit Go.Proofs.YthbdbgjggoobnaaDoorW.PrintWords
def mx (a b : Int) : Int := if a < b then b else a
def mn (a b : Int) : Int := if b < a then b else a
theorem max2_int (k k' : IntKind) (x y : Int) : Builtin.max2 (.int k x) (.int k' y) = pure (.int k (mx x y)) := by simp only [Builtin.max2, mx]
theorem min2_int (k k' : IntKind) (x y : Int) : Builtin.min2 (.int k x) (.int k' y) = pure (.int k (mn x y)) := by simp only [Builtin.min2, mn]
theorem max_two (ts : Array TypeId) (t : TypeId) (a b : Value) : Builtin.max_ ts t #[a, b] = (Builtin.max2 a b >>= fun s => pure s) := by simp only [Builtin.max_, List.foldlM_cons, List.foldlM_nil]
theorem min_two (ts : Array TypeId) (t : TypeId) (a b : Value) : Builtin.min_ ts t #[a, b] = (Builtin.min2 a b >>= fun s => pure s) := by simp only [Builtin.min_, List.foldlM_cons, List.foldlM_nil]
section
variable {P : Program} {ops rest} {o : Oper} {a : Act} {Q : Exit → Act → World → Prop} {W : World} {as : Array Operand} {ts : Array TypeId}
theorem gate_callee {f : FuncId} (_ : o.op = .call { callee := .value (.func f), args := as, argTypes := ts }) (h : wpList P ops Q (o :: rest) a W) : wpList P ops Q (o :: rest) a W := h
theorem gate_builtin {b : Builtin} {xs : Array Operand} (_ : o.op = .call { callee := .builtin b, args := xs, argTypes := ts }) (h : wpList P ops Q (o :: rest) a W) : wpList P ops Q (o :: rest) a W := h
end
def shr (k : IntKind) (x y : Int) : Int := x / 2 ^ min y.toNat k.bits
theorem shr_small {k : IntKind} {x y j : Int} (h : shr k x y = j) (hy : y ≤ k.bits) : x / 2 ^ y.toNat = j := by rw [← h]; unfold shr; rw [Nat.min_eq_left (by omega)]
end Go.Proofs.YthbdbgjggoobnaaDoorW.PrintMore
namespace Go.Proofs.YthbdbgjggoobnaaDoorX
open Go.RowKit Go.Proofs.YthbdbgjggoobnaaDoorW.PrintWords
theorem am {p : Prop} (h : p) : Aside0 p := ⟨h⟩
section
variable {B : Nat} {w W : World} {g : Nat} {o : Obj}
theorem bN (h : Below B w W) (n : Nat) : Below B w (W.drewN n) := pw_below_drewN h n
theorem bO (h : Below B w W) : Below B w W.drew := below_drew1 h
theorem bA (h : Below w.heap.size w W) (o : Obj) : Below w.heap.size w (W.alloc o) := below_alloc h o
theorem kN (h : w.heap[g]? = some o) (n : Nat) : (w.drewN n).heap[g]? = some o := blk_drewN h n
theorem kD (h : w.heap[g]? = some o) : w.drew.heap[g]? = some o := blk_drew h
theorem kA (h : w.heap[g]? = some o) (o' : Obj) : (w.alloc o').heap[g]? = some o := blk_alloc h o'
theorem wB (w : World) (a : Addr) {v : Value} (h : w.cell? a = some v) : a.block < w.heap.size := World.block_lt_of_cell? w a h
end
section
variable {α : Type} {d : Kd α} {e : Nat} {w : World} {base : Nat} {ok : Nat → Prop} {v : Value} {xs : List α} {A : Option Addr} {n : Nat}
theorem rA (h : d.R e w base ok v xs) (o : Obj) : d.R e (w.alloc o) base ok v xs := Kd.R_alloc h o
theorem rN (h : d.R e w base ok v xs) (m : Nat) : d.R e (w.drewN m) base ok v xs := Kd.R_drewN h m
theorem rD (h : d.R e w base ok v xs) : d.R e w.drew base ok v xs := Kd.R_drew h
theorem cA (h : d.C w A n xs) (o : Obj) : d.C (w.alloc o) A n xs := Kd.C_alloc h o
theorem cN (h : d.C w A n xs) (m : Nat) : d.C (w.drewN m) A n xs := Kd.C_drewN h m
theorem cD (h : d.C w A n xs) : d.C w.drew A n xs := Kd.C_drew h
end
theorem oB {α β : Type} {o : Option α} {f : α → Option β} {b : β} (h : o.bind f = some b) : ∃ a, o = some a ∧ f a = some b := Option.bind_eq_some_iff.mp h
theorem mT {α β : Type} {f : α → β} {l : List α} : l.toArray.map f = (l.map f).toArray := List.map_toArray
theorem mC {α β : Type} {f : α → β} {a : α} {l : List α} : (a :: l).map f = f a :: l.map f := List.map_cons
theorem mN {α β : Type} {f : α → β} : ([] : List α).map f = [] := List.map_nil
theorem lD {α : Type} {i : Nat} {l : List α} : (l.drop i).length = l.length - i := List.length_drop
theorem lT {α : Type} {i : Nat} {l : List α} : (l.take i).length = min i l.length := List.length_take
end Go.Proofs.YthbdbgjggoobnaaDoorX

/-! ### what stands often, in short: how a fact is shown stands in the word's own last places -/
namespace Go.Proofs.YthbdbgjggoobnaaDoorX
open Go.RowKit Go.Proofs.YthbdbgjggoobnaaDoorW.PrintWords Go.Proofs.YthbdbgjggoobnaaDoorW.PrintLast
set_option linter.unusedVariables false
section
variable {w W W0 W2 : World} {g : Nat} {o : Obj} {S : Nat → Prop}
theorem bz (h0 : Below w.heap.size w W0 := by exact HB.out) (h : Below w.heap.size w W0 → Below w.heap.size w W := by intro h_; repeat (first | (with_reducible first | exact h_ | apply bA | apply bN | apply bO) | exact h_)) : Below w.heap.size w W := h h0
theorem bq (h0 : Below w.heap.size w W0 := by exact HB.out) (h : Below w.heap.size w W0 → Below w.heap.size w W := by intro h_; repeat (first | (with_reducible first | exact h_ | apply bA | apply bN | apply bO | refine below_set ?_ (Aside0.out (by assumption))) | exact h_)) : Below w.heap.size w W := h h0
theorem bs (hb : Below W.heap.size W W2) (h0 : Below w.heap.size w W0 := by exact HB.out) (h : Below w.heap.size w W0 → Below w.heap.size w W := by intro h_; repeat (first | (with_reducible first | exact h_ | apply bA | apply bN | apply bO) | exact h_)) : Aside0 (Below w.heap.size w W2) := ⟨below_step (h h0) hb⟩
theorem bw (hb : Below W.heap.size W W2) (h0 : Below w.heap.size w W0 := by exact HB.out) (h : Below w.heap.size w W0 → Below w.heap.size w W := by intro h_; repeat (first | (with_reducible first | exact h_ | apply bA | apply bN | apply bO | refine below_set ?_ (Aside0.out (by assumption))) | exact h_)) : Aside0 (Below w.heap.size w W2) := ⟨below_step (h h0) hb⟩
theorem gz (hg : g = W.heap.size) (h0 : Below w.heap.size w W0 := by exact HB.out) (h : Below w.heap.size w W0 → Below w.heap.size w W := by intro h_; repeat (first | (with_reducible first | exact h_ | apply bA | apply bN | apply bO) | exact h_)) : Aside0 (w.heap.size ≤ g) := ⟨by rw [hg]; exact (h h0).size⟩
theorem siz (h0 : Below w.heap.size w W0 := by exact HB.out) (h : Below w.heap.size w W0 → Below w.heap.size w W := by intro h_; repeat (first | (with_reducible first | exact h_ | apply bA | apply bN | apply bO) | exact h_)) : w.heap.size ≤ W.heap.size := (h h0).size
theorem siq (h0 : Below w.heap.size w W0 := by exact HB.out) (h : Below w.heap.size w W0 → Below w.heap.size w W := by intro h_; repeat (first | (with_reducible first | exact h_ | apply bA | apply bN | apply bO | refine below_set ?_ (Aside0.out (by assumption))) | exact h_)) : w.heap.size ≤ W.heap.size := (h h0).size
theorem kz (h0 : Kept w W0 S := by exact HK.out) (h : Kept w W0 S → Kept w W S := by intro h_; repeat (first | (with_reducible first | exact h_ | apply Kept.alloc | apply Kept.drewN | apply Kept.drew) | exact h_)) : Kept w W S := h h0
theorem bk (h0 : W0.heap[g]? = some o) (h : W0.heap[g]? = some o → W.heap[g]? = some o := by intro h_; (with_reducible repeat (first | refine kN ?_ _ | refine kD ?_ | refine kA ?_ _)); exact h_) : W.heap[g]? = some o := h h0
theorem dz (h : Drawn0 w W := by repeat (first | exact Drawn0.refl _ | apply Drawn0.step)) : Drawn0 w W := h
theorem ez {α : Type _} {a b : α} (h : a = b := by first | rfl | (simp [eN, eS] <;> rfl) | (simp [*, eN, eS] <;> rfl)) : a = b := h
section
variable {t : TypeId} {a b c d : Value}
theorem cq3 (h : w.heap[g]? = some (.cells #[a, b, c] t (0, 0))) : w.cell? ⟨g, 0, none⟩ = some a ∧ w.cell? ⟨g, 1, none⟩ = some b ∧ w.cell? ⟨g, 2, none⟩ = some c := ⟨blk_cell h 0, blk_cell h 1, blk_cell h 2⟩
theorem fq2 {cs : Array Value} (h : w.heap[g]? = some (.cells cs t (0, 0))) : w.frozen? ⟨g, 0, none⟩ = false ∧ w.frozen? ⟨g, 1, none⟩ = false := ⟨blk_frozen h 0, blk_frozen h 1⟩
theorem fq3 {cs : Array Value} (h : w.heap[g]? = some (.cells cs t (0, 0))) : w.frozen? ⟨g, 0, none⟩ = false ∧ w.frozen? ⟨g, 1, none⟩ = false ∧ w.frozen? ⟨g, 2, none⟩ = false := ⟨blk_frozen h 0, blk_frozen h 1, blk_frozen h 2⟩
theorem fq4 {cs : Array Value} (h : w.heap[g]? = some (.cells cs t (0, 0))) : w.frozen? ⟨g, 0, none⟩ = false ∧ w.frozen? ⟨g, 1, none⟩ = false ∧ w.frozen? ⟨g, 2, none⟩ = false ∧ w.frozen? ⟨g, 3, none⟩ = false := ⟨blk_frozen h 0, blk_frozen h 1, blk_frozen h 2, blk_frozen h 3⟩
end
section
variable {α : Type} {d : Kd α} {e : Nat} {base : Nat} {ok : Nat → Prop} {v : Value} {xs : List α} {A : Option Addr} {n : Nat}
theorem rz (h0 : d.R e W0 base ok v xs) (h : d.R e W0 base ok v xs → d.R e W base ok v xs := by intro h_; (with_reducible repeat (first | apply rA | apply rN | apply rD)); exact h_) : d.R e W base ok v xs := h h0
theorem cz (h0 : d.C W0 A n xs) (h : d.C W0 A n xs → d.C W A n xs := by intro h_; repeat (first | exact h_ | (with_reducible refine cA ?_ _) | (with_reducible refine cN ?_ _) | (with_reducible refine cD ?_))) : d.C W A n xs := h h0
end
end
theorem bL {α β : Type} {a : α} {f : α → Option β} {r : β} {G : Prop} (H : (some a).bind f = some r) (h : ∀ y, y = a → f y = some r → G) : G := h a rfl H
theorem oR {α β : Type} {a : Option α} {f : α → Option β} {r : β} {G : Prop} (H : a.bind f = some r) (h : ∀ x, Aside0 (a = some x) → f x = some r → G) : G := by
  obtain ⟨x, h1, h2⟩ := oB H
  exact h x ⟨h1⟩ h2
section
variable {P : Program} {ops : Array Oper} {Q : Exit → Act → World → Prop} {S : World → Prop} {ds : List Nat}
theorem gL {rest : List Oper} {oi : Oper} {a : Act} {w : World} (N : Option Tmp) {f : FuncId} {fn : Func} {as : Array Operand} {ts : Array TypeId} (hf : P.funcs[f]? = some fn) (args : Array Value)
    (h : Calls P f args w fun e w' => ∃ v, e = .returned v ∧ wpList P ops Q rest (a.put N v) w')
    (hd : oi.dst = N := by exact rfl) (hg : oi.guard = none := by exact rfl) (hname : (fn.name == "runtime.NumGoroutine") = false := by kernel_rfl) (hb : fn.body.isSome = true := by exact rfl)
    (hop : oi.op = .call { callee := .value (.func f), args := as, argTypes := ts } := by exact rfl) (hargs : as.map a.eval = args := by (try simp only [mT, mC, mN]); first | done | rfl | (simp only [lD, lT]; rfl)) : wpList P ops Q (oi :: rest) a w :=
  goesL_ N hd hg hf hname hb args hop hargs h
theorem bx {rest : List Oper} {o : Oper} {a : Act} {W : World} (N : Tmp) (cs : Array Value) (t : TypeId)
    (h : ∀ g, g = W.heap.size → ∀ w1, w1.heap[g]? = some (.cells cs t (0, 0)) → Below W.heap.size W w1 → wpList P ops Q rest (a.put o.dst (.pointer (some ⟨g, 0, none⟩))) w1)
    (hd : o.dst = some N := by rfl) (hg : o.guard = none := by rfl) (hr : (execOp a.eval o).run P W = .ok (.value (.pointer (some ⟨W.heap.size, 0, none⟩))) (W.alloc (.cells cs t (0, 0))) := by first | (go_simp; done) | (go_simp; rfl)) : wpList P ops Q (o :: rest) a W :=
  box_event hg hd hr h
theorem pu (i : Nat) (N : Option Tmp) {oi : Oper} {v : Value} {fuel : Nat} {l l' : Array Bool} {a a' : Act} {w : World} (h : wpAnyLast P .any ops Q S ds fuel l' a' w)
    (hl : l.setIfInBounds i true = l' := by simp only [sA, sB, sC]; rfl) (hi : ops[i]? = some oi := by exact rfl) (hN : oi.dst = N := by exact rfl) (hc : anyB .any ops l l' i = true := by exact any_of HT_.out (by kernel_rfl))
    (hQ : ∀ c a w, Q (.panic c) (a.put oi.dst v) w → Q (.panic c) a w := by exact fun _ _ _ h => h) (h1 : Region.wanted oi (yielded ops a.tmps) = true := by rfl)
    (h2 : ∀ w', (execOp a.eval oi).run P w' = .ok (.value v) w' := by intro w'; go_simp; with_reducible rfl) (ha : a.put N v = a' := by simp only [Act.put, sA, sB, sC, i64_w, i32_w]; rfl) : wpAnyLast P .any ops Q S ds (fuel + 1) l a w :=
  pure_ l' hi hN hc hQ (Or.inl ⟨h1, h2⟩) ha h
end
end Go.Proofs.YthbdbgjggoobnaaDoorX
