/- A map from texts to places in a list: what a look-up of it tells, what an update leaves. No condition. -/
import Derived.Test.YthbdbgjggoobnaaDoorWWords
import Derived.Maps.OwnOps
import Derived.Maps.Views
namespace Go.Proofs.YthbdbgjggoobnaaDoorX
open Go.RowKit Go.Proofs.YthbdbgjggoobnaaDoorW.PrintWords
set_option linter.unusedVariables false
/-- The place of a text in a list. -/
def pos : List ByteArray → ByteArray → Option Nat
  | [], _ => none
  | b :: l, p => if b = p then some 0 else (pos l p).map (· + 1)
theorem pos_snoc (l : List ByteArray) (b p : ByteArray) : pos (l ++ [b]) p = match pos l p with | some i => some i | none => if b = p then some l.length else none := by
  induction l with
  | nil => simp [pos]
  | cons x l ih =>
    rw [List.cons_append, pos, pos, ih]
    by_cases h : x = p
    · rw [if_pos h, if_pos h]
    · rw [if_neg h, if_neg h]
      cases pos l p with
      | some i => rfl
      | none =>
        by_cases h2 : b = p
        · rw [if_pos h2, if_pos h2]; rfl
        · rw [if_neg h2, if_neg h2]; rfl
theorem pos_none {l : List ByteArray} {p : ByteArray} : pos l p = none ↔ p ∉ l := by
  induction l with
  | nil => simp [pos]
  | cons x l ih =>
    rw [pos, List.mem_cons]
    by_cases h : x = p
    · rw [if_pos h]; simp [h]
    · rw [if_neg h, Option.map_eq_none_iff, ih]
      exact ⟨fun h2 h3 => h3.elim (fun e => h e.symm) h2, fun h2 h3 => h2 (.inr h3)⟩
theorem pos_lt {l : List ByteArray} {p : ByteArray} {i : Nat} (h : pos l p = some i) : ∃ hi : i < l.length, l[i] = p := by
  induction l generalizing i with
  | nil => cases h
  | cons x l ih =>
    rw [pos] at h
    by_cases hx : x = p
    · rw [if_pos hx] at h
      obtain rfl := Option.some.inj h
      exact ⟨by simp, hx⟩
    · rw [if_neg hx] at h
      obtain ⟨j, hj, rfl⟩ := Option.map_eq_some_iff.1 h
      obtain ⟨h1, h2⟩ := ih hj
      exact ⟨by simpa using h1, by simpa using h2⟩
theorem pos_append (l r : List ByteArray) (p : ByteArray) : pos (l ++ r) p = match pos l p with | some i => some i | none => (pos r p).map (l.length + ·) := by
  induction l with
  | nil =>
    rw [List.nil_append]
    cases pos r p with
    | none => rfl
    | some i => simp [pos]
  | cons x l ih =>
    rw [List.cons_append, pos, pos, ih]
    by_cases h : x = p
    · rw [if_pos h, if_pos h]
    · rw [if_neg h, if_neg h]
      cases pos l p with
      | some i => rfl
      | none =>
        cases pos r p with
        | none => rfl
        | some i => simp only [Option.map_some, List.length_cons]; congr 1; omega
/-- The map m tells of each text of l its place, off on; of others nothing. -/
def MapL (P : Program) (k e : TypeId) (w : World) (m off : Nat) (l : List ByteArray) : Prop :=
  ∃ D : DataW Unit, Maps.IsMap D ∧ w.ownsMap P k (plainElem P e) m l.length D ∧ ∀ p : ByteArray, match pos l p with | none => Maps.has D (.string p.data.toList) = false | some i => ∀ z, D.atKey (.string p.data.toList) z = .lit (.int .i64 ((off + i : Nat) : Int))
/-- What a look-up tells: a number, and whether there is one. -/
def found (off : Nat) (l : List ByteArray) (p : ByteArray) : Int × Bool := match pos l p with | none => (0, false) | some i => (((off + i : Nat) : Int), true)
section
variable {P : Program} {k e t : TypeId} {w w' : World} {m off : Nat} {l : List ByteArray}
theorem MapL.empty (P : Program) (k e : TypeId) (w : World) (off : Nat) : MapL P k e (w.alloc (.map #[] 0)) w.heap.size off [] :=
  ⟨.map [], Maps.isMap_empty, World.ownsMap_made _ _ _ _, fun p => rfl⟩
theorem MapL.lt (h : MapL P k e w m off l) : m < w.heap.size := let ⟨_, _, h2, _⟩ := h; h2.lt
theorem MapL.kept {row : Option Nat} (h : MapL P k e w m off l) (hg : w.grownBy w' row) (hne : some m ≠ row) : MapL P k e w' m off l :=
  let ⟨D, h1, h2, h3⟩ := h; ⟨D, h1, h2.kept hg hne, h3⟩
theorem MapL.same (h : MapL P k e w m off l) (hs : w'.heap[m]? = w.heap[m]?) : MapL P k e w' m off l := by
  obtain ⟨D, h1, ⟨es, clock, he, F, hs', hD⟩, h3⟩ := h
  exact ⟨D, h1, ⟨es, clock, hs.trans he, F, hs', hD⟩, h3⟩
theorem MapL.below {B : Nat} (h : MapL P k e w m off l) (hb : Below B w w') (hlt : m < B) : MapL P k e w' m off l := h.same (hb.block m hlt)
theorem MapL.alloc (h : MapL P k e w m off l) (o : Obj) : MapL P k e (w.alloc o) m off l := let ⟨D, h1, h2, h3⟩ := h; ⟨D, h1, h2.alloc o, h3⟩
theorem MapL.set (h : MapL P k e w m off l) {a : Addr} (hne : m ≠ a.block) (v : Value) : MapL P k e (w.setCell a v) m off l := h.same (Below.heap_setCell w a v m hne)
theorem MapL.look (h : MapL P k e w m off l) (hk : P.underlying k = some .string) (ht : P.underlying t = some (.map k e)) (he : P.underlying e = some (.int .i64)) (hz : (zeroValue e).run P w = .ok (.int .i64 0) w) {p : ByteArray} (hp : p.size ≤ maxLen) :
    (Instr.lookup t (.map (some m)) (.string p) true).run P w = .ok (.tuple #[.int .i64 (found off l p).1, .bool (found off l p).2]) w := by
  obtain ⟨D, hm, ⟨es, clock, hb, F, hs, rfl⟩, hD⟩ := h
  have hd := hD p
  unfold found
  have hne : ∀ x : Lit, (DataW.lit (H := Unit) (.bool true)) = .lit x → (DataW.lit (H := Unit) (.bool false)) = .lit x → False := fun x h1 h2 => by
    rw [← h2] at h1
    injection h1 with h1
    injection h1 with h1
    cases h1
  rcases Maps.fit_look true (Maps.string_keyed hk) ht hz hb F (WideMaps.keyOf_string_mk hk hp) with ⟨hrun, _, hat⟩ | ⟨e0, y, _, _, hrun, hR, hat, _⟩
  · rw [hrun]
    cases hq : pos l p with
    | none => rfl
    | some i =>
      rw [hq] at hd
      exact (hne _ ((hat _).symm.trans (hd _)) ((hat _).symm.trans (hd _))).elim
  · rw [hrun]
    cases hq : pos l p with
    | none =>
      rw [hq] at hd
      have h1 := (hat (.lit (.bool true))).symm.trans (Maps.atKey_of_not_has hd _)
      have h2 := (hat (.lit (.bool false))).symm.trans (Maps.atKey_of_not_has hd _)
      rw [h1] at h2
      injection h2 with h2
      injection h2 with h2
      cases h2
    | some i =>
      rw [hq] at hd
      obtain ⟨a, ha, hy, _⟩ := plainElem_int_inv he hR
      have h1 := (hat (.lit (.bool true))).symm.trans (hd _)
      rw [hy] at h1
      injection h1 with h1
      injection h1 with _ h1
      rw [ha, h1]; rfl
/-- Behind an update with a text that was not there. -/
theorem MapL.snoc {D : DataW Unit} {p : ByteArray} (hm : Maps.IsMap D) (hD : ∀ p : ByteArray, match pos l p with | none => Maps.has D (.string p.data.toList) = false | some i => ∀ z, D.atKey (.string p.data.toList) z = .lit (.int .i64 ((off + i : Nat) : Int)))
    (hown : w'.ownsMap P k (plainElem P e) m (l.length + 1) (D.put (.string p.data.toList) (.lit (.int .i64 ((off + l.length : Nat) : Int))))) (hp : pos l p = none) : MapL P k e w' m off (l ++ [p]) := by
  refine ⟨_, hm.put _ _, by rw [List.length_append, List.length_singleton]; exact hown, fun q => ?_⟩
  rw [pos_snoc]
  by_cases e1 : p = q
  · subst e1
    rw [hp]
    show match (if p = p then some l.length else none) with | none => _ | some i => _
    rw [if_pos rfl]
    intro z
    exact Maps.atKey_put_same hm (show WideAt.IsKeyLit (.string p.data.toList) from trivial) _ _
  · have hne : (Lit.string q.data.toList) ≠ .string p.data.toList := fun e2 => e1 (by
      injection e2 with e2
      exact ByteArray.ext (Array.ext' e2.symm))
    have hq := hD q
    cases hpq : pos l q with
    | none =>
      rw [hpq] at hq
      show match (if p = q then some l.length else none) with | none => _ | some i => _
      rw [if_neg e1]
      show Maps.has _ _ = false
      rw [Maps.has_put_other hne]; exact hq
    | some i =>
      rw [hpq] at hq
      intro z
      rw [Maps.atKey_put_other hne]; exact hq z
end
end Go.Proofs.YthbdbgjggoobnaaDoorX
