/- A map from texts to nodes: what a look-up of it tells, what an update leaves. No condition. -/
import Derived.Test.YtiamdmlbhmgnjaaDoorWWords
import Derived.Maps.OwnOps
import Derived.Maps.Views
namespace Go.Proofs.YtiamdmlbhmgnjaaDoorX
open Go.RowKit Go.Proofs.YtiamdmlbhmgnjaaDoorW.PrintWords
set_option linter.unusedVariables false
/-- A node: its path, its kind, its data. -/
abbrev Tri := ByteArray × Int × ByteArray
/-- The first node of a path. -/
def lookT : List Tri → ByteArray → Option Tri
  | [], _ => none
  | n :: l, p => if n.1 = p then some n else lookT l p
theorem lookT_snoc (l : List Tri) (n : Tri) (p : ByteArray) : lookT (l ++ [n]) p = match lookT l p with | some x => some x | none => if n.1 = p then some n else none := by
  induction l with
  | nil => simp [lookT]
  | cons x l ih =>
    rw [List.cons_append, lookT, lookT, ih]
    by_cases h : x.1 = p
    · rw [if_pos h, if_pos h]
    · rw [if_neg h, if_neg h]
def valT (n : Tri) : Value := .agg #[.string n.1, .int .i64 n.2.1, .string n.2.2]
def datT (n : Tri) : DataW Unit := .agg [.lit (.string n.1.data.toList), .lit (.int .i64 n.2.1), .lit (.string n.2.2.data.toList)]
theorem datT_inj {a b : Tri} (h : datT a = datT b) : a = b := by
  obtain ⟨a1, a2, a3⟩ := a
  obtain ⟨b1, b2, b3⟩ := b
  unfold datT at h
  injection h with h
  simp only [List.cons.injEq, DataW.lit.injEq, Lit.string.injEq, Lit.int.injEq, and_true, true_and] at h
  obtain ⟨h1, h2, h3⟩ := h
  have e1 : a1 = b1 := ByteArray.ext (Array.ext' h1)
  have e3 : a3 = b3 := ByteArray.ext (Array.ext' h3)
  rw [e1, e3, h2]
/-- How a node in a map reads. -/
def nodeR (v : Value) : Option (DataW Unit × List MemPlace) :=
  match v with
  | .agg cs => match cs.toList with
    | [.string p, .int .i64 k, .string d] => some (datT (p, k, d), [])
    | _ => none
  | _ => none
theorem nodeR_val (n : Tri) : nodeR (valT n) = some (datT n, []) := rfl
theorem nodeR_inv {v : Value} {y : DataW Unit × List MemPlace} (h : nodeR v = some y) : ∃ n, v = valT n ∧ y = (datT n, []) := by
  unfold nodeR at h
  split at h
  · rename_i cs
    split at h
    · rename_i p k d hc
      injection h with h
      refine ⟨(p, k, d), ?_, h.symm⟩
      unfold valT
      congr 1
      exact Array.ext' hc
    · cases h
  · cases h
/-- The map m holds each node of l at its path (the first one of it); else nothing. -/
def MapN (P : Program) (k : TypeId) (w : World) (m : Nat) (l : List Tri) : Prop :=
  ∃ D : DataW Unit, Maps.IsMap D ∧ w.ownsMap P k nodeR m l.length D ∧ ∀ p : ByteArray, match lookT l p with | none => Maps.has D (.string p.data.toList) = false | some n => ∀ z, D.atKey (.string p.data.toList) z = datT n
/-- What a look-up tells: a node, and whether there is one. -/
def foundT (l : List Tri) (p : ByteArray) : Tri × Bool := match lookT l p with | none => ((⟨#[]⟩, 0, ⟨#[]⟩), false) | some n => (n, true)
section
variable {P : Program} {k e t : TypeId} {w w' : World} {m : Nat} {l : List Tri}
theorem MapN.empty (P : Program) (k : TypeId) (w : World) : MapN P k (w.alloc (.map #[] 0)) w.heap.size [] :=
  ⟨.map [], Maps.isMap_empty, World.ownsMap_made _ _ _ _, fun p => rfl⟩
theorem MapN.lt (h : MapN P k w m l) : m < w.heap.size := let ⟨_, _, h2, _⟩ := h; h2.lt
theorem MapN.same (h : MapN P k w m l) (hs : w'.heap[m]? = w.heap[m]?) : MapN P k w' m l := by
  obtain ⟨D, h1, ⟨es, clock, he, F, hs', hD⟩, h3⟩ := h
  exact ⟨D, h1, ⟨es, clock, hs.trans he, F, hs', hD⟩, h3⟩
theorem MapN.kept {row : Option Nat} (h : MapN P k w m l) (hg : w.grownBy w' row) (hne : some m ≠ row) : MapN P k w' m l := h.same (hg.block m h.lt hne)
theorem MapN.below {B : Nat} (h : MapN P k w m l) (hb : Below B w w') (hlt : m < B) : MapN P k w' m l := h.same (hb.block m hlt)
theorem MapN.alloc (h : MapN P k w m l) (o : Obj) : MapN P k (w.alloc o) m l := h.below (below_alloc (Below.refl _ _) o) h.lt
theorem MapN.set (h : MapN P k w m l) {a : Addr} (hne : m ≠ a.block) (v : Value) : MapN P k (w.setCell a v) m l := h.same (Below.heap_setCell w a v m hne)
theorem MapN.is_map (h : MapN P k w m l) : ∃ es clock, w.heap[m]? = some (.map es clock) := by
  obtain ⟨D, _, ⟨es, clock, hb, _⟩, _⟩ := h
  exact ⟨es, clock, hb⟩
theorem MapN.look (h : MapN P k w m l) (hk : P.underlying k = some .string) (ht : P.underlying t = some (.map k e)) (hz : (zeroValue e).run P w = .ok (valT (⟨#[]⟩, 0, ⟨#[]⟩)) w) {p : ByteArray} (hp : p.size ≤ maxLen) :
    (Instr.lookup t (.map (some m)) (.string p) true).run P w = .ok (.tuple #[valT (foundT l p).1, .bool (foundT l p).2]) w := by
  obtain ⟨D, hm, ⟨es, clock, hb, F, hs, rfl⟩, hD⟩ := h
  have hd := hD p
  unfold foundT
  have hne : ∀ n : Tri, (DataW.lit (H := Unit) (.bool true)) = datT n → False := fun n h1 => by
    unfold datT at h1
    cases h1
  rcases Maps.fit_look true (Maps.string_keyed hk) ht hz hb F (WideMaps.keyOf_string_mk hk hp) with ⟨hrun, _, hat⟩ | ⟨e0, y, _, _, hrun, hR, hat, _⟩
  · rw [hrun]
    cases hq : lookT l p with
    | none => rfl
    | some n =>
      rw [hq] at hd
      exact (hne n ((hat _).symm.trans (hd _))).elim
  · rw [hrun]
    cases hq : lookT l p with
    | none =>
      rw [hq] at hd
      have h1 := (hat (.lit (.bool true))).symm.trans (Maps.atKey_of_not_has hd _)
      have h2 := (hat (.lit (.bool false))).symm.trans (Maps.atKey_of_not_has hd _)
      rw [h1] at h2
      injection h2 with h2
      injection h2 with h2
      cases h2
    | some n =>
      rw [hq] at hd
      obtain ⟨n', ha, hy⟩ := nodeR_inv hR
      have h1 := (hat (.lit (.bool true))).symm.trans (hd _)
      rw [hy] at h1
      rw [ha, datT_inj h1]; rfl
/-- Behind an update with a node whose path was not there. -/
theorem MapN.snoc {D : DataW Unit} {n : Tri} (hm : Maps.IsMap D) (hD : ∀ p : ByteArray, match lookT l p with | none => Maps.has D (.string p.data.toList) = false | some n => ∀ z, D.atKey (.string p.data.toList) z = datT n)
    (hown : w'.ownsMap P k nodeR m (l.length + 1) (D.put (.string n.1.data.toList) (datT n))) (hp : lookT l n.1 = none) : MapN P k w' m (l ++ [n]) := by
  refine ⟨_, hm.put _ _, by rw [List.length_append, List.length_singleton]; exact hown, fun q => ?_⟩
  rw [lookT_snoc]
  by_cases e1 : n.1 = q
  · subst e1
    rw [hp]
    show match (if n.1 = n.1 then some n else none) with | none => _ | some i => _
    rw [if_pos rfl]
    intro z
    exact Maps.atKey_put_same hm (show WideAt.IsKeyLit (.string n.1.data.toList) from trivial) _ _
  · have hne : (Lit.string q.data.toList) ≠ .string n.1.data.toList := fun e2 => e1 (by
      injection e2 with e2
      exact ByteArray.ext (Array.ext' e2.symm))
    have hq := hD q
    cases hpq : lookT l q with
    | none =>
      rw [hpq] at hq
      show match (if n.1 = q then some n else none) with | none => _ | some i => _
      rw [if_neg e1]
      show Maps.has _ _ = false
      rw [Maps.has_put_other hne]; exact hq
    | some i =>
      rw [hpq] at hq
      intro z
      rw [Maps.atKey_put_other hne]; exact hq z
end
end Go.Proofs.YtiamdmlbhmgnjaaDoorX
