/- What the claim's reading of an argument says, kind by kind: slices of whatever kind, structs, and these in one another. No condition. -/
import Derived.Test.YthbdbgjggoobnaaDoorWWords
import Derived.Test.YthbdbgjggoobnaaDoorWLast
import Derived.Deep.Slices
import Derived.ChangeArms
import Derived.DataReads
namespace Go.Proofs.YthbdbgjggoobnaaDoorX
open Go.RowKit Go.ChangeShapes Go.WideShapes Go.Proofs.YthbdbgjggoobnaaDoorW.PrintWords Go.Proofs.YthbdbgjggoobnaaDoorW.PrintLast
set_option linter.unusedVariables false
/-- What is read at type t is a value of kind d. -/
def Opens {α : Type} (P : Program) (d : Kd α) (t : TypeId) (wf : α → Prop) : Prop :=
  ∀ (H : Type) (enc : TypeId × Value → H) (w : World) (base : Nat) (spare : Nat → Bool) (held : Bool) (fuel : Nat) (cs : List Value) (x : DataW H × List MemPlace), DataW.trod enc P w base spare held fuel t cs = some x → ∃ a, d.K w a cs ∧ wf a
/-- The same of fields that follow one another. -/
def OpensFs {α : Type} (P : Program) (d : Kd α) (fs : List Field) (off : Nat) (wf : α → Prop) : Prop :=
  ∀ (H : Type) (enc : TypeId × Value → H) (w : World) (base : Nat) (spare : Nat → Bool) (held : Bool) (n : Nat) (cs : List Value), (∀ f ∈ fs, ∃ y, DataW.trod enc P w base spare held n f.type ((cs.drop f.offset).take (P.cellsOf f.type)) = some y) → ∃ a, d.K w a ((cs.drop off).take d.sz) ∧ wf a
section
variable {α β : Type} {P : Program} {t : TypeId}
theorem Opens.int {k : IntKind} (ht : P.underlying t = some (.int k)) : Opens P (Kd.int k) t (fun n => (Lit.int k n).wf = true) := by
  intro H enc w base spare held fuel cs x h
  obtain ⟨n, rfl, _, hw⟩ := DataW.trod_int ht h
  exact ⟨n, rfl, hw⟩
theorem Opens.bool (ht : P.underlying t = some .bool) : Opens P Kd.bool t (fun _ => True) := by
  intro H enc w base spare held fuel cs x h
  obtain ⟨n, rfl, _⟩ := DataW.trod_bool ht h
  exact ⟨n, rfl, trivial⟩
theorem Opens.string (ht : P.underlying t = some .string) : Opens P Kd.string t (fun s => s.size ≤ maxLen) := by
  intro H enc w base spare held fuel cs x h
  obtain ⟨n, rfl, _, hw⟩ := DataW.trod_string ht h
  exact ⟨n, rfl, hw⟩
theorem Opens.slice {e : TypeId} {E : Nat} {d : Kd α} {wf : α → Prop} (ht : P.underlying t = some (.slice e)) (hsz : P.cellsOf e = d.sz) (h0 : Opens P d e wf) : Opens P (Kd.slice E d) t (fun l => l.length ≤ maxLen ∧ ∀ a ∈ l, wf a) := by
  intro H enc w base spare held fuel cs x h
  rcases Go.Deep.open_slice ht h with ⟨rfl, _⟩ | ⟨a, len, cap, m, n, D, Pl, rfl, _, hl, hm, hmm, _, hi⟩
  · refine ⟨[], ⟨none, 0, rfl, Nat.le_refl _, rfl, by simp, fun hp => absurd hp (by simp)⟩, by simp [maxLen], by simp⟩
  · have hlm : len ≤ m := by rw [hmm]; split <;> omega
    have hex : ∀ q : Nat, q ≤ len → ∃ l : List α, l.length = q ∧ ∀ i v, l[i]? = some v → (wf v ∧ ∃ c : List Value, c.length = d.sz ∧ d.K w v c ∧ ∀ j u, c[j]? = some u → w.cell? (a.add (i * d.sz + j)) = some u) := by
      intro q
      induction q with
      | zero => exact fun _ => ⟨[], rfl, fun i v hv => by simp at hv⟩
      | succ q ih =>
        intro hq
        obtain ⟨l, hl', hf⟩ := ih (by omega)
        obtain ⟨cs', hc, htr⟩ := hi q (by omega)
        obtain ⟨v, hv, hw⟩ := h0 H enc w base spare held n cs' _ htr
        obtain ⟨_, hcl, hat⟩ := World.cells?_some hc
        refine ⟨l ++ [v], by simp [hl'], fun i v' hv' => ?_⟩
        rcases Nat.lt_or_ge i q with g | g
        · rw [List.getElem?_append_left (by omega)] at hv'
          exact hf i v' hv'
        · have hiq : i = q := by
            rcases Nat.lt_or_ge i (q + 1) with g' | g'
            · omega
            · rw [List.getElem?_eq_none (by simp; omega)] at hv'; cases hv'
          subst hiq
          rw [List.getElem?_append_right (by omega), hl', Nat.sub_self] at hv'
          obtain rfl : v = v' := by simpa using hv'
          refine ⟨hw, cs', by rw [hcl, hsz], hv, fun j u hu => ?_⟩
          have hj : j < P.cellsOf e := by
            rw [← hcl]
            rcases Nat.lt_or_ge j cs'.length with g | g
            · exact g
            · rw [List.getElem?_eq_none g] at hu; cases hu
          rw [← hsz, ← Go.Deep.add_add, hat j hj, hu]
    obtain ⟨l, hl', hf⟩ := hex len (Nat.le_refl _)
    have hlm' : l.length ≤ maxLen := by omega
    refine ⟨l, ⟨some a, cap, by rw [hl'], by omega, rfl, by unfold maxLen at hlm'; exact hlm', fun _ => ⟨a, rfl, fun j p hp => ?_⟩⟩, hlm', fun v hv => ?_⟩
    · obtain ⟨_, c, h1, h2, h3⟩ := hf j p hp
      exact ⟨c, h1, h2, h3⟩
    · obtain ⟨i, hi', rfl⟩ := List.mem_iff_getElem.1 hv
      exact (hf i _ (List.getElem?_eq_getElem hi')).1
theorem OpensFs.one {d : Kd α} {f : Field} {wf : α → Prop} (hsz : P.cellsOf f.type = d.sz) (h0 : Opens P d f.type wf) : OpensFs P d [f] f.offset wf := by
  intro H enc w base spare held n cs h
  obtain ⟨y, hy⟩ := h f (by simp)
  rw [hsz] at hy
  exact h0 H enc w base spare held n _ _ hy
theorem OpensFs.cons {d : Kd α} {d' : Kd β} {f : Field} {fs : List Field} {wf : α → Prop} {wf' : β → Prop} (hsz : P.cellsOf f.type = d.sz) (h0 : Opens P d f.type wf) (h1 : OpensFs P d' fs (f.offset + d.sz) wf') :
    OpensFs P (Kd.pair d d') (f :: fs) f.offset (fun x => wf x.1 ∧ wf' x.2) := by
  intro H enc w base spare held n cs h
  obtain ⟨y, hy⟩ := h f (by simp)
  rw [hsz] at hy
  obtain ⟨a, ha, wa⟩ := h0 H enc w base spare held n _ _ hy
  obtain ⟨b, hb, wb⟩ := h1 H enc w base spare held n cs (fun g hg => h g (List.mem_cons_of_mem _ hg))
  refine ⟨(a, b), ⟨_, _, ?_, ha, hb⟩, wa, wb⟩
  show List.take (d.sz + d'.sz) (List.drop f.offset cs) = _
  rw [List.take_add, List.drop_drop]
theorem Opens.struct {d : Kd α} {fs : Array Field} {wf : α → Prop} (ht : P.underlying t = some (.struct fs)) (hsz : P.cellsOf t = d.sz) (h0 : OpensFs P d fs.toList 0 wf) : Opens P d t wf := by
  intro H enc w base spare held fuel cs x h
  obtain ⟨xs, n, _, _, hl, hxl, hf⟩ := DataW.trod_struct ht h
  obtain ⟨a, ha, wa⟩ := h0 H enc w base spare held n cs (fun f hf' => by
    obtain ⟨i, hi, rfl⟩ := List.mem_iff_getElem.1 hf'
    have hi' : i < fs.size := by simpa using hi
    have := hf i (fs[i]'hi') (Array.getElem?_eq_getElem hi')
    rw [List.getElem?_eq_getElem (show i < xs.length by omega)] at this
    exact ⟨_, by simpa using this⟩)
  rw [List.drop_zero, List.take_of_length_le (by omega)] at ha
  exact ⟨a, ha, wa⟩
theorem Opens.iso {d : Kd α} {f : β → α} (g : α → β) (hg : ∀ a, f (g a) = a) {wf : α → Prop} (h0 : Opens P d t wf) : Opens P (Kd.iso d f) t (fun b => wf (f b)) := by
  intro H enc w base spare held fuel cs x h
  obtain ⟨a, ha, wa⟩ := h0 H enc w base spare held fuel cs x h
  exact ⟨g a, by show d.K w (f (g a)) cs; rw [hg]; exact ha, by show wf (f (g a)); rw [hg]; exact wa⟩
end
end Go.Proofs.YthbdbgjggoobnaaDoorX
