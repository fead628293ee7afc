/- What is lent: a slice with three marked places of spare room behind its end; that the room stays as it was. No condition. -/
import Derived.Test.YtiamdmlbhmgnjaaDoorWWords
import Derived.Test.YtiamdmlbhmgnjaaDoorWLast
import Derived.Test.YtiamdmlbhmgnjaaDoorXMore
import Derived.Test.YtiamdmlbhmgnjaaDoorWKept
import Derived.ArgAppend
import Derived.Laws.OwnMore
import Derived.Laws.MakeOwn
namespace Go.Proofs.YtiamdmlbhmgnjaaDoorX
open Go.RowKit Go.Proofs.YtiamdmlbhmgnjaaDoorW.PrintWords Go.Proofs.YtiamdmlbhmgnjaaDoorW.PrintLast Go.Proofs.YtiamdmlbhmgnjaaDoorW.PrintMore
set_option linter.unusedVariables false
/-- Behind a slice's end lie three marks (mk: the cells of one), as far as its array goes. -/
def Room (e size : Nat) (mk : List Value) (w : World) (v : Value) : Prop :=
  ∃ g n cap cur, v = .slice (some ⟨g, 0, none⟩) n cap ∧ n + 3 ≤ cap ∧ n ≤ 1000000 ∧ w.heap[g]? = some (.cells cur e (0, 0)) ∧ cur.toList.drop (n * size) = mk ++ (mk ++ mk)
theorem Room.lt {e size : Nat} {mk : List Value} {w : World} {v : Value} (h : Room e size mk w v) (k : Nat) (hk : v.ownBlock = some k) : k < w.heap.size := by
  obtain ⟨g, n, cap, cur, rfl, _, _, hh, _⟩ := h
  have : g = k := by simpa [Value.ownBlock] using hk
  subst this
  exact blk_lt hh
theorem Room.below {e size : Nat} {mk : List Value} {w w1 : World} {v : Value} (h : Room e size mk w v) (hb : Below w.heap.size w w1) : Room e size mk w1 v := by
  obtain ⟨g, n, cap, cur, rfl, h1, h3, hh, h2⟩ := h
  exact ⟨g, n, cap, cur, rfl, h1, h3, (hb.block g (blk_lt hh)).trans hh, h2⟩
theorem Room.kept {e size : Nat} {mk : List Value} {w w1 : World} {v : Value} {S : Nat → Prop} (h : Room e size mk w v) (hk : Kept w w1 S) (hs : ∀ k, v.ownBlock = some k → ¬ S k) : Room e size mk w1 v := by
  obtain ⟨g, n, cap, cur, rfl, h1, h3, hh, h2⟩ := h
  exact ⟨g, n, cap, cur, rfl, h1, h3, blk_kept hh hk (hs g rfl), h2⟩
theorem Room.alloc {e size : Nat} {mk : List Value} {w : World} {v : Value} (h : Room e size mk w v) (o : Obj) : Room e size mk (w.alloc o) v := h.below ((Below.refl _ _).alloc (Nat.le_refl _) o)
theorem Room.as {e size : Nat} {mk : List Value} {w0 w : World} {v : Value} (_h0 : Room e size mk w0 v) (h : Room e size mk w v) : Room e size mk w v := h
theorem Room.far {e size : Nat} {mk : List Value} {w : World} {v : Value} (h : Room e size mk w v) {p : Addr} (hne : ∀ k, v.ownBlock = some k → k ≠ p.block) (u : Value) : Room e size mk (w.setCell p u) v := by
  obtain ⟨g0, n, cap, cur, rfl, h1, h3, hh, h2⟩ := h
  exact ⟨g0, n, cap, cur, rfl, h1, h3, blk_far hh (hne g0 rfl) u, h2⟩
theorem Room.apart {e size : Nat} {mk : List Value} {w : World} {v : Value} (h : Room e size mk w v) {g : Nat} (hg : g = w.heap.size) : ∀ k, v.ownBlock = some k → k ≠ g := fun k hk => by
  subst hg
  exact Nat.ne_of_lt (Room.lt h k hk)
theorem Room.drew {e size : Nat} {mk : List Value} {w : World} {v : Value} (h : Room e size mk w v) : Room e size mk w.drew v := h
theorem Room.drewN {e size : Nat} {mk : List Value} {w : World} {v : Value} (h : Room e size mk w v) (m : Nat) : Room e size mk (w.drewN m) v := h
/-- Cells that are set one by one, in a block. -/
theorem blk_setCells {g t : Nat} : ∀ (vs : List Value) (o : Nat) (w : World) (pre old post : List Value), w.heap[g]? = some (.cells (pre ++ (old ++ post)).toArray t (0, 0)) → pre.length = o → old.length = vs.length →
    (w.setCells g o vs).heap[g]? = some (.cells (pre ++ (vs ++ post)).toArray t (0, 0))
  | [], o, w, pre, old, post, h, hp, ho => by
    obtain rfl := List.eq_nil_of_length_eq_zero ho
    exact h
  | v :: vs, o, w, pre, old, post, h, hp, ho => by
    cases old with
    | nil => simp at ho
    | cons u old =>
      have h1 := blk_put (cs' := ((pre ++ [v]) ++ (old ++ post)).toArray) h o v (by
        subst hp
        simp)
      have := blk_setCells vs (o + 1) (w.setCell ⟨g, o, none⟩ v) (pre ++ [v]) old post h1 (by simp [hp]) (by simpa using ho)
      simpa [World.setCells] using this
theorem below_setCells {w0 : World} {B g : Nat} : ∀ (vs : List Value) (o : Nat) (w : World), Below B w0 w → B ≤ g → Below B w0 (w.setCells g o vs)
  | [], o, w, h, hg => h
  | v :: vs, o, w, h, hg => below_setCells vs (o + 1) _ (h.setCell hg _) hg
end Go.Proofs.YtiamdmlbhmgnjaaDoorX
