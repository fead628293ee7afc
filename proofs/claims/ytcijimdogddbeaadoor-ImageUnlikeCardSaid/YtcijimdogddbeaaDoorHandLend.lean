/- What is lent: a slice with three marked places of spare room behind its end; that the room stays as it was. No condition. -/
import Derived.Test.YtcijimdogddbeaaDoorWWords
import Derived.Test.YtcijimdogddbeaaDoorWLast
import Derived.Test.YtcijimdogddbeaaDoorWMore
import Derived.Test.YtcijimdogddbeaaDoorWKept
import Derived.ArgAppend
import Derived.Laws.OwnMore
import Derived.Laws.MakeOwn
namespace Go.Proofs.YtcijimdogddbeaaDoorX
open Go.RowKit Go.Proofs.YtcijimdogddbeaaDoorW.PrintWords Go.Proofs.YtcijimdogddbeaaDoorW.PrintLast Go.Proofs.YtcijimdogddbeaaDoorW.PrintMore
set_option linter.unusedVariables false
/-- Behind a slice's end lie three marks (mk: the cells of one), as far as its array goes. -/
def Room (e size : Nat) (mk : List Value) (w : World) (v : Value) : Prop :=
  ∃ g n cap cur, v = .slice (some ⟨g, 0, none⟩) n cap ∧ n + 3 ≤ cap ∧ n ≤ 1000000 ∧ w.heap[g]? = some (.cells cur e (0, 0)) ∧ cur.toList.drop (n * size) = mk ++ (mk ++ mk)
theorem Room.lt {e size : Nat} {mk : List Value} {w : World} {v : Value} (h : Room e size mk w v) (k : Nat) (hk : v.ownBlock = some k) : k < w.heap.size := by
  obtain ⟨g, n, cap, cur, rfl, _, _, hh, _⟩ := h
  have : g = k := by simpa [Value.ownBlock] using hk
  subst this
  exact blk_lt hh
theorem Room.below {e size : Nat} {mk : List Value} {w w1 : World} {v : Value} (h : Room e size mk w v) (hb : Below w.heap.size w w1) : Room e size mk w1 v := by
  obtain ⟨g, n, cap, cur, rfl, h1, h3, hh, h2⟩ := h
  exact ⟨g, n, cap, cur, rfl, h1, h3, (hb.block g (blk_lt hh)).trans hh, h2⟩
theorem Room.kept {e size : Nat} {mk : List Value} {w w1 : World} {v : Value} {S : Nat → Prop} (h : Room e size mk w v) (hk : Kept w w1 S) (hs : ∀ k, v.ownBlock = some k → ¬ S k) : Room e size mk w1 v := by
  obtain ⟨g, n, cap, cur, rfl, h1, h3, hh, h2⟩ := h
  exact ⟨g, n, cap, cur, rfl, h1, h3, blk_kept hh hk (hs g rfl), h2⟩
theorem Room.alloc {e size : Nat} {mk : List Value} {w : World} {v : Value} (h : Room e size mk w v) (o : Obj) : Room e size mk (w.alloc o) v := h.below ((Below.refl _ _).alloc (Nat.le_refl _) o)
theorem Room.as {e size : Nat} {mk : List Value} {w0 w : World} {v : Value} (_h0 : Room e size mk w0 v) (h : Room e size mk w v) : Room e size mk w v := h
theorem Room.far {e size : Nat} {mk : List Value} {w : World} {v : Value} (h : Room e size mk w v) {p : Addr} (hne : ∀ k, v.ownBlock = some k → k ≠ p.block) (u : Value) : Room e size mk (w.setCell p u) v := by
  obtain ⟨g0, n, cap, cur, rfl, h1, h3, hh, h2⟩ := h
  exact ⟨g0, n, cap, cur, rfl, h1, h3, blk_far hh (hne g0 rfl) u, h2⟩
theorem Room.apart {e size : Nat} {mk : List Value} {w : World} {v : Value} (h : Room e size mk w v) {g : Nat} (hg : g = w.heap.size) : ∀ k, v.ownBlock = some k → k ≠ g := fun k hk => by
  subst hg
  exact Nat.ne_of_lt (Room.lt h k hk)
theorem Room.drew {e size : Nat} {mk : List Value} {w : World} {v : Value} (h : Room e size mk w v) : Room e size mk w.drew v := h
theorem Room.drewN {e size : Nat} {mk : List Value} {w : World} {v : Value} (h : Room e size mk w v) (m : Nat) : Room e size mk (w.drewN m) v := h
theorem Room.ne_type {e e' size : Nat} {mk : List Value} {w : World} {v u : Value} {α : Type} {d : Kd α} {base : Nat} {ok : Nat → Prop} {xs : List α} (h : Room e size mk w v) (ho : d.R e' w base ok u xs) (hne : e ≠ e') (k : Nat) (hk : v.ownBlock = some k) (hu : some k = u.ownBlock) : False := by
  obtain ⟨g, n, cap, cur, rfl, _, _, hh, _⟩ := h
  have : g = k := by simpa [Value.ownBlock] using hk
  subst this
  obtain ⟨cells, hc⟩ := own_typed (Kd.R_own ho).choose_spec g hu.symm
  rw [hh] at hc
  injection hc with hc
  injection hc with _ hc
  exact hne hc
/-- Cells that are set one by one, in a block. -/
theorem blk_setCells {g t : Nat} : ∀ (vs : List Value) (o : Nat) (w : World) (pre old post : List Value), w.heap[g]? = some (.cells (pre ++ (old ++ post)).toArray t (0, 0)) → pre.length = o → old.length = vs.length →
    (w.setCells g o vs).heap[g]? = some (.cells (pre ++ (vs ++ post)).toArray t (0, 0))
  | [], o, w, pre, old, post, h, hp, ho => by
    obtain rfl := List.eq_nil_of_length_eq_zero ho
    exact h
  | v :: vs, o, w, pre, old, post, h, hp, ho => by
    cases old with
    | nil => simp at ho
    | cons u old =>
      have h1 := blk_put (cs' := ((pre ++ [v]) ++ (old ++ post)).toArray) h o v (by
        subst hp
        simp)
      have := blk_setCells vs (o + 1) (w.setCell ⟨g, o, none⟩ v) (pre ++ [v]) old post h1 (by simp [hp]) (by simpa using ho)
      simpa [World.setCells] using this
theorem below_setCells {w0 : World} {B g : Nat} : ∀ (vs : List Value) (o : Nat) (w : World), Below B w0 w → B ≤ g → Below B w0 (w.setCells g o vs)
  | [], o, w, h, hg => h
  | v :: vs, o, w, h, hg => below_setCells vs (o + 1) _ (h.setCell hg _) hg
/-- What is put behind a slice with room: whatever is appended. -/
theorem run_append_into {P : Program} (w : World) (t ty e : TypeId) (i : TypeInfo) (ht : P.underlying t = some (.slice e)) (hi : P.info? e = some i)
    (b off sLen sCap : Nat) (A : Option Addr) (m c : Nat) (news : List Value) (hl : news.length = m * i.size) (hA : 0 < m → A ≠ none) (hnews : ∀ a, A = some a → ∀ j u, news[j]? = some u → w.cell? (a.add j) = some u) (h1 : ∀ u ∈ news, u.oneCell' = true)
    (hroom : sLen + m ≤ sCap) (hc : ∀ j, j < news.length → (w.cell? ⟨b, off + sLen * i.size + j, none⟩).isSome = true) (hf : ∀ j, j < news.length → w.frozen? ⟨b, off + sLen * i.size + j, none⟩ = false) :
    (Builtin.append_ #[t, t] ty #[.slice (some ⟨b, off, none⟩) sLen sCap, .slice A m c]).run P w = .ok (.slice (some ⟨b, off, none⟩) (sLen + m) sCap) (w.setCells b (off + sLen * i.size) news) := by
  cases A with
  | some a => exact run_append_room_cells (P := P) w t ty e i ht hi b off sLen sCap a m c news hl (hnews a rfl) h1 hroom hc hf
  | none =>
    obtain rfl : m = 0 := by
      rcases Nat.eq_zero_or_pos m with h | h
      · exact h
      · exact absurd rfl (hA h)
    obtain rfl : news = [] := List.eq_nil_of_length_eq_zero (by rw [hl]; simp)
    have hst := run_storeCells_cells (P := P) b (off + sLen * i.size) [] 0 w (by simp) (by simp) (by simp)
    simp only [Nat.add_zero] at hst
    simp [Builtin.append_, run_underlying ht, sizeOf, typeInfo, hi, Builtin.lenOf, show sLen ≤ sCap by omega, run_firstCells_none, Addr.add_lit, hst]
/-- An append whose run is known. -/
theorem wpList_append_known {P : Program} {w : World} {ops : Array Oper} {rest : List Oper} {o : Oper} {a : Act} {Q : Exit → Act → World → Prop} (hgd : o.guard = none) (s x : Operand) (t tn : TypeId)
    (ho : o.op = .call { callee := .builtin .append, args := #[s, x], argTypes := #[t, tn] }) (vs vx : Value) (hs : a.eval s = vs) (hx : a.eval x = vx)
    (v' : Value) (w' : World) (hr : (Builtin.append_ #[t, tn] o.type #[vs, vx]).run P w = .ok v' w') (h : wpList P ops Q rest (a.put o.dst v') w') : wpList P ops Q (o :: rest) a w := by
  refine wpList_plain hgd fun K hK => ?_
  unfold Oper.wp execOp
  simp only [ho, resolve, invoke, builtin, Sem.run_bind, Sem.run_pure, Result.andThen_ok, List.map_toArray, List.map_cons, List.map_nil, hs, hx, hr]
  exact hK _ _ h
end Go.Proofs.YtcijimdogddbeaaDoorX
