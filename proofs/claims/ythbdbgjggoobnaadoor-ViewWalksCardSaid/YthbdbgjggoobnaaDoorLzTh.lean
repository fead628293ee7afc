/- The printed functions of package blocks, and the law's own, are plain ones: texts in pieces, numbers of pieces, pieces by numbers. -/
import Derived.Test.YthbdbgjggoobnaaDoorPx
import Derived.Test.YthbdbgjggoobnaaDoorNarTh
namespace Go.Proofs.YthbdbgjggoobnaaDoor.Tab
open Go.RowKit Go.Proofs.YthbdbgjggoobnaaDoorX Go.Proofs.YthbdbgjggoobnaaDoorW.PrintWords Go.Proofs.YthbdbgjggoobnaaDoorW.PrintLast Go.Proofs.YthbdbgjggoobnaaDoorW.PrintMore Go.Proofs.YthbdbgjggoobnaaDoor.P Go.Proofs.YthbdbgjggoobnaaDoor.Bs
set_option linter.unusedVariables false
set_option linter.unusedSimpArgs false
/-- A text in pieces (n rounds). -/
def cutN : Nat → ByteArray → List ByteArray
  | 0, _ => []
  | n + 1, s => if 64 < s.size then s.extract 0 64 :: cutN n (s.extract 64 s.size) else if s.size = 0 then [] else [s]
def cutL (s : ByteArray) : List ByteArray := cutN (s.size + 1) s
theorem size_drop (s : ByteArray) : (s.extract 64 s.size).size = s.size - 64 := by rw [ByteArray.size_extract]; omega
theorem cutN_any : ∀ n m s, s.size < n → s.size < m → cutN n s = cutN m s
  | 0, _, s, h, _ => absurd h (by omega)
  | _, 0, s, _, h => absurd h (by omega)
  | n + 1, m + 1, s, h1, h2 => by
    rw [cutN, cutN]
    by_cases h : 64 < s.size
    · rw [if_pos h, if_pos h, cutN_any n m _ (by rw [size_drop]; omega) (by rw [size_drop]; omega)]
    · rw [if_neg h, if_neg h]
theorem cutL_step (s : ByteArray) : cutL s = if 64 < s.size then s.extract 0 64 :: cutL (s.extract 64 s.size) else if s.size = 0 then [] else [s] := by
  unfold cutL
  rw [cutN]
  by_cases h : 64 < s.size
  · rw [if_pos h, if_pos h, cutN_any s.size ((s.extract 64 s.size).size + 1) _ (by rw [size_drop]; omega) (by omega)]
  · rw [if_neg h, if_neg h]
/-- Each piece has 1 to 64 bytes; they are as many as are begun; one behind the other they are the text. -/
theorem cutL_facts : ∀ n (s : ByteArray), s.size ≤ n → (∀ p ∈ cutL s, 1 ≤ p.size ∧ p.size ≤ 64) ∧ (cutL s).length = (s.size + 63) / 64 ∧ ((cutL s).map bytesOf).flatten = bytesOf s
  | n, s, hn => by
    rw [cutL_step]
    by_cases h : 64 < s.size
    · obtain ⟨h1, h2, h3⟩ := cutL_facts (n - 64) (s.extract 64 s.size) (by rw [size_drop]; omega)
      have hs : (s.extract 0 64).size = 64 := by rw [ByteArray.size_extract]; omega
      rw [if_pos h]
      refine ⟨fun p hp => ?_, ?_, ?_⟩
      · rcases List.mem_cons.1 hp with rfl | hp
        · omega
        · exact h1 p hp
      · rw [List.length_cons, h2, size_drop]; omega
      · rw [List.map_cons, List.flatten_cons, h3, bytesOf_extract, bytesOf_extract, List.drop_zero]
        have e1 : (bytesOf s).take s.size = bytesOf s := List.take_of_length_le (by rw [bytesOf_length]; omega)
        rw [e1, List.take_append_drop]
    · rw [if_neg h]
      by_cases h0 : s.size = 0
      · rw [if_pos h0]
        have e1 : bytesOf s = [] := List.eq_nil_of_length_eq_zero (by rw [bytesOf_length]; exact h0)
        exact ⟨fun p hp => absurd hp (by simp), by rw [h0]; rfl, by rw [e1]; rfl⟩
      · rw [if_neg h0]
        refine ⟨fun p hp => ?_, ?_, ?_⟩
        · rw [List.mem_singleton.1 hp]; omega
        · rw [List.length_singleton]; omega
        · simp
  termination_by n s => s.size
  decreasing_by rw [size_drop]; omega
theorem cutL_inj {s t : ByteArray} (h : cutL s = cutL t) : s = t := bytesOf_inj (by rw [← (cutL_facts _ s (Nat.le_refl _)).2.2, ← (cutL_facts _ t (Nat.le_refl _)).2.2, h])
theorem cut_l0 : ∀ k (s : ByteArray) acc, s.size / 64 < k → s.size ≤ 1000000 → acc.length ≤ 1000000000 - s.size → blocks_Cut.l0 k s acc = some (acc ++ cutL s)
  | 0, s, acc, h, _, _ => absurd h (by omega)
  | k + 1, s, acc, hk, hs, ha => by
    rw [blocks_Cut.l0, cutL_step]
    by_cases h : 64 < s.size
    · rw [if_pos (by omega), if_pos (by omega), if_pos (by omega), if_pos (by omega), if_pos h, cut_l0 k _ _ (by rw [size_drop]; omega) (by rw [size_drop]; omega) (by rw [size_drop, List.length_append, List.length_singleton]; omega), List.append_assoc, List.singleton_append]
    · rw [if_neg (by omega), if_neg h]
      by_cases h0 : s.size = 0
      · have e1 : bytesOf s = [] := List.eq_nil_of_length_eq_zero (by rw [bytesOf_length]; exact h0)
        rw [if_pos (toList_nil.2 e1), if_pos h0, List.append_nil]
      · have e1 : ¬ s.toList = [] := fun e => h0 (by rw [size_bytes, toList_nil.1 e]; rfl)
        rw [if_neg e1, if_neg h0, if_pos (by omega)]
theorem cut_f {k : Nat} {s : ByteArray} (hk : s.size / 64 < k) (hs : s.size ≤ 1000000) : blocks_Cut.f k s = some (cutL s) := by
  rw [blocks_Cut.f, cut_l0 k s [] hk hs (by simp), List.nil_append]
theorem put_f {k : Nat} {L : List ByteArray} {b : Bool} {s : ByteArray} (hk : s.size / 64 < k) (hs : s.size ≤ 1000000) : blocks_Table_Put.f k L b s = some ((putOf L (cutL s)).1, (putOf L (cutL s)).2.1, (putOf L (cutL s)).2.2, b) := by
  have hf := cutL_facts _ s (Nat.le_refl _)
  rw [blocks_Table_Put.f, cut_f hk hs, some_bind, if_pos ⟨by rw [hf.2.1]; omega, fun p hp => by have := (hf.1 p hp).2; unfold maxLen; omega⟩]
/-! ### what is put stands there -/
theorem putGo_len (L : List ByteArray) : ∀ ps F, (putGo L F ps).1.length = ps.length
  | [], F => rfl
  | p :: ps, F => by
    rw [putGo]
    cases pos (L ++ F) p <;> simp [putGo_len L ps]
theorem putGo_pre (L : List ByteArray) : ∀ ps F, ∃ G, (putGo L F ps).2 = F ++ G ∧ G.length ≤ ps.length
  | [], F => ⟨[], by simp [putGo], by simp⟩
  | p :: ps, F => by
    rw [putGo]
    cases pos (L ++ F) p with
    | some i =>
      obtain ⟨G, h1, h2⟩ := putGo_pre L ps F
      exact ⟨G, h1, by simp; omega⟩
    | none =>
      obtain ⟨G, h1, h2⟩ := putGo_pre L ps (F ++ [p])
      exact ⟨p :: G, by rw [h1, List.append_assoc]; rfl, by simp; omega⟩
/-- Each number is that of its piece, at the end. -/
theorem putGo_at (L : List ByteArray) : ∀ ps F j (hj : j < ps.length), ∃ i : Nat, (putGo L F ps).1[j]? = some (i : Int) ∧ (L ++ (putGo L F ps).2)[i]? = some ps[j]
  | [], F, j, hj => absurd hj (by simp)
  | p :: ps, F, j, hj => by
    rw [putGo]
    cases hp : pos (L ++ F) p with
    | some i =>
      cases j with
      | zero =>
        obtain ⟨G, h1, h2⟩ := putGo_pre L ps F
        obtain ⟨hi, he⟩ := pos_lt hp
        refine ⟨i, rfl, ?_⟩
        show (L ++ (putGo L F ps).2)[i]? = some p
        rw [h1, ← List.append_assoc, List.getElem?_append_left hi, List.getElem?_eq_getElem hi, he]
      | succ j =>
        obtain ⟨i', h1, h2⟩ := putGo_at L ps F j (by simpa using hj)
        exact ⟨i', h1, h2⟩
    | none =>
      cases j with
      | zero =>
        obtain ⟨G, h1, h2⟩ := putGo_pre L ps (F ++ [p])
        refine ⟨L.length + F.length, rfl, ?_⟩
        show (L ++ (putGo L (F ++ [p]) ps).2)[L.length + F.length]? = some p
        rw [h1, ← List.append_assoc, ← List.append_assoc, List.getElem?_append_left (by simp), List.getElem?_append_right (by simp)]
        simp
      | succ j =>
        obtain ⟨i', h1, h2⟩ := putGo_at L ps (F ++ [p]) j (by simpa using hj)
        exact ⟨i', h1, h2⟩
/-- No text twice. -/
theorem nodup_new {L : List ByteArray} (hL : L.Nodup) {F : List ByteArray} (h : NewIn L F) : ∀ n, n ≤ F.length → (L ++ F.take n).Nodup
  | 0, _ => by simpa using hL
  | n + 1, hn => by
    have ih := nodup_new hL h n (by omega)
    rw [List.take_succ_eq_append_getElem (by omega : n < F.length), ← List.append_assoc, List.nodup_append]
    exact ⟨ih, by simp, fun a ha b hb e => by
      rw [List.mem_singleton.1 hb] at e
      exact pos_none.1 (h n (by omega)) (e ▸ ha)⟩
theorem putGo_nodup {L : List ByteArray} (hL : L.Nodup) (ps : List ByteArray) : (L ++ (putGo L [] ps).2).Nodup := by
  have h := nodup_new hL (putGo_new L ps [] (NewIn.nil L)).1 _ (Nat.le_refl _)
  rwa [List.take_length] at h
/-- All that is new is of the pieces. -/
theorem putGo_mem (L : List ByteArray) : ∀ ps F p, p ∈ (putGo L F ps).2 → p ∈ F ∨ p ∈ ps
  | [], F, p, h => .inl h
  | q :: ps, F, p, h => by
    rw [putGo] at h
    cases hq : pos (L ++ F) q with
    | some i =>
      rw [hq] at h
      exact (putGo_mem L ps F p h).imp id (List.mem_cons_of_mem _)
    | none =>
      rw [hq] at h
      rcases putGo_mem L ps (F ++ [q]) p h with h | h
      · rcases List.mem_append.1 h with h | h
        · exact .inl h
        · exact .inr (by rw [List.mem_singleton.1 h]; exact List.mem_cons_self)
      · exact .inr (List.mem_cons_of_mem _ h)
theorem nodup_at {L : List ByteArray} (hL : L.Nodup) {i j : Nat} (hi : i < L.length) (hj : j < L.length) (h : L[i] = L[j]) : i = j := by
  have hp := List.pairwise_iff_getElem.1 hL
  rcases Nat.lt_trichotomy i j with h1 | h1 | h1
  · exact absurd h (hp i j hi hj h1)
  · exact h1
  · exact absurd h.symm (hp j i hj hi h1)
theorem pos_of {L : List ByteArray} (hL : L.Nodup) {i : Nat} (hi : i < L.length) : pos L L[i] = some i := by
  cases h : pos L L[i] with
  | none => exact absurd (List.getElem_mem hi) (pos_none.1 h)
  | some j =>
    obtain ⟨hj, he⟩ := pos_lt h
    rw [nodup_at hL hj hi he]
/-! ### the law's own loops -/
theorem rd_nat (xs : List Int) (i : Nat) (h : i < xs.length) : rd xs (i : Int) = xs[i] := by
  unfold rd
  rw [Int.toNat_natCast, List.getD_eq_getElem?_getD, List.getElem?_eq_getElem h]; rfl
theorem rdOf_nat (xs : List ByteArray) (i : Nat) (h : i < xs.length) : rdOf ByteArray.empty xs (i : Int) = xs[i] := by
  unfold rdOf
  rw [Int.toNat_natCast, List.getD_eq_getElem?_getD, List.getElem?_eq_getElem h]; rfl
theorem w_1 {i : Nat} (h : i ≤ 1000000000) : wrap64 ((i : Int) + 1) = ((i + 1 : Nat) : Int) := by rw [wrap_in (by omega) (by omega)]; omega
end Go.Proofs.YthbdbgjggoobnaaDoor.Tab
/- What was put stands in the table: numbers of pieces, and the texts that come of them. No condition. -/
namespace Go.Proofs.YthbdbgjggoobnaaDoor.Tab
open Go.RowKit Go.Proofs.YthbdbgjggoobnaaDoorX Go.Proofs.YthbdbgjggoobnaaDoorW.PrintWords Go.Proofs.YthbdbgjggoobnaaDoorW.PrintLast Go.Proofs.YthbdbgjggoobnaaDoorW.PrintMore Go.Proofs.YthbdbgjggoobnaaDoor.P Go.Proofs.YthbdbgjggoobnaaDoor.Bs
set_option linter.unusedVariables false
set_option linter.unusedSimpArgs false
/-- The numbers a are those of the pieces ps. -/
def Got (L : List ByteArray) (a : List Int) (ps : List ByteArray) : Prop := a.length = ps.length ∧ ∀ j, j < ps.length → ∃ i : Nat, a[j]? = some (i : Int) ∧ L[i]? = ps[j]?
theorem Got.more {L G : List ByteArray} {a : List Int} {ps : List ByteArray} (h : Got L a ps) : Got (L ++ G) a ps := ⟨h.1, fun j hj => by
  obtain ⟨i, h1, h2⟩ := h.2 j hj
  rw [List.getElem?_eq_getElem hj] at h2
  refine ⟨i, h1, ?_⟩
  have hi := (List.getElem?_eq_some_iff.1 h2).1
  rw [List.getElem?_append_left hi, h2, List.getElem?_eq_getElem hj]⟩
theorem Got.of (L : List ByteArray) (ps : List ByteArray) : Got (L ++ (putGo L [] ps).2) (putGo L [] ps).1 ps := ⟨putGo_len L ps [], fun j hj => by
  obtain ⟨i, h1, h2⟩ := putGo_at L ps [] j hj
  exact ⟨i, h1, by rw [h2, List.getElem?_eq_getElem hj]⟩⟩
theorem Got.texts {L : List ByteArray} {a : List Int} {ps qs : List ByteArray} (h : Got L a ps) (k : Got L a qs) : ps = qs := by
  refine List.ext_getElem? (fun j => ?_)
  by_cases hj : j < ps.length
  · obtain ⟨i, h1, h2⟩ := h.2 j hj
    obtain ⟨i', h3, h4⟩ := k.2 j (by rw [← k.1, h.1]; exact hj)
    rw [h1] at h3
    obtain rfl : i = i' := by injection h3 with h3; omega
    rw [← h2, h4]
  · rw [List.getElem?_eq_none (by omega), List.getElem?_eq_none (by rw [← k.1, h.1]; omega)]
theorem Got.same {L : List ByteArray} (hL : L.Nodup) {a b : List Int} {ps : List ByteArray} (h : Got L a ps) (k : Got L b ps) : a = b := by
  refine List.ext_getElem? (fun j => ?_)
  by_cases hj : j < ps.length
  · obtain ⟨i, h1, h2⟩ := h.2 j hj
    obtain ⟨i', h3, h4⟩ := k.2 j hj
    rw [List.getElem?_eq_getElem hj] at h2 h4
    obtain ⟨q1, q2⟩ := List.getElem?_eq_some_iff.1 h2
    obtain ⟨q3, q4⟩ := List.getElem?_eq_some_iff.1 h4
    obtain rfl := nodup_at hL q1 q3 (by rw [q2, q4])
    rw [h1, h3]
  · rw [List.getElem?_eq_none (by rw [h.1]; omega), List.getElem?_eq_none (by rw [k.1]; omega)]
/-- A table's blocks: each once, of 1 to 64 bytes. -/
def GoodT (L : List ByteArray) : Prop := L.Nodup ∧ ∀ p ∈ L, 1 ≤ p.size ∧ p.size ≤ 64
theorem GoodT.put {L : List ByteArray} (h : GoodT L) (s : ByteArray) : GoodT (L ++ (putGo L [] (cutL s)).2) := ⟨putGo_nodup h.1 _, fun p hp => by
  rcases List.mem_append.1 hp with hp | hp
  · exact h.2 p hp
  · rcases putGo_mem L (cutL s) [] p hp with h1 | h1
    · cases h1
    · exact (cutL_facts _ s (Nat.le_refl _)).1 p h1⟩
theorem put_some {L : List ByteArray} {b : Bool} {s : ByteArray} {k : Nat} (hk : s.size / 64 < k) (hs : s.size ≤ 1000000) (hL : L.length + (s.size + 63) / 64 ≤ 4000) : blocks_Table_Put.f k L b s = some ((putGo L [] (cutL s)).1, 0, L ++ (putGo L [] (cutL s)).2, b) ∧ (L ++ (putGo L [] (cutL s)).2).length ≤ L.length + (s.size + 63) / 64 := by
  obtain ⟨G, h1, h2⟩ := putGo_pre L (cutL s) []
  have hf := (cutL_facts _ s (Nat.le_refl _)).2.1
  have hG : (putGo L [] (cutL s)).2.length ≤ (s.size + 63) / 64 := by rw [h1, List.nil_append, ← hf]; exact h2
  refine ⟨?_, by rw [List.length_append]; omega⟩
  rw [put_f hk hs]
  unfold putOf
  rw [if_neg (by omega)]
end Go.Proofs.YthbdbgjggoobnaaDoor.Tab
/- Packing and unpacking of bytes, in plain Lean: what a match is, what packed bytes are, and that unpacking is its inverse. -/
namespace Go.Proofs.YthbdbgjggoobnaaDoor.Lz
open Go.RowKit Go.Proofs.YthbdbgjggoobnaaDoorW.PrintWords Go.Proofs.YthbdbgjggoobnaaDoor.Bs

def el (l : List Int) (i : Nat) : Int := l.getD i 0

theorem el_append_left {a b : List Int} {i : Nat} (h : i < a.length) : el (a ++ b) i = el a i := by
  simp [el, List.getD_eq_getElem?_getD, List.getElem?_append_left h]
theorem el_append_right {a b : List Int} {i : Nat} (h : a.length ≤ i) : el (a ++ b) i = el b (i - a.length) := by
  simp [el, List.getD_eq_getElem?_getD, List.getElem?_append_right h]
theorem el_take {l : List Int} {n i : Nat} (h : i < n) : el (l.take n) i = el l i := by
  simp [el, List.getD_eq_getElem?_getD, h]
theorem take_el {l : List Int} {i : Nat} (h : i < l.length) : l.take (i + 1) = l.take i ++ [el l i] := by
  rw [List.take_succ_eq_append_getElem h]; simp [el, List.getD_eq_getElem?_getD, h]

/-! ### matches -/
def mlenF (l : List Int) (i d : Nat) : Nat → Nat → Nat
  | 0, n => n
  | f + 1, n => if i + n < l.length ∧ el l (i + n) = el l (i + n - d) then mlenF l i d f (n + 1) else n
def mlen (l : List Int) (i d : Nat) : Nat := mlenF l i d 130 0
def bestF (l : List Int) (i : Nat) : Nat → Nat → Nat × Nat → Nat × Nat
  | 0, _, b => b
  | f + 1, d, b => bestF l i f (d + 1) (if b.1 < mlen l i d then (mlen l i d, d) else b)
def best (l : List Int) (i : Nat) : Nat × Nat := bestF l i (min i 255) 1 (0, 0)
def mch (l : List Int) (i : Nat) : Nat × Nat := if i < l.length then (if (best l i).1 < 3 then (0, 0) else best l i) else (0, 0)

theorem mlenF_spec (l : List Int) (i d : Nat) : ∀ f n, n ≤ mlenF l i d f n ∧ mlenF l i d f n ≤ n + f ∧
    (∀ j, n ≤ j → j < mlenF l i d f n → i + j < l.length ∧ el l (i + j) = el l (i + j - d)) ∧
    (mlenF l i d f n = n + f ∨ l.length ≤ i + mlenF l i d f n ∨ el l (i + mlenF l i d f n) ≠ el l (i + mlenF l i d f n - d)) := by
  intro f
  induction f with
  | zero => intro n; exact ⟨Nat.le_refl _, Nat.le_refl _, fun j h h' => absurd h' (by simp [mlenF]; omega), .inl rfl⟩
  | succ f ih =>
    intro n
    unfold mlenF
    by_cases h : i + n < l.length ∧ el l (i + n) = el l (i + n - d)
    · rw [if_pos h]
      obtain ⟨h1, h2, h3, h4⟩ := ih (n + 1)
      refine ⟨by omega, by omega, fun j hj hj' => ?_, ?_⟩
      · by_cases e : j = n
        · subst e; exact h
        · exact h3 j (by omega) hj'
      · rcases h4 with h4 | h4
        · exact .inl (by omega)
        · exact .inr h4
    · rw [if_neg h]
      refine ⟨Nat.le_refl _, by omega, fun j h1 h2 => by omega, .inr ?_⟩
      by_cases e : i + n < l.length
      · exact .inr (fun he => h ⟨e, he⟩)
      · exact .inl (by omega)

theorem mlen_spec (l : List Int) (i d : Nat) : mlen l i d ≤ 130 ∧ (∀ j, j < mlen l i d → i + j < l.length ∧ el l (i + j) = el l (i + j - d)) ∧
    (mlen l i d = 130 ∨ l.length ≤ i + mlen l i d ∨ el l (i + mlen l i d) ≠ el l (i + mlen l i d - d)) := by
  obtain ⟨_, h2, h3, h4⟩ := mlenF_spec l i d 130 0
  exact ⟨by simpa [mlen] using h2, fun j hj => h3 j (by omega) hj, by simpa [mlen] using h4⟩
theorem mlen_len (l : List Int) (i d : Nat) (hi : i ≤ l.length) : i + mlen l i d ≤ l.length := by
  rcases Nat.eq_zero_or_pos (mlen l i d) with h | h
  · omega
  · have := ((mlen_spec l i d).2.1 (mlen l i d - 1) (by omega)).1
    omega

theorem bestF_spec (l : List Int) (i : Nat) : ∀ f d b, (bestF l i f d b = b ∨ ∃ e, d ≤ e ∧ e < d + f ∧ bestF l i f d b = (mlen l i e, e)) ∧
    b.1 ≤ (bestF l i f d b).1 ∧ (∀ e, d ≤ e → e < d + f → mlen l i e ≤ (bestF l i f d b).1) := by
  intro f
  induction f with
  | zero => intro d b; exact ⟨.inl rfl, Nat.le_refl _, fun e h h' => by omega⟩
  | succ f ih =>
    intro d b
    unfold bestF
    obtain ⟨h1, h2, h3⟩ := ih (d + 1) (if b.1 < mlen l i d then (mlen l i d, d) else b)
    have hb : b.1 ≤ (if b.1 < mlen l i d then (mlen l i d, d) else b).1 ∧ mlen l i d ≤ (if b.1 < mlen l i d then (mlen l i d, d) else b).1 := by
      split
      · constructor <;> simp only <;> omega
      · constructor <;> omega
    refine ⟨?_, by omega, fun e he he' => ?_⟩
    · rcases h1 with h1 | ⟨e, he, he', h1⟩
      · rw [h1]
        split
        · exact .inr ⟨d, by omega, by omega, rfl⟩
        · exact .inl rfl
      · exact .inr ⟨e, by omega, by omega, h1⟩
    · by_cases e1 : e = d
      · subst e1; omega
      · exact h3 e (by omega) (by omega)

theorem best_spec (l : List Int) (i : Nat) : (best l i = (0, 0) ∨ ∃ e, 1 ≤ e ∧ e ≤ i ∧ e ≤ 255 ∧ best l i = (mlen l i e, e)) ∧ (∀ e, 1 ≤ e → e ≤ i → e ≤ 255 → mlen l i e ≤ (best l i).1) := by
  obtain ⟨h1, _, h3⟩ := bestF_spec l i (min i 255) 1 (0, 0)
  refine ⟨?_, fun e h h' h'' => h3 e h (by omega)⟩
  rcases h1 with h1 | ⟨e, h, h', h1⟩
  · exact .inl h1
  · exact .inr ⟨e, h, by omega, by omega, h1⟩

theorem mch_spec (l : List Int) (i : Nat) : mch l i = (0, 0) ∨ (3 ≤ (mch l i).1 ∧ (mch l i).1 ≤ 130 ∧ 1 ≤ (mch l i).2 ∧ (mch l i).2 ≤ 255 ∧ (mch l i).2 ≤ i ∧ i + (mch l i).1 ≤ l.length ∧ (mch l i).1 = mlen l i (mch l i).2) := by
  unfold mch
  by_cases hi : i < l.length
  · rw [if_pos hi]
    by_cases h : (best l i).1 < 3
    · rw [if_pos h]; exact .inl rfl
    · rw [if_neg h]
      rcases (best_spec l i).1 with hb | ⟨e, h1, h2, h3, hb⟩
      · rw [hb] at h; simp at h
      · rw [hb] at h ⊢
        have := mlen_spec l i e
        have := mlen_len l i e (by omega)
        exact .inr ⟨by simp only at h ⊢; omega, by simp only; omega, h1, h3, h2, this, rfl⟩
  · rw [if_neg hi]; exact .inl rfl
theorem mch_pos (l : List Int) (i : Nat) (h : (mch l i).1 ≠ 0) : 3 ≤ (mch l i).1 ∧ (mch l i).1 ≤ 130 ∧ 1 ≤ (mch l i).2 ∧ (mch l i).2 ≤ 255 ∧ (mch l i).2 ≤ i ∧ i + (mch l i).1 ≤ l.length ∧ (mch l i).1 = mlen l i (mch l i).2 := by
  rcases mch_spec l i with e | e
  · rw [e] at h; exact absurd rfl h
  · exact e

/-! ### bytes that stand as they are -/
def litsF : Nat → List Int → List Int
  | 0, _ => []
  | f + 1, l => if l = [] then [] else (((min l.length 128 : Nat) : Int) - 1) :: (l.take 128 ++ litsF f (l.drop 128))
def lits (l : List Int) : List Int := litsF (l.length + 1) l
theorem litsF_more : ∀ f g l, l.length < f → l.length < g → litsF f l = litsF g l := by
  intro f
  induction f with
  | zero => intro g l h; omega
  | succ f ih =>
    intro g l h h'
    obtain ⟨g, rfl⟩ : ∃ m, g = m + 1 := ⟨g - 1, by omega⟩
    unfold litsF
    by_cases e : l = []
    · rw [if_pos e, if_pos e]
    · have : 0 < l.length := by cases l with | nil => exact absurd rfl e | cons => simp
      rw [if_neg e, if_neg e, ih g (l.drop 128) (by simp; omega) (by simp; omega)]
theorem lits_nil : lits [] = [] := rfl
theorem lits_eq (l : List Int) (h : l ≠ []) : lits l = (((min l.length 128 : Nat) : Int) - 1) :: (l.take 128 ++ lits (l.drop 128)) := by
  have : 0 < l.length := by cases l with | nil => exact absurd rfl h | cons => simp
  conv => lhs; unfold lits litsF
  rw [if_neg h]
  unfold lits
  rw [litsF_more l.length ((l.drop 128).length + 1) (l.drop 128) (by simp; omega) (by omega)]
theorem lits_short (l : List Int) (h : l ≠ []) (h' : l.length ≤ 128) : lits l = ((l.length : Int) - 1) :: l := by
  rw [lits_eq l h, List.drop_eq_nil_of_le h', List.take_of_length_le h', lits_nil, List.append_nil, Nat.min_eq_left h']

theorem list_ind {P : List Int → Prop} (h : ∀ l : List Int, (∀ m : List Int, m.length < l.length → P m) → P l) : ∀ l, P l := by
  intro l
  have : ∀ n, ∀ l : List Int, l.length < n → P l := by
    intro n
    induction n with
    | zero => intro l hl; omega
    | succ n ih => intro l hl; exact h l (fun m hm => ih m (by omega))
  exact this _ l (Nat.lt_succ_self _)

theorem lits_append (b : List Int) : ∀ a : List Int, a.length % 128 = 0 → lits (a ++ b) = lits a ++ lits b := by
  refine list_ind fun a ih => ?_
  intro h
  by_cases e : a = []
  · subst e; simp [lits_nil]
  · have hp : 0 < a.length := by cases a with | nil => exact absurd rfl e | cons => simp
    have hge : 128 ≤ a.length := by omega
    rw [lits_eq a e, lits_eq (a ++ b) (by simp [e]), List.drop_append_of_le_length hge, List.take_append_of_le_length hge, ih (a.drop 128) (by simp; omega) (by simp; omega)]
    rw [Nat.min_eq_right (by rw [List.length_append]; omega), Nat.min_eq_right hge]
    simp

theorem lits_length : ∀ l : List Int, (lits l).length = l.length + (l.length + 127) / 128 := by
  refine list_ind fun l ih => ?_
  by_cases e : l = []
  · subst e; rfl
  · have hp : 0 < l.length := by cases l with | nil => exact absurd rfl e | cons => simp
    rw [lits_eq l e, List.length_cons, List.length_append, ih (l.drop 128) (by simp; omega), List.length_take, List.length_drop]
    omega
theorem lits_bytes : ∀ l : List Int, Bytes l → Bytes (lits l) := by
  refine list_ind fun l ih => ?_
  intro hb
  by_cases e : l = []
  · subst e; exact hb
  · have hp : 0 < l.length := by cases l with | nil => exact absurd rfl e | cons => simp
    rw [lits_eq l e]
    intro x hx
    rcases List.mem_cons.1 hx with rfl | hx
    · omega
    · exact (hb.take 128).append (ih _ (by simp; omega) (hb.drop 128)) x hx

/-! ### packed bytes -/
def PKf (l : List Int) : Nat → Nat → Nat → List Int
  | 0, _, _ => []
  | f + 1, i, p => if i < l.length then (if (mch l i).1 = 0 then PKf l f (i + 1) p else lits ((l.take i).drop p) ++ ([125 + ((mch l i).1 : Int), ((mch l i).2 : Int)] ++ PKf l f (i + (mch l i).1) (i + (mch l i).1))) else lits (l.drop p)
def PK (l : List Int) : List Int := PKf l (l.length + 1) 0 0

theorem PKf_bytes (l : List Int) (hb : Bytes l) : ∀ f i p, Bytes (PKf l f i p) := by
  intro f
  induction f with
  | zero => intro i p x hx; simp [PKf] at hx
  | succ f ih =>
    intro i p
    unfold PKf
    by_cases h : i < l.length
    · rw [if_pos h]
      by_cases hm : (mch l i).1 = 0
      · rw [if_pos hm]; exact ih _ _
      · rw [if_neg hm]
        obtain ⟨h1, h2, h3, h4, _⟩ := mch_pos l i hm
        refine (lits_bytes _ ((hb.take i).drop p)).append (Bytes.append ?_ (ih _ _))
        intro x hx
        simp only [List.mem_cons, List.not_mem_nil, or_false] at hx
        rcases hx with rfl | rfl <;> omega
    · rw [if_neg h]; exact lits_bytes _ (hb.drop p)

theorem PKf_length (l : List Int) : ∀ f i p, p ≤ i → i ≤ l.length → (PKf l f i p).length ≤ (l.length - p) + (l.length - p + 127) / 128 := by
  intro f
  induction f with
  | zero => intro i p _ _; simp [PKf]
  | succ f ih =>
    intro i p hp hi
    unfold PKf
    by_cases h : i < l.length
    · rw [if_pos h]
      by_cases hm : (mch l i).1 = 0
      · rw [if_pos hm]; exact ih _ _ (by omega) (by omega)
      · rw [if_neg hm]
        obtain ⟨h1, h2, h3, h4, h5, h6, _⟩ := mch_pos l i hm
        have := ih (i + (mch l i).1) (i + (mch l i).1) (Nat.le_refl _) h6
        rw [List.length_append, List.length_append, lits_length, List.length_drop, List.length_take, List.length_cons, List.length_cons, List.length_nil]
        omega
    · rw [if_neg h, lits_length, List.length_drop]
      omega

/-! ### what tokens make -/
def cp (d : Nat) : Nat → List Int → List Int
  | 0, o => o
  | n + 1, o => cp d n (o ++ [el o (o.length - d)])
theorem cp_length (d : Nat) : ∀ n o, (cp d n o).length = o.length + n := by
  intro n
  induction n with
  | zero => intro o; rfl
  | succ n ih => intro o; rw [cp, ih]; simp; omega
theorem cp_bytes (d : Nat) : ∀ n o, Bytes o → Bytes (cp d n o) := by
  intro n
  induction n with
  | zero => intro o h; exact h
  | succ n ih =>
    intro o h
    rw [cp]
    refine ih _ (h.append fun x hx => ?_)
    obtain rfl : x = el o (o.length - d) := by simpa using hx
    unfold el
    rw [List.getD_eq_getElem?_getD]
    by_cases e : o.length - d < o.length
    · rw [List.getElem?_eq_getElem e]; exact h _ (List.getElem_mem e)
    · rw [List.getElem?_eq_none (by omega)]; simp

def DF : Nat → List Int → List Int → Option (List Int)
  | 0, _, _ => none
  | _ + 1, [], o => some o
  | _ + 1, [_], _ => none
  | f + 1, t :: b :: r, o =>
    if t ≤ 127 then (if (b :: r).length < t.toNat + 1 then none else DF f ((b :: r).drop (t.toNat + 1)) (o ++ (b :: r).take (t.toNat + 1)))
    else if b = 0 ∨ (o.length : Int) < b then none else DF f r (cp b.toNat (t.toNat - 125) o)
theorem DF_more : ∀ f g r o, r.length < f → r.length < g → DF f r o = DF g r o := by
  intro f
  induction f with
  | zero => intro g r o h; omega
  | succ f ih =>
    intro g r o h h'
    obtain ⟨g, rfl⟩ : ∃ m, g = m + 1 := ⟨g - 1, by omega⟩
    match r with
    | [] => rfl
    | [t] => rfl
    | t :: b :: r =>
      simp only [DF]
      simp only [List.length_cons] at h h'
      by_cases ht : t ≤ 127
      · rw [if_pos ht, if_pos ht]
        by_cases hl : (b :: r).length < t.toNat + 1
        · rw [if_pos hl, if_pos hl]
        · rw [if_neg hl, if_neg hl, ih g _ _ (by rw [List.length_drop, List.length_cons]; omega) (by rw [List.length_drop, List.length_cons]; omega)]
      · rw [if_neg ht, if_neg ht]
        by_cases hc : b = 0 ∨ (o.length : Int) < b
        · rw [if_pos hc, if_pos hc]
        · rw [if_neg hc, if_neg hc]; exact ih g r _ (by omega) (by omega)
def D (r o : List Int) : Option (List Int) := DF (r.length + 1) r o
theorem D_nil (o : List Int) : D [] o = some o := rfl
theorem D_one (t : Int) (o : List Int) : D [t] o = none := rfl
theorem D_lit (t : Int) (r o : List Int) (ht : t ≤ 127) : D (t :: r) o = if r.length < t.toNat + 1 then none else D (r.drop (t.toNat + 1)) (o ++ r.take (t.toNat + 1)) := by
  cases r with
  | nil => rw [D_one, if_pos (by simp)]
  | cons b r =>
    unfold D
    simp only [List.length_cons, DF]
    rw [if_pos ht]
    by_cases hl : r.length + 1 < t.toNat + 1
    · rw [if_pos hl, if_pos hl]
    · rw [if_neg hl, if_neg hl]
      exact DF_more _ _ _ _ (by rw [List.length_drop, List.length_cons]; omega) (by omega)
theorem D_end (t : Int) (o : List Int) (_ : ¬ t ≤ 127) : D [t] o = none := rfl
theorem D_copy (t b : Int) (r o : List Int) (ht : ¬ t ≤ 127) : D (t :: b :: r) o = if b = 0 ∨ (o.length : Int) < b then none else D r (cp b.toNat (t.toNat - 125) o) := by
  unfold D
  simp only [List.length_cons, DF]
  rw [if_neg ht]
  by_cases hc : b = 0 ∨ (o.length : Int) < b
  · rw [if_pos hc, if_pos hc]
  · rw [if_neg hc, if_neg hc]; exact DF_more _ _ _ _ (by omega) (by omega)

/-- What comes of tokens is no shorter, and its bytes are bytes. -/
theorem D_facts : ∀ r : List Int, ∀ o q, Bytes r → Bytes o → D r o = some q → o.length ≤ q.length ∧ Bytes q := by
  refine list_ind fun r ih => ?_
  intro o q hr ho h
  cases r with
  | nil => rw [D_nil] at h; injection h with h; subst h; exact ⟨Nat.le_refl _, ho⟩
  | cons t r =>
    have hr' : Bytes r := fun x hx => hr x (List.mem_cons_of_mem _ hx)
    by_cases ht : t ≤ 127
    · rw [D_lit t r o ht] at h
      by_cases hl : r.length < t.toNat + 1
      · rw [if_pos hl] at h; cases h
      · rw [if_neg hl] at h
        obtain ⟨h1, h2⟩ := ih _ (by simp; omega) _ _ (hr'.drop _) (ho.append (hr'.take _)) h
        exact ⟨by simp at h1; omega, h2⟩
    · cases r with
      | nil => rw [D_end t o ht] at h; cases h
      | cons b r' =>
        rw [D_copy t b r' o ht] at h
        by_cases hc : b = 0 ∨ (o.length : Int) < b
        · rw [if_pos hc] at h; cases h
        · rw [if_neg hc] at h
          have hr'' : Bytes r' := fun x hx => hr' x (List.mem_cons_of_mem _ hx)
          obtain ⟨h1, h2⟩ := ih r' (by simp; omega) _ _ hr'' (cp_bytes _ _ _ ho) h
          exact ⟨by rw [cp_length] at h1; omega, h2⟩
theorem D_len : ∀ r : List Int, ∀ o q, D r o = some q → o.length ≤ q.length := by
  refine list_ind fun r ih => ?_
  intro o q h
  cases r with
  | nil => rw [D_nil] at h; injection h with h; subst h; exact Nat.le_refl _
  | cons t r =>
    by_cases ht : t ≤ 127
    · rw [D_lit t r o ht] at h
      by_cases hl : r.length < t.toNat + 1
      · rw [if_pos hl] at h; cases h
      · rw [if_neg hl] at h
        have h1 := ih _ (by simp; omega) _ _ h
        simp at h1; omega
    · cases r with
      | nil => rw [D_end t o ht] at h; cases h
      | cons b r' =>
        rw [D_copy t b r' o ht] at h
        by_cases hc : b = 0 ∨ (o.length : Int) < b
        · rw [if_pos hc] at h; cases h
        · rw [if_neg hc] at h
          have h1 := ih r' (by simp; omega) _ _ h
          rw [cp_length] at h1; omega

/-! ### there and back -/
theorem D_lits (rest : List Int) : ∀ x : List Int, ∀ o, D (lits x ++ rest) o = D rest (o ++ x) := by
  refine list_ind fun x ih => ?_
  intro o
  by_cases e : x = []
  · subst e; simp [lits_nil]
  · have hp : 0 < x.length := by cases x with | nil => exact absurd rfl e | cons => simp
    rw [lits_eq x e, List.cons_append, List.append_assoc, D_lit _ _ _ (by omega)]
    have ht : (((min x.length 128 : Nat) : Int) - 1).toNat + 1 = min x.length 128 := by omega
    rw [ht]
    have hl : (x.take 128).length = min x.length 128 := by rw [List.length_take]; omega
    rw [if_neg (by rw [List.length_append, hl]; omega), ← hl, List.drop_left, List.take_left, ih _ (by simp; omega), List.append_assoc, List.take_append_drop]
theorem cp_match (l o : List Int) (i d : Nat) (hd : 1 ≤ d) (hdi : d ≤ i) : ∀ n j, i + j + n ≤ l.length → (∀ q, j ≤ q → q < j + n → el l (i + q) = el l (i + q - d)) →
    cp d n (o ++ l.take (i + j)) = o ++ l.take (i + j + n) := by
  intro n
  induction n with
  | zero => intro j _ _; rfl
  | succ n ih =>
    intro j hl h
    have hlen : (l.take (i + j)).length = i + j := by rw [List.length_take]; omega
    have he : el (o ++ l.take (i + j)) ((o ++ l.take (i + j)).length - d) = el l (i + j) := by
      rw [List.length_append, hlen, el_append_right (by omega), show o.length + (i + j) - d - o.length = i + j - d from by omega, el_take (by omega), h j (Nat.le_refl _) (by omega)]
    rw [cp, he, List.append_assoc, ← take_el (by omega)]
    rw [show i + j + 1 = i + (j + 1) from by omega, ih (j + 1) (by omega) (fun q h1 h2 => h q (by omega) (by omega))]
    congr 2
    omega
theorem D_PKf (l rest : List Int) : ∀ f i p o, p ≤ i → i ≤ l.length → l.length - i < f → D (PKf l f i p ++ rest) (o ++ l.take p) = D rest (o ++ l) := by
  intro f
  induction f with
  | zero => intro i p o _ _ h; omega
  | succ f ih =>
    intro i p o hp hi hf
    unfold PKf
    by_cases h : i < l.length
    · rw [if_pos h]
      by_cases hm : (mch l i).1 = 0
      · rw [if_pos hm]; exact ih _ _ _ (by omega) (by omega) (by omega)
      · rw [if_neg hm]
        obtain ⟨h1, h2, h3, h4, h5, h6, h7⟩ := mch_pos l i hm
        rw [List.append_assoc, D_lits, List.append_assoc o]
        have e1 : l.take p ++ (l.take i).drop p = l.take i := by
          have := List.take_append_drop p (l.take i)
          rwa [List.take_take, Nat.min_eq_left hp] at this
        rw [e1, List.append_assoc [_, _], List.cons_append, List.cons_append, List.nil_append, D_copy _ _ _ _ (by omega)]
        have hlen : (l.take i).length = i := by rw [List.length_take]; omega
        rw [if_neg (by rw [List.length_append, hlen]; omega)]
        have e2 : (125 + ((mch l i).1 : Int)).toNat - 125 = (mch l i).1 := by omega
        rw [e2, Int.toNat_natCast]
        have := cp_match l o i (mch l i).2 h3 h5 (mch l i).1 0 (by omega) (fun q _ hq => by
          have hs := (mlen_spec l i (mch l i).2).2.1 q (by omega)
          exact hs.2)
        rw [Nat.add_zero] at this
        rw [this]
        exact ih _ _ _ (Nat.le_refl _) (by omega) (by omega)
    · rw [if_neg h, D_lits, List.append_assoc, List.take_append_drop]
theorem D_PK (l rest o : List Int) : D (PK l ++ rest) o = D rest (o ++ l) := by
  have := D_PKf l rest (l.length + 1) 0 0 o (Nat.le_refl _) (by omega) (by omega)
  rwa [List.take_zero, List.append_nil] at this
theorem D_PK_nil (l o : List Int) : D (PK l) o = some (o ++ l) := by
  have := D_PK l [] o
  rwa [List.append_nil, D_nil] at this
theorem PK_bytes (l : List Int) (hb : Bytes l) : Bytes (PK l) := PKf_bytes l hb _ _ _
theorem PK_length (l : List Int) : (PK l).length ≤ l.length + (l.length + 127) / 128 := by
  have := PKf_length l (l.length + 1) 0 0 (Nat.le_refl _) (by omega)
  simpa [PK] using this

/-! ### a few bytes again and again -/
theorem mlen_period (l : List Int) (i m : Nat) (hm : m ≤ i) (hp : ∀ j, m ≤ j → j < l.length → el l j = el l (j - m)) (hi : i ≤ l.length) : min 130 (l.length - i) ≤ mlen l i m := by
  obtain ⟨h1, _, h3⟩ := mlen_spec l i m
  rcases h3 with h3 | h3 | h3
  · omega
  · omega
  · by_cases e : i + mlen l i m < l.length
    · exact absurd (hp (i + mlen l i m) (by omega) e) h3
    · omega
theorem best_period (l : List Int) (i m : Nat) (h1 : 1 ≤ m) (h2 : m ≤ 255) (hm : m ≤ i) (hp : ∀ j, m ≤ j → j < l.length → el l j = el l (j - m)) (hi : i ≤ l.length) : (best l i).1 = min 130 (l.length - i) := by
  have ha := (best_spec l i).2 m h1 hm h2
  have hb := mlen_period l i m hm hp hi
  rcases (best_spec l i).1 with e | ⟨e, _, _, _, he⟩
  · rw [e] at ha ⊢
    simp only at ha ⊢
    omega
  · rw [he] at ha ⊢
    have := mlen_spec l i e
    have := mlen_len l i e hi
    simp only at ha ⊢
    omega
/-- Behind the last 3 bytes no match is told any more. -/
theorem PKf_tail (l : List Int) : ∀ f i p, l.length - i < 3 → l.length - i < f → PKf l f i p = lits (l.drop p) := by
  intro f
  induction f with
  | zero => intro i p _ h; omega
  | succ f ih =>
    intro i p h hf
    unfold PKf
    by_cases hi : i < l.length
    · rw [if_pos hi]
      have hm : (mch l i).1 = 0 := by
        rcases mch_spec l i with e | e
        · rw [e]
        · omega
      rw [if_pos hm]
      exact ih _ _ (by omega) (by omega)
    · rw [if_neg hi]
section
variable (l : List Int) (m : Nat) (h1 : 1 ≤ m) (h2 : m ≤ 8) (hp : ∀ j, m ≤ j → j < l.length → el l j = el l (j - m))
include h1 h2 hp
theorem mch_period (i : Nat) (hm : m ≤ i) (hi : i + 3 ≤ l.length) : (mch l i).1 = min 130 (l.length - i) := by
  have := best_period l i m h1 (by omega) hm hp (by omega)
  unfold mch
  rw [if_pos (by omega), if_neg (by omega), this]
theorem PKf_runs (f : Nat) : ∀ i, m ≤ i → i ≤ l.length → l.length - i < f → (PKf l f i i).length ≤ 2 * ((l.length - i) / 130) + 3 := by
  induction f with
  | zero => intro i _ _ h; omega
  | succ f ih =>
    intro i hm hi hf
    by_cases h3 : l.length - i < 3
    · rw [PKf_tail l _ i i h3 hf, lits_length, List.length_drop]; omega
    · have e := mch_period l m h1 h2 hp i hm (by omega)
      unfold PKf
      rw [if_pos (by omega), if_neg (by omega)]
      have := ih (i + (mch l i).1) (by omega) (by omega) (by omega)
      rw [List.length_append, List.length_append, lits_length, List.length_drop, List.length_take, List.length_cons, List.length_cons, List.length_nil]
      by_cases h130 : 130 ≤ l.length - i
      · rw [show (mch l i).1 = 130 from by omega] at this ⊢
        omega
      · have e2 : i + (mch l i).1 = l.length := by omega
        have hz : (PKf l f (i + (mch l i).1) (i + (mch l i).1)).length = 0 := by
          rw [PKf_tail l f _ _ (by omega) (by omega), e2, List.drop_length, lits_nil]; rfl
        omega
theorem PKf_first (hL : m ≤ l.length) (f : Nat) : ∀ i p, p ≤ i → i ≤ m → l.length - i < f → (PKf l f i p).length + p ≤ m + 5 + 2 * (l.length / 130) := by
  induction f with
  | zero => intro i p _ _ h; omega
  | succ f ih =>
    intro i p hpi him hf
    by_cases h3 : l.length - i < 3
    · rw [PKf_tail l _ i p h3 hf, lits_length, List.length_drop]
      omega
    · unfold PKf
      rw [if_pos (by omega)]
      by_cases hm0 : (mch l i).1 = 0
      · rw [if_pos hm0]
        by_cases hlt : i < m
        · exact ih (i + 1) p (by omega) (by omega) (by omega)
        · have e := mch_period l m h1 h2 hp i (by omega) (by omega)
          omega
      · rw [if_neg hm0]
        obtain ⟨g1, g2, g3, g4, g5, g6, g7⟩ := mch_pos l i hm0
        rw [List.length_append, List.length_append, lits_length, List.length_drop, List.length_take, List.length_cons, List.length_cons, List.length_nil]
        by_cases hlt : i + (mch l i).1 ≤ m
        · have := ih (i + (mch l i).1) (i + (mch l i).1) (Nat.le_refl _) hlt (by omega)
          omega
        · have := PKf_runs l m h1 h2 hp f (i + (mch l i).1) (by omega) (by omega) (by omega)
          by_cases hlt2 : i < m
          · omega
          · have e := mch_period l m h1 h2 hp i (by omega) (by omega)
            by_cases h130 : 130 ≤ l.length - i
            · rw [show (mch l i).1 = 130 from by omega] at this ⊢
              omega
            · have e2 : i + (mch l i).1 = l.length := by omega
              have hz : (PKf l f (i + (mch l i).1) (i + (mch l i).1)).length = 0 := by
                rw [PKf_tail l f _ _ (by omega) (by omega), e2, List.drop_length, lits_nil]; rfl
              omega
theorem PK_runs (hL : m ≤ l.length) : (PK l).length ≤ m + 5 + 2 * (l.length / 130) := by
  have := PKf_first l m h1 h2 hp hL (l.length + 1) 0 0 (Nat.le_refl _) (by omega) (by omega)
  simpa [PK] using this
end
end Go.Proofs.YthbdbgjggoobnaaDoor.Lz
/- The printed functions of package lz are the plain ones. -/
namespace Go.Proofs.YthbdbgjggoobnaaDoor.PTh
open Go.RowKit Go.Proofs.YthbdbgjggoobnaaDoorW.PrintWords Go.Proofs.YthbdbgjggoobnaaDoorW.PrintLast Go.Proofs.YthbdbgjggoobnaaDoorW.PrintMore Go.Proofs.YthbdbgjggoobnaaDoor.P Go.Proofs.YthbdbgjggoobnaaDoor.Bs Go.Proofs.YthbdbgjggoobnaaDoor.Lz
set_option linter.unusedVariables false
set_option linter.unusedSimpArgs false

theorem w_add {i n : Nat} (h : i + n ≤ 100000000) : wrap64 ((i : Int) + (n : Int)) = ((i + n : Nat) : Int) := by rw [wrap_in (by omega) (by omega)]; omega
theorem w_sub {i n : Nat} (h : i ≤ 100000000) (h' : n ≤ i) : wrap64 ((i : Int) - (n : Int)) = ((i - n : Nat) : Int) := by rw [wrap_in (by omega) (by omega)]; omega
theorem bt_el (s : ByteArray) (i : Nat) : bt s (i : Int) = el (bytesOf s) i := by rw [bt_getD, Int.toNat_natCast]; rfl

theorem alike_l0 (s : ByteArray) (i d : Nat) (hd : 1 ≤ d) (hdi : d ≤ i) (hi : i ≤ s.size) (hs : s.size ≤ 1000000) :
    ∀ (f n k : Nat), n + f = 130 → f < k → lz_alike.l0 k s (i : Int) (d : Int) (n : Int) = some ((mlenF (bytesOf s) i d f n : Nat) : Int) := by
  intro f
  induction f with
  | zero =>
    intro n k hn hk
    obtain ⟨k, rfl⟩ : ∃ m, k = m + 1 := ⟨k - 1, by omega⟩
    simp only [lz_alike.l0]
    rw [if_neg (by omega)]
    rfl
  | succ f ih =>
    intro n k hn hk
    obtain ⟨k, rfl⟩ : ∃ m, k = m + 1 := ⟨k - 1, by omega⟩
    simp only [lz_alike.l0]
    rw [if_pos (by omega), w_add (by omega)]
    unfold mlenF
    by_cases hlt : i + n < s.size
    · rw [if_pos (by omega), if_pos (by omega), w_sub (by omega) (by omega), if_pos (by omega), if_pos (by omega), bt_el, bt_el]
      by_cases he : el (bytesOf s) (i + n) = el (bytesOf s) (i + n - d)
      · rw [if_pos he, if_pos ⟨by rw [bytesOf_length]; exact hlt, he⟩]
        have e1 : wrap64 ((n : Int) + 1) = ((n + 1 : Nat) : Int) := by rw [wrap_in (by omega) (by omega)]; omega
        rw [e1]
        exact ih (n + 1) k (by omega) (by omega)
      · rw [if_neg he, if_neg (fun h => he h.2)]
    · rw [if_neg (by omega), if_neg (fun h => hlt (by have := h.1; rwa [bytesOf_length] at this))]

def fin (b : Nat × Nat) : Int × Int := if b.1 < 3 then (0, 0) else ((b.1 : Int), (b.2 : Int))
theorem match_l0 (s : ByteArray) (i : Nat) (hi : i < s.size) (hs : s.size ≤ 1000000) :
    ∀ (f d k : Nat) (b : Nat × Nat), d + f = min i 255 + 1 → 1 ≤ d → f + 132 < k → lz_Match.l0 k s (i : Int) (b.1 : Int) (b.2 : Int) (d : Int) = some (fin (bestF (bytesOf s) i f d b)) := by
  intro f
  induction f with
  | zero =>
    intro d k b hd h1 hk
    obtain ⟨k, rfl⟩ : ∃ m, k = m + 1 := ⟨k - 1, by omega⟩
    simp only [lz_Match.l0]
    rw [if_neg (by unfold mn; split <;> omega)]
    unfold bestF fin
    by_cases h : b.1 < 3
    · rw [if_pos (by omega), if_pos h]
    · rw [if_neg (by omega), if_neg h]
  | succ f ih =>
    intro d k b hd h1 hk
    obtain ⟨k, rfl⟩ : ∃ m, k = m + 1 := ⟨k - 1, by omega⟩
    simp only [lz_Match.l0]
    rw [if_pos (by unfold mn; split <;> omega)]
    have ha : lz_alike.f k s (i : Int) (d : Int) = some ((mlen (bytesOf s) i d : Nat) : Int) := alike_l0 s i d h1 (by omega) (by omega) hs 130 0 k rfl (by omega)
    rw [ha, some_bind]
    have e1 : wrap64 ((d : Int) + 1) = ((d + 1 : Nat) : Int) := by rw [wrap_in (by omega) (by omega)]; omega
    rw [e1]
    unfold bestF
    by_cases h : b.1 < mlen (bytesOf s) i d
    · rw [if_pos (by omega), if_pos h]
      exact ih (d + 1) k (mlen (bytesOf s) i d, d) (by omega) (by omega) (by omega)
    · rw [if_neg (by omega), if_neg h]
      exact ih (d + 1) k b (by omega) (by omega) (by omega)
/-- What the package tells of a match at a place. -/
def M (l : List Int) (i : Int) : Int × Int := if 0 ≤ i then (((mch l i.toNat).1 : Int), ((mch l i.toNat).2 : Int)) else (0, 0)
theorem fin_mch (l : List Int) (i : Nat) (hi : i < l.length) : fin (best l i) = (((mch l i).1 : Int), ((mch l i).2 : Int)) := by
  unfold fin mch
  rw [if_pos hi]
  split <;> rfl
theorem match_f (s : ByteArray) (hs : s.size ≤ 1000000) (i : Int) (k : Nat) (hk : 400 ≤ k) : lz_Match.f k s i = some (M (bytesOf s) i) := by
  obtain ⟨k, rfl⟩ : ∃ m, k = m + 1 := ⟨k - 1, by omega⟩
  unfold lz_Match.f M
  by_cases h0 : i < 0
  · rw [if_pos h0, if_neg (by omega)]
    rw [lz_Match.j0, if_pos rfl]
  · rw [if_neg h0, if_pos (by omega)]
    obtain ⟨n, rfl⟩ := Int.eq_ofNat_of_zero_le (show 0 ≤ i from by omega)
    rw [lz_Match.j0, Int.toNat_natCast]
    by_cases h1 : n < s.size
    · rw [if_neg (by simp; omega)]
      have := match_l0 s n h1 hs (min n 255) 1 k (0, 0) (by omega) (Nat.le_refl _) (by omega)
      rw [← fin_mch _ _ (by rw [bytesOf_length]; exact h1)]
      exact this
    · rw [if_pos (by simp; omega)]
      unfold mch
      rw [if_neg (by rw [bytesOf_length]; exact h1)]
      rfl

theorem as_l0 : ∀ (n : Nat) (x : ByteArray) (o : List Int) (k : Nat), x.size ≤ n → n < k → o.length + 3 * x.size ≤ 100000000 → lz_as.l0 k o x = some (o ++ lits (bytesOf x)) := by
  intro n
  induction n with
  | zero =>
    intro x o k hx hk ho
    obtain ⟨k, rfl⟩ : ∃ m, k = m + 1 := ⟨k - 1, by omega⟩
    simp only [lz_as.l0]
    rw [if_neg (by omega), List.eq_nil_of_length_eq_zero (show (bytesOf x).length = 0 by rw [bytesOf_length]; omega), lits_nil, List.append_nil]
  | succ n ih =>
    intro x o k hx hk ho
    obtain ⟨k, rfl⟩ : ∃ m, k = m + 1 := ⟨k - 1, by omega⟩
    simp only [lz_as.l0]
    by_cases hp : 0 < x.size
    · rw [if_pos (by omega), if_pos (by omega), some_bind]
      have e1 : mn (x.size : Int) 128 = ((min x.size 128 : Nat) : Int) := by unfold mn; split <;> omega
      rw [e1, if_pos (by omega), if_pos (by omega), Int.toNat_natCast]
      rw [if_pos (by rw [ByteArray.size_extract, List.length_append]; simp only [List.length_cons, List.length_nil]; omega)]
      have e2 : (wrap64 (((min x.size 128 : Nat) : Int) - 1)) % 256 = ((min x.size 128 : Nat) : Int) - 1 := by rw [wrap_in (by omega) (by omega)]; omega
      rw [e2, ih _ _ k (by rw [ByteArray.size_extract]; omega) (by omega) (by
        rw [ByteArray.size_extract, List.length_append, List.length_append, bytesOf_length, ByteArray.size_extract]; simp only [List.length_cons, List.length_nil]; omega)]
      have hne : bytesOf x ≠ [] := fun e => by have := bytesOf_length x; rw [e] at this; simp at this; omega
      have hm : min (bytesOf x).length 128 = min x.size 128 := by rw [bytesOf_length]
      rw [lits_eq _ hne, hm, bytesOf_extract, bytesOf_extract, List.drop_zero, List.append_assoc, List.append_assoc]
      have e3 : (bytesOf x).take (min x.size 128) = (bytesOf x).take 128 := by
        rw [← hm]
        rcases Nat.le_total (bytesOf x).length 128 with h | h
        · rw [Nat.min_eq_left h, List.take_of_length_le (Nat.le_refl _), List.take_of_length_le h]
        · rw [Nat.min_eq_right h]
      have e4 : ((bytesOf x).take x.size).drop (min x.size 128) = (bytesOf x).drop 128 := by
        rw [List.take_of_length_le (by rw [bytesOf_length]; exact Nat.le_refl _), ← hm]
        rcases Nat.le_total (bytesOf x).length 128 with h | h
        · rw [Nat.min_eq_left h, List.drop_length, List.drop_eq_nil_of_le h]
        · rw [Nat.min_eq_right h]
      rw [e3, e4]
      rfl
    · rw [if_neg (by omega), List.eq_nil_of_length_eq_zero (show (bytesOf x).length = 0 by rw [bytesOf_length]; omega), lits_nil, List.append_nil]

theorem cut_list (s : ByteArray) (p i : Nat) : bytesOf (s.extract p i) = ((bytesOf s).take i).drop p := bytesOf_extract s p i
theorem cut_rest (s : ByteArray) (p : Nat) : bytesOf (s.extract p s.size) = (bytesOf s).drop p := by
  rw [bytesOf_extract, List.take_of_length_le (by rw [bytesOf_length]; exact Nat.le_refl _)]

theorem tok_byte (n : Nat) (h : 3 ≤ n) (h' : n ≤ 130) : (wrap64 ((wrap64 (128 + (n : Int))) - 3)) % 256 = 125 + (n : Int) := by unfold wrap64; omega
theorem tok_len (t : Int) (h : 0 ≤ t) (h' : t ≤ 255) : wrap64 (wrap64 (t - 128) + 3) = t - 125 := by unfold wrap64; omega
theorem pack_l0 (s : ByteArray) (hs : s.size ≤ 100000) :
    ∀ (f i p : Nat) (o : List Int) (k : Nat), p ≤ i → i ≤ s.size → s.size - i < f → o.length ≤ 2 * p → f + s.size + 400 < k →
    lz_Pack.l0 k s o (p : Int) (i : Int) = some (strOfNums (o ++ PKf (bytesOf s) f i p)) := by
  intro f
  induction f with
  | zero => intro i p o k _ _ h; omega
  | succ f ih =>
    intro i p o k hp hi hf ho hk
    obtain ⟨k, rfl⟩ : ∃ m, k = m + 1 := ⟨k - 1, by omega⟩
    simp only [lz_Pack.l0]
    unfold PKf
    by_cases hlt : i < s.size
    · rw [if_pos (by omega), match_f s (by omega) _ k (by omega), some_bind]
      rw [if_pos (show i < (bytesOf s).length by rw [bytesOf_length]; exact hlt)]
      have hM : M (bytesOf s) (i : Int) = (((mch (bytesOf s) i).1 : Int), ((mch (bytesOf s) i).2 : Int)) := by unfold M; rw [if_pos (by omega), Int.toNat_natCast]
      rw [hM]
      by_cases h0 : (mch (bytesOf s) i).1 = 0
      · rw [if_pos (by simp only; omega), if_pos h0]
        have e1 : wrap64 ((i : Int) + 1) = ((i + 1 : Nat) : Int) := by rw [wrap_in (by omega) (by omega)]; omega
        rw [e1]
        exact ih (i + 1) p o k (by omega) (by omega) (by omega) ho (by omega)
      · rw [if_neg (by simp only; omega), if_neg h0]
        obtain ⟨g1, g2, g3, g4, g5, g6, g7⟩ := mch_pos (bytesOf s) i h0
        rw [bytesOf_length] at g6
        rw [if_pos (by omega), if_pos (by omega), if_pos (by omega), Int.toNat_natCast, Int.toNat_natCast]
        have ha : lz_as.f k o (s.extract p i) = some (o ++ lits (bytesOf (s.extract p i))) := as_l0 s.size _ o k (by rw [ByteArray.size_extract]; omega) (by omega) (by rw [ByteArray.size_extract]; omega)
        rw [ha, some_bind, some_bind, cut_list s p i]
        have hl : (o ++ lits (((bytesOf s).take i).drop p)).length = o.length + ((i - p) + (i - p + 127) / 128) := by
          rw [List.length_append, lits_length, List.length_drop, List.length_take, bytesOf_length, Nat.min_eq_left hi]
        have hih := ih (i + (mch (bytesOf s) i).1) (i + (mch (bytesOf s) i).1) (o ++ lits (((bytesOf s).take i).drop p) ++ [125 + ((mch (bytesOf s) i).1 : Int), ((mch (bytesOf s) i).2 : Int)]) k (Nat.le_refl _) g6 (by omega) (by rw [List.length_append, hl]; simp only [List.length_cons, List.length_nil]; omega) (by omega)
        rw [if_pos (by rw [hl]; simp only [List.length_cons, List.length_nil]; omega)]
        simp only
        have e1 : wrap64 ((i : Int) + ((mch (bytesOf s) i).1 : Int)) = ((i + (mch (bytesOf s) i).1 : Nat) : Int) := w_add (by omega)
        have e2 : (wrap64 ((wrap64 (128 + ((mch (bytesOf s) i).1 : Int))) - 3)) % 256 = 125 + ((mch (bytesOf s) i).1 : Int) := tok_byte _ g1 g2
        have e3 : ((mch (bytesOf s) i).2 : Int) % 256 = ((mch (bytesOf s) i).2 : Int) := by omega
        rw [e1, e2, e3, hih, List.append_assoc, List.append_assoc]
    · rw [if_neg (by omega), if_pos (by omega), if_pos (by omega), Int.toNat_natCast]
      have ha : lz_as.f k o (s.extract p s.size) = some (o ++ lits (bytesOf (s.extract p s.size))) := as_l0 s.size _ o k (by rw [ByteArray.size_extract]; omega) (by omega) (by rw [ByteArray.size_extract]; omega)
      rw [ha, some_bind, cut_rest, if_neg (by rw [bytesOf_length]; exact hlt)]
theorem pack_f (s : ByteArray) (hs : s.size ≤ 100000) (k : Nat) (hk : 2 * s.size + 402 ≤ k) : lz_Pack.f k s = some (strOfNums (PK (bytesOf s))) := by
  have := pack_l0 s hs (s.size + 1) 0 0 [] k (Nat.le_refl _) (by omega) (by omega) (by simp) (by omega)
  unfold lz_Pack.f PK
  rw [bytesOf_length]
  exact this

/-- What unpacking answers, of what tokens make. -/
def res (q : Option (List Int)) (size : Int) : ByteArray × Int := match q with
  | some r => if (r.length : Int) = size then (strOfNums r, 0) else ((⟨#[]⟩ : ByteArray), 5)
  | none => ((⟨#[]⟩ : ByteArray), 5)
theorem res_none (size : Int) : res none size = ((⟨#[]⟩ : ByteArray), 5) := rfl
theorem res_long (q : Option (List Int)) (size : Int) (h : ∀ r, q = some r → size < r.length) : res q size = ((⟨#[]⟩ : ByteArray), 5) := by
  cases q with
  | none => rfl
  | some r => have := h r rfl; unfold res; simp only; rw [if_neg (by omega)]

theorem copy_l1 (x : ByteArray) (size : Int) (hx : 2 ≤ x.size) :
    ∀ (n j : Nat) (o : List Int) (d k m : Nat), j + n = m → m ≤ 130 → 1 ≤ d → d ≤ o.length → o.length + n ≤ 1000000 → n < k →
    (∀ k', k - n - 1 = k' → lz_Unpack.l1 k x size o (d : Int) (m : Int) (j : Int) = lz_Unpack.l0 k' (x.extract 2 x.size) size (cp d n o)) := by
  intro n
  induction n with
  | zero =>
    intro j o d k m hj hm hd hdo ho hk k' hk'
    obtain ⟨k, rfl⟩ : ∃ m, k = m + 1 := ⟨k - 1, by omega⟩
    simp only [lz_Unpack.l1]
    rw [if_neg (by omega), if_pos (by omega)]
    obtain rfl : k = k' := by omega
    rfl
  | succ n ih =>
    intro j o d k m hj hm hd hdo ho hk k' hk'
    obtain ⟨k, rfl⟩ : ∃ m, k = m + 1 := ⟨k - 1, by omega⟩
    simp only [lz_Unpack.l1]
    have hih := ih (j + 1) (o ++ [el o (o.length - d)]) d k m (by omega) hm hd (by rw [List.length_append]; simp; omega) (by rw [List.length_append]; simp; omega) (by omega) k' (by omega)
    have e1 : wrap64 ((o.length : Int) - (d : Int)) = ((o.length - d : Nat) : Int) := w_sub (by omega) hdo
    rw [if_pos (by omega), e1, if_pos (by omega), if_pos (by omega), if_pos (by omega)]
    have e2 : wrap64 ((j : Int) + 1) = ((j + 1 : Nat) : Int) := by rw [wrap_in (by omega) (by omega)]; omega
    have e3 : rd o ((o.length - d : Nat) : Int) = el o (o.length - d) := by unfold rd; rw [Int.toNat_natCast]; rfl
    rw [e2, e3, hih]
    rfl

theorem head_tail (x : ByteArray) (h : 0 < x.size) : ∃ t r, bytesOf x = t :: r ∧ bt x 0 = t ∧ 0 ≤ t ∧ t ≤ 255 ∧ r.length + 1 = x.size ∧ (∀ j, (bytesOf x).drop (j + 1) = r.drop j) := by
  cases hb : bytesOf x with
  | nil => have := bytesOf_length x; rw [hb] at this; simp at this; omega
  | cons t r =>
    have hl := bytesOf_length x
    rw [hb] at hl
    have h1 := bytesOf_bytes x t (by rw [hb]; exact List.mem_cons_self)
    exact ⟨t, r, rfl, by rw [bt_getD, hb]; rfl, h1.1, h1.2, by simpa using hl, fun j => by simp⟩

theorem unpack_l0 (size : Int) (h0 : 0 ≤ size) (hs : size ≤ 1000000) :
    ∀ (n : Nat) (x : ByteArray) (o : List Int) (k : Nat), x.size ≤ n → x.size ≤ 1000000 → (o.length : Int) ≤ size → 140 * n + 140 ≤ k →
    lz_Unpack.l0 k x size o = some (res (D (bytesOf x) o) size) := by
  intro n
  induction n with
  | zero =>
    intro x o k hx _ ho hk
    obtain ⟨k, rfl⟩ : ∃ m, k = m + 1 := ⟨k - 1, by omega⟩
    have hb : bytesOf x = [] := List.eq_nil_of_length_eq_zero (by rw [bytesOf_length]; omega)
    simp only [lz_Unpack.l0]
    rw [if_pos (toList_nil.2 hb), hb, D_nil]
    unfold res
    by_cases e : (o.length : Int) = size
    · rw [if_pos e]; simp only [if_pos e]
    · rw [if_neg e]; simp only [if_neg e]
  | succ n ih =>
    intro x o k hx hx2 ho hk
    obtain ⟨k, rfl⟩ : ∃ m, k = m + 5 := ⟨k - 5, by omega⟩
    by_cases hz : x.size = 0
    · have hb : bytesOf x = [] := List.eq_nil_of_length_eq_zero (by rw [bytesOf_length]; omega)
      simp only [lz_Unpack.l0]
      rw [if_pos (toList_nil.2 hb), hb, D_nil]
      unfold res
      by_cases e : (o.length : Int) = size
      · rw [if_pos e]; simp only [if_pos e]
      · rw [if_neg e]; simp only [if_neg e]
    · obtain ⟨t, r, hb, hbt, ht0, ht1, hr, hdrop⟩ := head_tail x (by omega)
      rw [lz_Unpack.l0]
      rw [if_neg (fun e => by rw [toList_nil, hb] at e; cases e), if_pos (by omega), hbt, wrap_in (a := t) (by omega) (by omega)]
      have hsz : wrap64 (size - (o.length : Int)) = size - o.length := wrap_in (by omega) (by omega)
      by_cases ht : t ≤ 127
      · have e1 : wrap64 (t + 1) = t + 1 := wrap_in (by omega) (by omega)
        rw [if_neg (by omega), e1, lz_Unpack.j2, hsz, hb, D_lit t r o ht]
        by_cases hn : t + 1 > size - o.length
        · rw [if_pos hn, lz_Unpack.j3, if_pos rfl, res_long]
          intro q hq
          by_cases hl : r.length < t.toNat + 1
          · rw [if_pos hl] at hq; cases hq
          · rw [if_neg hl] at hq
            have := D_len _ _ _ hq
            rw [List.length_append, List.length_take] at this
            omega
        · rw [if_neg hn, lz_Unpack.j3]
          by_cases h2 : x.size < 2
          · rw [if_pos (by simp; omega), if_pos (by omega), res_none]
          · rw [if_neg (by simp; omega), if_pos ht]
            by_cases hl : r.length < t.toNat + 1
            · rw [if_pos (by omega), if_pos hl, res_none]
            · have e2 : wrap64 (1 + (t + 1)) = t + 2 := by rw [wrap_in (by omega) (by omega)]; omega
              rw [if_neg (by omega), if_neg hl, e2, if_pos (by omega), if_pos (by omega)]
              have e3 : (t + 2).toNat = t.toNat + 2 := by omega
              rw [e3, if_pos (by rw [ByteArray.size_extract]; omega), if_pos (by omega)]
              have e4 : bytesOf (x.extract 1 (t.toNat + 2)) = r.take (t.toNat + 1) := by
                rw [bytesOf_extract, hb]; simp
              have e5 : bytesOf (x.extract (t.toNat + 2) x.size) = r.drop (t.toNat + 1) := by
                rw [bytesOf_extract, List.take_of_length_le (by rw [bytesOf_length]; exact Nat.le_refl _), hdrop]
              rw [e4, ih _ _ _ (by rw [ByteArray.size_extract]; omega) (by rw [ByteArray.size_extract]; omega) (by rw [List.length_append, List.length_take]; omega) (by omega), e5]
      · have e1 : wrap64 (wrap64 (t - 128) + 3) = t - 125 := tok_len t ht0 ht1
        rw [if_pos (by omega), e1, lz_Unpack.j2, hsz, hb]
        by_cases hn : t - 125 > size - o.length
        · rw [if_pos hn, lz_Unpack.j3, if_pos rfl, res_long]
          intro q hq
          cases r with
          | nil => rw [D_end t o ht] at hq; cases hq
          | cons b r' =>
            rw [D_copy t b r' o ht] at hq
            by_cases hc : b = 0 ∨ (o.length : Int) < b
            · rw [if_pos hc] at hq; cases hq
            · rw [if_neg hc] at hq
              have := D_len _ _ _ hq
              rw [cp_length] at this
              omega
        · rw [if_neg hn, lz_Unpack.j3]
          by_cases h2 : x.size < 2
          · obtain rfl : r = [] := List.eq_nil_of_length_eq_zero (by omega)
            rw [if_pos (by simp; omega), D_end t o ht, res_none]
          · rw [if_neg (by simp; omega), if_neg ht, if_pos (by omega)]
            cases r with
            | nil => simp at hr; omega
            | cons b r' =>
              have hbb := bytesOf_bytes x b (by rw [hb]; simp)
              have e2 : bt x 1 = b := by rw [bt_getD, hb]; rfl
              rw [e2, wrap_in (a := b) (by omega) (by omega), D_copy t b r' o ht]
              by_cases hb0 : b = 0
              · rw [if_pos hb0, lz_Unpack.j4, if_pos rfl, if_pos (.inl hb0), res_none]
              · rw [if_neg hb0, lz_Unpack.j4]
                by_cases hbo : (o.length : Int) < b
                · rw [if_pos (by simp; omega), if_pos (.inr hbo), res_none]
                · rw [if_neg (by simp; omega), if_neg (by omega)]
                  simp only [List.length_cons] at hr
                  obtain ⟨d, rfl⟩ := Int.eq_ofNat_of_zero_le hbb.1
                  have e3 : t - 125 = ((t.toNat - 125 : Nat) : Int) := by omega
                  rw [e3, show (0 : Int) = ((0 : Nat) : Int) from rfl, copy_l1 x size (by omega) (t.toNat - 125) 0 o d (k + 1) (t.toNat - 125) (by omega) (by omega) (by omega) (by omega) (by omega) (by omega) _ rfl]
                  have e4 : bytesOf (x.extract 2 x.size) = r' := by
                    rw [bytesOf_extract, List.take_of_length_le (by rw [bytesOf_length]; exact Nat.le_refl _), hb]; rfl
                  rw [ih _ _ _ (by rw [ByteArray.size_extract]; omega) (by rw [ByteArray.size_extract]; omega) (by rw [cp_length]; omega) (by omega), e4, Int.toNat_natCast]
theorem unpack_f (x : ByteArray) (hx : x.size ≤ 1000000) (size : Int) (k : Nat) (hk : 140 * x.size + 141 ≤ k) :
    lz_Unpack.f k x size = some (if 0 ≤ size ∧ size ≤ 1000000 then res (D (bytesOf x) []) size else ((⟨#[]⟩ : ByteArray), 5)) := by
  obtain ⟨k, rfl⟩ : ∃ m, k = m + 1 := ⟨k - 1, by omega⟩
  unfold lz_Unpack.f
  by_cases h0 : size < 0
  · rw [if_pos h0, lz_Unpack.j0, if_pos rfl, if_neg (by omega)]
  · rw [if_neg h0, lz_Unpack.j0]
    by_cases h1 : size > 1000000
    · rw [if_pos (by simp; omega), if_neg (by omega)]
    · rw [if_neg (by simp; omega), if_pos (by omega)]
      exact unpack_l0 size (by omega) (by omega) x.size x [] k (Nat.le_refl _) hx (by simp; omega) (by omega)
theorem unpack_pack (s : ByteArray) (hs : s.size ≤ 100000) (k : Nat) (hk : 1000 * s.size + 1000 ≤ k) (size : Int) :
    lz_Unpack.f k (strOfNums (PK (bytesOf s))) size = some (if (s.size : Int) = size then (s, 0) else ((⟨#[]⟩ : ByteArray), 5)) := by
  have hl := PK_length (bytesOf s)
  have hB := bytesOf_strOfNums (PK_bytes _ (bytesOf_bytes s))
  have hsz : (strOfNums (PK (bytesOf s))).size = (PK (bytesOf s)).length := by rw [← bytesOf_length, hB]
  rw [bytesOf_length] at hl
  rw [unpack_f _ (by omega) size k (by omega), hB, D_PK_nil, List.nil_append]
  by_cases e : (s.size : Int) = size
  · rw [if_pos (by omega), if_pos e]
    unfold res
    simp only [bytesOf_length]
    rw [if_pos e, strOfNums_bytesOf]
  · rw [if_neg e]
    by_cases h : 0 ≤ size ∧ size ≤ 1000000
    · rw [if_pos h]
      unfold res
      simp only [bytesOf_length]
      rw [if_neg e]
    · rw [if_neg h]
end Go.Proofs.YthbdbgjggoobnaaDoor.PTh
