/- The printed functions of package blocks, and the law's own, are plain ones: texts in pieces, numbers of pieces, pieces by numbers. -/
import Derived.Test.YtcijimdogddbeaaDoorPx
import Derived.Test.YtcijimdogddbeaaDoorPaTh
namespace Go.Proofs.YtcijimdogddbeaaDoor.Tab
open Go.RowKit Go.Proofs.YtcijimdogddbeaaDoorX Go.Proofs.YtcijimdogddbeaaDoorW.PrintWords Go.Proofs.YtcijimdogddbeaaDoorW.PrintLast Go.Proofs.YtcijimdogddbeaaDoorW.PrintMore Go.Proofs.YtcijimdogddbeaaDoor.P Go.Proofs.YtcijimdogddbeaaDoor.Bs
set_option linter.unusedVariables false
set_option linter.unusedSimpArgs false
/-- A text in pieces (n rounds). -/
def cutN : Nat → ByteArray → List ByteArray
  | 0, _ => []
  | n + 1, s => if 64 < s.size then s.extract 0 64 :: cutN n (s.extract 64 s.size) else if s.size = 0 then [] else [s]
def cutL (s : ByteArray) : List ByteArray := cutN (s.size + 1) s
theorem size_drop (s : ByteArray) : (s.extract 64 s.size).size = s.size - 64 := by rw [ByteArray.size_extract]; omega
theorem cutN_any : ∀ n m s, s.size < n → s.size < m → cutN n s = cutN m s
  | 0, _, s, h, _ => absurd h (by omega)
  | _, 0, s, _, h => absurd h (by omega)
  | n + 1, m + 1, s, h1, h2 => by
    rw [cutN, cutN]
    by_cases h : 64 < s.size
    · rw [if_pos h, if_pos h, cutN_any n m _ (by rw [size_drop]; omega) (by rw [size_drop]; omega)]
    · rw [if_neg h, if_neg h]
theorem cutL_step (s : ByteArray) : cutL s = if 64 < s.size then s.extract 0 64 :: cutL (s.extract 64 s.size) else if s.size = 0 then [] else [s] := by
  unfold cutL
  rw [cutN]
  by_cases h : 64 < s.size
  · rw [if_pos h, if_pos h, cutN_any s.size ((s.extract 64 s.size).size + 1) _ (by rw [size_drop]; omega) (by omega)]
  · rw [if_neg h, if_neg h]
/-- Each piece has 1 to 64 bytes; they are as many as are begun; one behind the other they are the text. -/
theorem cutL_facts : ∀ n (s : ByteArray), s.size ≤ n → (∀ p ∈ cutL s, 1 ≤ p.size ∧ p.size ≤ 64) ∧ (cutL s).length = (s.size + 63) / 64 ∧ ((cutL s).map bytesOf).flatten = bytesOf s
  | n, s, hn => by
    rw [cutL_step]
    by_cases h : 64 < s.size
    · obtain ⟨h1, h2, h3⟩ := cutL_facts (n - 64) (s.extract 64 s.size) (by rw [size_drop]; omega)
      have hs : (s.extract 0 64).size = 64 := by rw [ByteArray.size_extract]; omega
      rw [if_pos h]
      refine ⟨fun p hp => ?_, ?_, ?_⟩
      · rcases List.mem_cons.1 hp with rfl | hp
        · omega
        · exact h1 p hp
      · rw [List.length_cons, h2, size_drop]; omega
      · rw [List.map_cons, List.flatten_cons, h3, bytesOf_extract, bytesOf_extract, List.drop_zero]
        have e1 : (bytesOf s).take s.size = bytesOf s := List.take_of_length_le (by rw [bytesOf_length]; omega)
        rw [e1, List.take_append_drop]
    · rw [if_neg h]
      by_cases h0 : s.size = 0
      · rw [if_pos h0]
        have e1 : bytesOf s = [] := List.eq_nil_of_length_eq_zero (by rw [bytesOf_length]; exact h0)
        exact ⟨fun p hp => absurd hp (by simp), by rw [h0]; rfl, by rw [e1]; rfl⟩
      · rw [if_neg h0]
        refine ⟨fun p hp => ?_, ?_, ?_⟩
        · rw [List.mem_singleton.1 hp]; omega
        · rw [List.length_singleton]; omega
        · simp
  termination_by n s => s.size
  decreasing_by rw [size_drop]; omega
theorem cutL_inj {s t : ByteArray} (h : cutL s = cutL t) : s = t := bytesOf_inj (by rw [← (cutL_facts _ s (Nat.le_refl _)).2.2, ← (cutL_facts _ t (Nat.le_refl _)).2.2, h])
theorem cut_l0 : ∀ k (s : ByteArray) acc, s.size / 64 < k → s.size ≤ 1000000 → acc.length ≤ 1000000000 - s.size → blocks_Cut.l0 k s acc = some (acc ++ cutL s)
  | 0, s, acc, h, _, _ => absurd h (by omega)
  | k + 1, s, acc, hk, hs, ha => by
    rw [blocks_Cut.l0, cutL_step]
    by_cases h : 64 < s.size
    · rw [if_pos (by omega), if_pos (by omega), if_pos (by omega), if_pos (by omega), if_pos h, cut_l0 k _ _ (by rw [size_drop]; omega) (by rw [size_drop]; omega) (by rw [size_drop, List.length_append, List.length_singleton]; omega), List.append_assoc, List.singleton_append]
    · rw [if_neg (by omega), if_neg h]
      by_cases h0 : s.size = 0
      · have e1 : bytesOf s = [] := List.eq_nil_of_length_eq_zero (by rw [bytesOf_length]; exact h0)
        rw [if_pos (toList_nil.2 e1), if_pos h0, List.append_nil]
      · have e1 : ¬ s.toList = [] := fun e => h0 (by rw [size_bytes, toList_nil.1 e]; rfl)
        rw [if_neg e1, if_neg h0, if_pos (by omega)]
theorem cut_f {k : Nat} {s : ByteArray} (hk : s.size / 64 < k) (hs : s.size ≤ 1000000) : blocks_Cut.f k s = some (cutL s) := by
  rw [blocks_Cut.f, cut_l0 k s [] hk hs (by simp), List.nil_append]
theorem put_f {k : Nat} {L : List ByteArray} {b : Bool} {s : ByteArray} (hk : s.size / 64 < k) (hs : s.size ≤ 1000000) : blocks_Table_Put.f k L b s = some ((putOf L (cutL s)).1, (putOf L (cutL s)).2.1, (putOf L (cutL s)).2.2, b) := by
  have hf := cutL_facts _ s (Nat.le_refl _)
  rw [blocks_Table_Put.f, cut_f hk hs, some_bind, if_pos ⟨by rw [hf.2.1]; omega, fun p hp => by have := (hf.1 p hp).2; unfold maxLen; omega⟩]
/-! ### what is put stands there -/
theorem putGo_len (L : List ByteArray) : ∀ ps F, (putGo L F ps).1.length = ps.length
  | [], F => rfl
  | p :: ps, F => by
    rw [putGo]
    cases pos (L ++ F) p <;> simp [putGo_len L ps]
theorem putGo_pre (L : List ByteArray) : ∀ ps F, ∃ G, (putGo L F ps).2 = F ++ G ∧ G.length ≤ ps.length
  | [], F => ⟨[], by simp [putGo], by simp⟩
  | p :: ps, F => by
    rw [putGo]
    cases pos (L ++ F) p with
    | some i =>
      obtain ⟨G, h1, h2⟩ := putGo_pre L ps F
      exact ⟨G, h1, by simp; omega⟩
    | none =>
      obtain ⟨G, h1, h2⟩ := putGo_pre L ps (F ++ [p])
      exact ⟨p :: G, by rw [h1, List.append_assoc]; rfl, by simp; omega⟩
/-- Each number is that of its piece, at the end. -/
theorem putGo_at (L : List ByteArray) : ∀ ps F j (hj : j < ps.length), ∃ i : Nat, (putGo L F ps).1[j]? = some (i : Int) ∧ (L ++ (putGo L F ps).2)[i]? = some ps[j]
  | [], F, j, hj => absurd hj (by simp)
  | p :: ps, F, j, hj => by
    rw [putGo]
    cases hp : pos (L ++ F) p with
    | some i =>
      cases j with
      | zero =>
        obtain ⟨G, h1, h2⟩ := putGo_pre L ps F
        obtain ⟨hi, he⟩ := pos_lt hp
        refine ⟨i, rfl, ?_⟩
        show (L ++ (putGo L F ps).2)[i]? = some p
        rw [h1, ← List.append_assoc, List.getElem?_append_left hi, List.getElem?_eq_getElem hi, he]
      | succ j =>
        obtain ⟨i', h1, h2⟩ := putGo_at L ps F j (by simpa using hj)
        exact ⟨i', h1, h2⟩
    | none =>
      cases j with
      | zero =>
        obtain ⟨G, h1, h2⟩ := putGo_pre L ps (F ++ [p])
        refine ⟨L.length + F.length, rfl, ?_⟩
        show (L ++ (putGo L (F ++ [p]) ps).2)[L.length + F.length]? = some p
        rw [h1, ← List.append_assoc, ← List.append_assoc, List.getElem?_append_left (by simp), List.getElem?_append_right (by simp)]
        simp
      | succ j =>
        obtain ⟨i', h1, h2⟩ := putGo_at L ps (F ++ [p]) j (by simpa using hj)
        exact ⟨i', h1, h2⟩
/-- No text twice. -/
theorem nodup_new {L : List ByteArray} (hL : L.Nodup) {F : List ByteArray} (h : NewIn L F) : ∀ n, n ≤ F.length → (L ++ F.take n).Nodup
  | 0, _ => by simpa using hL
  | n + 1, hn => by
    have ih := nodup_new hL h n (by omega)
    rw [List.take_succ_eq_append_getElem (by omega : n < F.length), ← List.append_assoc, List.nodup_append]
    exact ⟨ih, by simp, fun a ha b hb e => by
      rw [List.mem_singleton.1 hb] at e
      exact pos_none.1 (h n (by omega)) (e ▸ ha)⟩
theorem putGo_nodup {L : List ByteArray} (hL : L.Nodup) (ps : List ByteArray) : (L ++ (putGo L [] ps).2).Nodup := by
  have h := nodup_new hL (putGo_new L ps [] (NewIn.nil L)).1 _ (Nat.le_refl _)
  rwa [List.take_length] at h
/-- All that is new is of the pieces. -/
theorem putGo_mem (L : List ByteArray) : ∀ ps F p, p ∈ (putGo L F ps).2 → p ∈ F ∨ p ∈ ps
  | [], F, p, h => .inl h
  | q :: ps, F, p, h => by
    rw [putGo] at h
    cases hq : pos (L ++ F) q with
    | some i =>
      rw [hq] at h
      exact (putGo_mem L ps F p h).imp id (List.mem_cons_of_mem _)
    | none =>
      rw [hq] at h
      rcases putGo_mem L ps (F ++ [q]) p h with h | h
      · rcases List.mem_append.1 h with h | h
        · exact .inl h
        · exact .inr (by rw [List.mem_singleton.1 h]; exact List.mem_cons_self)
      · exact .inr (List.mem_cons_of_mem _ h)
theorem nodup_at {L : List ByteArray} (hL : L.Nodup) {i j : Nat} (hi : i < L.length) (hj : j < L.length) (h : L[i] = L[j]) : i = j := by
  have hp := List.pairwise_iff_getElem.1 hL
  rcases Nat.lt_trichotomy i j with h1 | h1 | h1
  · exact absurd h (hp i j hi hj h1)
  · exact h1
  · exact absurd h.symm (hp j i hj hi h1)
theorem pos_of {L : List ByteArray} (hL : L.Nodup) {i : Nat} (hi : i < L.length) : pos L L[i] = some i := by
  cases h : pos L L[i] with
  | none => exact absurd (List.getElem_mem hi) (pos_none.1 h)
  | some j =>
    obtain ⟨hj, he⟩ := pos_lt h
    rw [nodup_at hL hj hi he]
/-! ### the law's own loops -/
theorem rd_nat (xs : List Int) (i : Nat) (h : i < xs.length) : rd xs (i : Int) = xs[i] := by
  unfold rd
  rw [Int.toNat_natCast, List.getD_eq_getElem?_getD, List.getElem?_eq_getElem h]; rfl
theorem rdOf_nat (xs : List ByteArray) (i : Nat) (h : i < xs.length) : rdOf ByteArray.empty xs (i : Int) = xs[i] := by
  unfold rdOf
  rw [Int.toNat_natCast, List.getD_eq_getElem?_getD, List.getElem?_eq_getElem h]; rfl
theorem w_1 {i : Nat} (h : i ≤ 1000000000) : wrap64 ((i : Int) + 1) = ((i + 1 : Nat) : Int) := by rw [wrap_in (by omega) (by omega)]; omega
end Go.Proofs.YtcijimdogddbeaaDoor.Tab
/- What was put stands in the table: numbers of pieces, and the texts that come of them. No condition. -/
namespace Go.Proofs.YtcijimdogddbeaaDoor.Tab
open Go.RowKit Go.Proofs.YtcijimdogddbeaaDoorX Go.Proofs.YtcijimdogddbeaaDoorW.PrintWords Go.Proofs.YtcijimdogddbeaaDoorW.PrintLast Go.Proofs.YtcijimdogddbeaaDoorW.PrintMore Go.Proofs.YtcijimdogddbeaaDoor.P Go.Proofs.YtcijimdogddbeaaDoor.Bs
set_option linter.unusedVariables false
set_option linter.unusedSimpArgs false
/-- The numbers a are those of the pieces ps. -/
def Got (L : List ByteArray) (a : List Int) (ps : List ByteArray) : Prop := a.length = ps.length ∧ ∀ j, j < ps.length → ∃ i : Nat, a[j]? = some (i : Int) ∧ L[i]? = ps[j]?
theorem Got.more {L G : List ByteArray} {a : List Int} {ps : List ByteArray} (h : Got L a ps) : Got (L ++ G) a ps := ⟨h.1, fun j hj => by
  obtain ⟨i, h1, h2⟩ := h.2 j hj
  rw [List.getElem?_eq_getElem hj] at h2
  refine ⟨i, h1, ?_⟩
  have hi := (List.getElem?_eq_some_iff.1 h2).1
  rw [List.getElem?_append_left hi, h2, List.getElem?_eq_getElem hj]⟩
theorem Got.of (L : List ByteArray) (ps : List ByteArray) : Got (L ++ (putGo L [] ps).2) (putGo L [] ps).1 ps := ⟨putGo_len L ps [], fun j hj => by
  obtain ⟨i, h1, h2⟩ := putGo_at L ps [] j hj
  exact ⟨i, h1, by rw [h2, List.getElem?_eq_getElem hj]⟩⟩
theorem Got.texts {L : List ByteArray} {a : List Int} {ps qs : List ByteArray} (h : Got L a ps) (k : Got L a qs) : ps = qs := by
  refine List.ext_getElem? (fun j => ?_)
  by_cases hj : j < ps.length
  · obtain ⟨i, h1, h2⟩ := h.2 j hj
    obtain ⟨i', h3, h4⟩ := k.2 j (by rw [← k.1, h.1]; exact hj)
    rw [h1] at h3
    obtain rfl : i = i' := by injection h3 with h3; omega
    rw [← h2, h4]
  · rw [List.getElem?_eq_none (by omega), List.getElem?_eq_none (by rw [← k.1, h.1]; omega)]
theorem Got.same {L : List ByteArray} (hL : L.Nodup) {a b : List Int} {ps : List ByteArray} (h : Got L a ps) (k : Got L b ps) : a = b := by
  refine List.ext_getElem? (fun j => ?_)
  by_cases hj : j < ps.length
  · obtain ⟨i, h1, h2⟩ := h.2 j hj
    obtain ⟨i', h3, h4⟩ := k.2 j hj
    rw [List.getElem?_eq_getElem hj] at h2 h4
    obtain ⟨q1, q2⟩ := List.getElem?_eq_some_iff.1 h2
    obtain ⟨q3, q4⟩ := List.getElem?_eq_some_iff.1 h4
    obtain rfl := nodup_at hL q1 q3 (by rw [q2, q4])
    rw [h1, h3]
  · rw [List.getElem?_eq_none (by rw [h.1]; omega), List.getElem?_eq_none (by rw [k.1]; omega)]
/-- A table's blocks: each once, of 1 to 64 bytes. -/
def GoodT (L : List ByteArray) : Prop := L.Nodup ∧ ∀ p ∈ L, 1 ≤ p.size ∧ p.size ≤ 64
theorem GoodT.put {L : List ByteArray} (h : GoodT L) (s : ByteArray) : GoodT (L ++ (putGo L [] (cutL s)).2) := ⟨putGo_nodup h.1 _, fun p hp => by
  rcases List.mem_append.1 hp with hp | hp
  · exact h.2 p hp
  · rcases putGo_mem L (cutL s) [] p hp with h1 | h1
    · cases h1
    · exact (cutL_facts _ s (Nat.le_refl _)).1 p h1⟩
theorem put_some {L : List ByteArray} {b : Bool} {s : ByteArray} {k : Nat} (hk : s.size / 64 < k) (hs : s.size ≤ 1000000) (hL : L.length + (s.size + 63) / 64 ≤ 4000) : blocks_Table_Put.f k L b s = some ((putGo L [] (cutL s)).1, 0, L ++ (putGo L [] (cutL s)).2, b) ∧ (L ++ (putGo L [] (cutL s)).2).length ≤ L.length + (s.size + 63) / 64 := by
  obtain ⟨G, h1, h2⟩ := putGo_pre L (cutL s) []
  have hf := (cutL_facts _ s (Nat.le_refl _)).2.1
  have hG : (putGo L [] (cutL s)).2.length ≤ (s.size + 63) / 64 := by rw [h1, List.nil_append, ← hf]; exact h2
  refine ⟨?_, by rw [List.length_append]; omega⟩
  rw [put_f hk hs]
  unfold putOf
  rw [if_neg (by omega)]
end Go.Proofs.YtcijimdogddbeaaDoor.Tab
