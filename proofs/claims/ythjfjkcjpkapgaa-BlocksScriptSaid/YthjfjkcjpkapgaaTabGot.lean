/- What was put stands in the table: numbers of pieces, and the texts that come of them. No condition. -/
import Derived.Test.YthjfjkcjpkapgaaTabTh
namespace Go.Proofs.Ythjfjkcjpkapgaa.Tab
open Go.RowKit Go.Proofs.YthjfjkcjpkapgaaX Go.Proofs.YthjfjkcjpkapgaaW.PrintWords Go.Proofs.YthjfjkcjpkapgaaW.PrintLast Go.Proofs.YthjfjkcjpkapgaaW.PrintMore Go.Proofs.Ythjfjkcjpkapgaa.P Go.Proofs.Ythjfjkcjpkapgaa.Bs
set_option linter.unusedVariables false
set_option linter.unusedSimpArgs false
/-- The numbers a are those of the pieces ps. -/
def Got (L : List ByteArray) (a : List Int) (ps : List ByteArray) : Prop := a.length = ps.length ∧ ∀ j, j < ps.length → ∃ i : Nat, a[j]? = some (i : Int) ∧ L[i]? = ps[j]?
theorem Got.more {L G : List ByteArray} {a : List Int} {ps : List ByteArray} (h : Got L a ps) : Got (L ++ G) a ps := ⟨h.1, fun j hj => by
  obtain ⟨i, h1, h2⟩ := h.2 j hj
  rw [List.getElem?_eq_getElem hj] at h2
  refine ⟨i, h1, ?_⟩
  have hi := (List.getElem?_eq_some_iff.1 h2).1
  rw [List.getElem?_append_left hi, h2, List.getElem?_eq_getElem hj]⟩
theorem Got.of (L : List ByteArray) (ps : List ByteArray) : Got (L ++ (putGo L [] ps).2) (putGo L [] ps).1 ps := ⟨putGo_len L ps [], fun j hj => by
  obtain ⟨i, h1, h2⟩ := putGo_at L ps [] j hj
  exact ⟨i, h1, by rw [h2, List.getElem?_eq_getElem hj]⟩⟩
theorem Got.texts {L : List ByteArray} {a : List Int} {ps qs : List ByteArray} (h : Got L a ps) (k : Got L a qs) : ps = qs := by
  refine List.ext_getElem? (fun j => ?_)
  by_cases hj : j < ps.length
  · obtain ⟨i, h1, h2⟩ := h.2 j hj
    obtain ⟨i', h3, h4⟩ := k.2 j (by rw [← k.1, h.1]; exact hj)
    rw [h1] at h3
    obtain rfl : i = i' := by injection h3 with h3; omega
    rw [← h2, h4]
  · rw [List.getElem?_eq_none (by omega), List.getElem?_eq_none (by rw [← k.1, h.1]; omega)]
theorem Got.same {L : List ByteArray} (hL : L.Nodup) {a b : List Int} {ps : List ByteArray} (h : Got L a ps) (k : Got L b ps) : a = b := by
  refine List.ext_getElem? (fun j => ?_)
  by_cases hj : j < ps.length
  · obtain ⟨i, h1, h2⟩ := h.2 j hj
    obtain ⟨i', h3, h4⟩ := k.2 j hj
    rw [List.getElem?_eq_getElem hj] at h2 h4
    obtain ⟨q1, q2⟩ := List.getElem?_eq_some_iff.1 h2
    obtain ⟨q3, q4⟩ := List.getElem?_eq_some_iff.1 h4
    obtain rfl := nodup_at hL q1 q3 (by rw [q2, q4])
    rw [h1, h3]
  · rw [List.getElem?_eq_none (by rw [h.1]; omega), List.getElem?_eq_none (by rw [k.1]; omega)]
/-- The pieces of a text, each of its own bytes. -/
theorem got_l0 {L : List ByteArray} {b : Bool} {a : List Int} {ps : List ByteArray} (h : Got L a ps) (hp : ∀ p ∈ ps, p.size ≤ 64) (hl : ps.length ≤ 1000000) (hL : L.length ≤ 1000000) : ∀ d k j, j + d = ps.length → d < k → blocks_Table_Get.l0 k ((ps.take j).map bytesOf).flatten a (a.length : Int) (j : Int) L b = some (strOfNums (ps.map bytesOf).flatten, true, L, b)
  | d, 0, j, _, hk => absurd hk (by omega)
  | 0, k + 1, j, hj, _ => by
    have h1 := h.1
    rw [blocks_Table_Get.l0, if_neg (by omega), List.take_of_length_le (by omega)]
  | d + 1, k + 1, j, hj, hk => by
    have h1 := h.1
    obtain ⟨i, h2, h3⟩ := h.2 j (by omega)
    rw [List.getElem?_eq_getElem (show j < ps.length by omega)] at h3
    obtain ⟨q1, q2⟩ := List.getElem?_eq_some_iff.1 h3
    obtain ⟨q3, q4⟩ := List.getElem?_eq_some_iff.1 h2
    have hr : rd a (j : Int) = (i : Int) := by rw [rd_nat a j q3, q4]
    have hs : ps[j].size ≤ 64 := hp _ (List.getElem_mem _)
    have hfl : ∀ n, ((ps.take n).map bytesOf).flatten.length ≤ 64 * n := by
      intro n
      induction n with
      | zero => simp
      | succ n ih =>
        by_cases hn : n < ps.length
        · rw [List.take_succ_eq_append_getElem hn, List.map_append, List.flatten_append, List.length_append, List.map_singleton, List.flatten_singleton, bytesOf_length]
          have := hp _ (List.getElem_mem hn)
          omega
        · rw [List.take_of_length_le (by omega)]
          rw [List.take_of_length_le (by omega)] at ih
          omega
    have hf := hfl j
    rw [blocks_Table_Get.l0, if_pos (by omega), if_pos (by omega), if_pos (by omega), hr, if_neg (by omega), if_neg (by omega), if_pos (by omega), if_pos (by omega), rdOf_nat L i q1, q2, if_pos (by omega), w_1 (by omega)]
    have e : ((ps.take j).map bytesOf).flatten ++ bytesOf ps[j] = ((ps.take (j + 1)).map bytesOf).flatten := by
      rw [List.take_succ_eq_append_getElem (by omega), List.map_append, List.flatten_append, List.map_singleton, List.flatten_singleton]
    rw [e]
    exact got_l0 h hp hl hL d k (j + 1) (by omega) (by omega)
theorem got_f {L : List ByteArray} {b : Bool} {a : List Int} {s : ByteArray} (h : Got L a (cutL s)) (hs : s.size ≤ 1000000) (hL : L.length ≤ 1000000) {k : Nat} (hk : s.size < k) : blocks_Table_Get.f k L b a = some (s, true, L, b) := by
  obtain ⟨f1, f2, f3⟩ := cutL_facts _ s (Nat.le_refl _)
  have := got_l0 (b := b) h (fun p hp => (f1 p hp).2) (by rw [f2]; omega) hL (cutL s).length k 0 (by omega) (by rw [f2]; omega)
  rw [f3, strOfNums_bytesOf] at this
  exact this
/-- Whether texts are too many, or one of them too long. -/
theorem great_l0 (x0 : List ByteArray) (m n : Int) (hl : x0.length ≤ 9223372036854775807) (hm0 : 0 ≤ m) (hm : m ≤ 1000) : ∀ d k (i : Nat), i + d = x0.length ∨ i + d = m.toNat + 1 ∧ i + d ≤ x0.length → 2 * d + 1 < k → i ≤ 1001 → ∃ b, hogsheadlaw0_GreatTexts.l0 k x0 m n (i : Int) = some b ∧ (b = false → (x0.length : Int) ≤ m ∧ ∀ j : Nat, i ≤ j → (h : j < x0.length) → (x0[j].size : Int) ≤ n)
  | d, 0, i, _, hk, _ => absurd hk (by omega)
  | d, 1, i, _, hk, _ => absurd hk (by omega)
  | d, k + 2, i, hd, hk, hi => by
    rw [hogsheadlaw0_GreatTexts.l0]
    by_cases h1 : i < x0.length
    · rw [if_pos (by omega), hogsheadlaw0_GreatTexts.j1]
      by_cases h2 : (x0.length : Int) ≤ m
      · rw [decide_eq_true h2, if_pos rfl, if_pos (by omega), if_pos (by omega), rdOf_nat x0 i h1]
        by_cases h3 : (x0[i].size : Int) > n
        · rw [if_pos h3]; exact ⟨true, rfl, fun e => by cases e⟩
        · rw [if_neg h3, w_1 (by omega)]
          cases d with
          | zero => omega
          | succ d =>
            obtain ⟨b, e1, e2⟩ := great_l0 x0 m n hl hm0 hm d k (i + 1) (by omega) (by omega) (by omega)
            refine ⟨b, e1, fun hb => ⟨h2, fun j hj h => ?_⟩⟩
            by_cases hji : j = i
            · subst hji; omega
            · exact (e2 hb).2 j (by omega) h
      · rw [decide_eq_false h2, if_neg (by simp), decide_eq_true (by omega)]
        exact ⟨true, rfl, fun e => by cases e⟩
    · rw [if_neg (by omega), hogsheadlaw0_GreatTexts.j1, if_neg (by simp)]
      refine ⟨_, rfl, fun e => ⟨?_, fun j hj h => absurd h (by omega)⟩⟩
      have := of_decide_eq_false e
      omega
theorem great_f {x0 : List ByteArray} {m n : Int} (hl : x0.length ≤ 9223372036854775807) (hm0 : 0 ≤ m) (hm : m ≤ 1000) {k : Nat} (hk : 2005 ≤ k) : ∃ b, hogsheadlaw0_GreatTexts.f k x0 m n = some b ∧ (b = false → (x0.length : Int) ≤ m ∧ ∀ j : Nat, (h : j < x0.length) → (x0[j].size : Int) ≤ n) := by
  obtain ⟨b, e1, e2⟩ := great_l0 x0 m n hl hm0 hm (min x0.length (m.toNat + 1)) k 0 (by omega) (by omega) (by omega)
  exact ⟨b, e1, fun hb => ⟨(e2 hb).1, fun j h => (e2 hb).2 j (by omega) h⟩⟩
/-- A table's blocks: each once, of 1 to 64 bytes. -/
def GoodT (L : List ByteArray) : Prop := L.Nodup ∧ ∀ p ∈ L, 1 ≤ p.size ∧ p.size ≤ 64
theorem GoodT.put {L : List ByteArray} (h : GoodT L) (s : ByteArray) : GoodT (L ++ (putGo L [] (cutL s)).2) := ⟨putGo_nodup h.1 _, fun p hp => by
  rcases List.mem_append.1 hp with hp | hp
  · exact h.2 p hp
  · rcases putGo_mem L (cutL s) [] p hp with h1 | h1
    · cases h1
    · exact (cutL_facts _ s (Nat.le_refl _)).1 p h1⟩
theorem put_some {L : List ByteArray} {b : Bool} {s : ByteArray} {k : Nat} (hk : s.size / 64 < k) (hs : s.size ≤ 1000000) (hL : L.length + (s.size + 63) / 64 ≤ 4000) : blocks_Table_Put.f k L b s = some ((putGo L [] (cutL s)).1, 0, L ++ (putGo L [] (cutL s)).2, b) ∧ (L ++ (putGo L [] (cutL s)).2).length ≤ L.length + (s.size + 63) / 64 := by
  obtain ⟨G, h1, h2⟩ := putGo_pre L (cutL s) []
  have hf := (cutL_facts _ s (Nat.le_refl _)).2.1
  have hG : (putGo L [] (cutL s)).2.length ≤ (s.size + 63) / 64 := by rw [h1, List.nil_append, ← hf]; exact h2
  refine ⟨?_, by rw [List.length_append]; omega⟩
  rw [put_f hk hs]
  unfold putOf
  rw [if_neg (by omega)]
end Go.Proofs.Ythjfjkcjpkapgaa.Tab
