/- For every text of at most 600 bytes and every place: what it is packed to, and which match there is at the place, is the document's. No condition. -/
import Derived.Test.YtopicibcengkfaaThLzPacks
namespace Go.Proofs.Ytopicibcengkfaa.Pure
open Go.RowKit Go.Proofs.Ytopicibcengkfaa.PLzPacks Go.Proofs.YtopicibcengkfaaW.PrintWords Go.Proofs.YtopicibcengkfaaW.PrintLast Go.Proofs.YtopicibcengkfaaW.PrintMore Go.Proofs.Ytopicibcengkfaa.PLzPacksTh Go.Proofs.Ytopicibcengkfaa.Bs Go.Proofs.Ytopicibcengkfaa.Lz
set_option linter.unusedVariables false
set_option linter.unusedSimpArgs false

theorem ref_l1 (s : ByteArray) (i d : Nat) (hd : 1 ≤ d) (hdi : d ≤ i) (hi : i ≤ s.size) (hs : s.size ≤ 1000000) (b : Nat × Nat) :
    ∀ (f n k : Nat), n + f = 130 → f < k → ∃ k', k ≤ k' + f + 1 ∧ hogsheadref17_Match.l1 k s (i : Int) (b.1 : Int) (b.2 : Int) (d : Int) (n : Int) =
      hogsheadref17_Match.l0 k' s (i : Int) ((if b.1 < mlenF (bytesOf s) i d f n then (mlenF (bytesOf s) i d f n, d) else b).1 : Int) ((if b.1 < mlenF (bytesOf s) i d f n then (mlenF (bytesOf s) i d f n, d) else b).2 : Int) ((d + 1 : Nat) : Int) := by
  have ed : wrap64 ((d : Int) + 1) = ((d + 1 : Nat) : Int) := by rw [wrap_in (by omega) (by omega)]; omega
  have Hd := Aside0.mk ed
  clear ed
  have hend : ∀ (k n : Nat), (if (n : Int) > (b.1 : Int) then (hogsheadref17_Match.l0 k s (i : Int) (n : Int) (d : Int) (wrap64 ((d : Int) + 1))) else (hogsheadref17_Match.l0 k s (i : Int) (b.1 : Int) (b.2 : Int) (wrap64 ((d : Int) + 1)))) =
      hogsheadref17_Match.l0 k s (i : Int) ((if b.1 < n then (n, d) else b).1 : Int) ((if b.1 < n then (n, d) else b).2 : Int) ((d + 1 : Nat) : Int) := by
    intro k n
    rw [Hd.out]
    by_cases h : b.1 < n
    · rw [if_pos (by omega), if_pos h]
    · rw [if_neg (by omega), if_neg h]
  intro f
  induction f with
  | zero =>
    intro n k hn hk
    obtain ⟨k, rfl⟩ : ∃ m, k = m + 1 := ⟨k - 1, by omega⟩
    refine ⟨k, by omega, ?_⟩
    rw [hogsheadref17_Match.l1, if_neg (by omega)]
    exact hend k n
  | succ f ih =>
    intro n k hn hk
    obtain ⟨k, rfl⟩ : ∃ m, k = m + 1 := ⟨k - 1, by omega⟩
    rw [hogsheadref17_Match.l1, if_pos (by omega), w_add (by omega)]
    by_cases hlt : i + n < s.size
    · rw [if_pos (by omega), if_pos (by omega), w_sub (by omega) (by omega), if_pos (by omega), if_pos (by omega), bt_el, bt_el]
      by_cases he : el (bytesOf s) (i + n) = el (bytesOf s) (i + n - d)
      · have hm : mlenF (bytesOf s) i d (f + 1) n = mlenF (bytesOf s) i d f (n + 1) := by rw [mlenF, if_pos ⟨by rw [bytesOf_length]; exact hlt, he⟩]
        rw [if_pos he, hm]
        rw [show wrap64 ((n : Int) + 1) = ((n + 1 : Nat) : Int) from by rw [wrap_in (by omega) (by omega)]; omega]
        obtain ⟨k', hk', h⟩ := ih (n + 1) k (by omega) (by omega)
        exact ⟨k', by omega, h⟩
      · have hm : mlenF (bytesOf s) i d (f + 1) n = n := by rw [mlenF, if_neg (fun h => he h.2)]
        rw [if_neg he, hm]
        exact ⟨k, by omega, hend k n⟩
    · have hm : mlenF (bytesOf s) i d (f + 1) n = n := by rw [mlenF, if_neg (fun h => hlt (by have := h.1; rwa [bytesOf_length] at this))]
      rw [if_neg (by omega), hm]
      exact ⟨k, by omega, hend k n⟩
theorem ref_fin (b : Nat × Nat) : (if (b.1 : Int) < 3 then (some ((0 : Int), (0 : Int))) else (some ((b.1 : Int), (b.2 : Int)))) = some (fin b) := by
  unfold fin
  by_cases h : b.1 < 3
  · rw [if_pos (by omega), if_pos h]
  · rw [if_neg (by omega), if_neg h]
theorem ref_l0 (s : ByteArray) (i : Nat) (hi : i < s.size) (hs : s.size ≤ 1000000) :
    ∀ (f d k : Nat) (b : Nat × Nat), d + f = min i 255 + 1 → 1 ≤ d → 134 * f + 3 < k → hogsheadref17_Match.l0 k s (i : Int) (b.1 : Int) (b.2 : Int) (d : Int) = some (fin (bestF (bytesOf s) i f d b)) := by
  intro f
  induction f with
  | zero =>
    intro d k b hd h1 hk
    obtain ⟨k, rfl⟩ : ∃ m, k = m + 2 := ⟨k - 2, by omega⟩
    rw [hogsheadref17_Match.l0, bestF]
    by_cases h : (d : Int) ≤ 255
    · rw [if_pos h, hogsheadref17_Match.j2, if_neg (by simp; omega)]
      exact ref_fin b
    · rw [if_neg h, hogsheadref17_Match.j2, if_neg (by simp)]
      exact ref_fin b
  | succ f ih =>
    intro d k b hd h1 hk
    obtain ⟨k, rfl⟩ : ∃ m, k = m + 2 := ⟨k - 2, by omega⟩
    rw [hogsheadref17_Match.l0, if_pos (by omega), hogsheadref17_Match.j2, if_pos (by simp; omega)]
    obtain ⟨k', hk', h⟩ := ref_l1 s i d h1 (by omega) (by omega) hs b 130 0 k rfl (by omega)
    rw [show (0 : Int) = ((0 : Nat) : Int) from rfl, h, bestF]
    exact ih (d + 1) k' _ (by omega) (by omega) (by omega)
theorem ref_match (s : ByteArray) (hs : s.size ≤ 1000000) (i : Int) (k : Nat) (hk : 36000 ≤ k) : hogsheadref17_Match.f k s i = some (M (bytesOf s) i) := by
  obtain ⟨k, rfl⟩ : ∃ m, k = m + 1 := ⟨k - 1, by omega⟩
  unfold hogsheadref17_Match.f M
  by_cases h0 : i < 0
  · rw [if_pos h0, if_neg (by omega), hogsheadref17_Match.j0, if_pos rfl]
  · rw [if_neg h0, if_pos (by omega)]
    obtain ⟨n, rfl⟩ := Int.eq_ofNat_of_zero_le (show 0 ≤ i from by omega)
    rw [hogsheadref17_Match.j0, Int.toNat_natCast]
    by_cases h1 : n < s.size
    · rw [if_neg (by simp; omega)]
      have := ref_l0 s n h1 hs (min n 255) 1 k (0, 0) (by omega) (Nat.le_refl _) (by omega)
      rw [← fin_mch _ _ (by rw [bytesOf_length]; exact h1)]
      exact this
    · rw [if_pos (by simp; omega)]
      unfold mch
      rw [if_neg (by rw [bytesOf_length]; exact h1)]
      rfl

theorem seg (l : List Int) {p q i : Nat} (h : p ≤ q) (h' : q ≤ i) : (l.take q).drop p ++ (l.take i).drop q = (l.take i).drop p := by
  have e : (l.take i).take q = l.take q := by rw [List.take_take, Nat.min_eq_left h']
  have := List.take_append_drop (q - p) ((l.take i).drop p)
  rw [List.drop_drop, show p + (q - p) = q from by omega] at this
  rw [← this]
  congr 1
  rw [← e, List.drop_take]
theorem seg_len (l : List Int) {p i : Nat} (h' : i ≤ l.length) : ((l.take i).drop p).length = i - p := by rw [List.length_drop, List.length_take]; omega
/-- What is written where ways part: all bytes so far. -/
theorem flush (l : List Int) {p q i : Nat} (h : p ≤ q) (h' : q < i) (hi : i ≤ l.length) (h128 : i ≤ q + 128) (hm : (q - p) % 128 = 0) :
    lits ((l.take q).drop p) ++ ([(((i - q : Nat) : Int) - 1)] ++ (l.take i).drop q) = lits ((l.take i).drop p) := by
  have hl := seg_len l (p := q) hi
  have hne : (l.take i).drop q ≠ [] := fun e => by rw [e] at hl; simp at hl; omega
  rw [← seg l h (Nat.le_of_lt h'), lits_append _ _ (by rw [seg_len l (by omega)]; exact hm), lits_short _ hne (by omega), hl]
  rfl
theorem flush_j1 (s : ByteArray) (hs : s.size ≤ 100000) (k i p q : Nat) (o : List Int) (n d : Int) (h : p ≤ q) (h' : q ≤ i) (hi : i ≤ s.size) (h128 : i ≤ q + 128) (hm : (q - p) % 128 = 0) (ho : o.length ≤ 2 * p) :
    hogsheadref17_Pack.j1 (k + 1) s (o ++ lits (((bytesOf s).take q).drop p)) (q : Int) (i : Int) n d true = hogsheadref17_Pack.j2 k s (o ++ lits (((bytesOf s).take i).drop p)) (i : Int) (i : Int) n d := by
  have hl := seg_len (bytesOf s) (p := p) (i := q) (by rw [bytesOf_length]; omega)
  rw [hogsheadref17_Pack.j1, if_pos rfl]
  by_cases e : q = i
  · subst e
    rw [if_neg (by omega)]
  · rw [if_pos (by omega), if_pos (by rw [List.length_append, lits_length]; omega), some_bind, if_pos (by omega), if_pos (by omega), if_pos (by omega), Int.toNat_natCast, Int.toNat_natCast]
    rw [if_pos (by rw [List.length_append, List.length_append, lits_length, ByteArray.size_extract]; simp only [List.length_cons, List.length_nil]; omega)]
    rw [show wrap64 ((i : Int) - (q : Int)) = ((i - q : Nat) : Int) from w_sub (by omega) h', show (wrap64 (((i - q : Nat) : Int) - 1)) % 256 = ((i - q : Nat) : Int) - 1 from by rw [wrap_in (by omega) (by omega)]; omega]
    rw [cut_list, List.append_assoc, List.append_assoc, flush (bytesOf s) h (by omega) (by rw [bytesOf_length]; exact hi) h128 hm]
theorem ref_pack_l0 (s : ByteArray) (hs : s.size ≤ 100000) :
    ∀ (f i p q : Nat) (o : List Int) (k : Nat), p ≤ q → q ≤ i → i ≤ s.size → i ≤ q + 128 → (q - p) % 128 = 0 → s.size - i < f → o.length ≤ 2 * p → 3 * f + 36000 ≤ k →
    hogsheadref17_Pack.l0 k s (o ++ lits (((bytesOf s).take q).drop p)) (q : Int) (i : Int) = some (strOfNums (o ++ PKf (bytesOf s) f i p)) := by
  intro f
  induction f with
  | zero => intro i p q o k _ _ _ _ _ h; omega
  | succ f ih =>
    intro i p q o k hpq hqi hi h128 hm hf ho hk
    obtain ⟨k, rfl⟩ : ∃ m, k = m + 3 := ⟨k - 3, by omega⟩
    have hM : M (bytesOf s) (i : Int) = (((mch (bytesOf s) i).1 : Int), ((mch (bytesOf s) i).2 : Int)) := by unfold M; rw [if_pos (by omega), Int.toNat_natCast]
    rw [hogsheadref17_Pack.l0, if_pos (by omega), ref_match s (by omega) _ _ (by omega), some_bind, hM, PKf]
    simp only
    by_cases hlt : i < s.size
    · rw [if_pos (show i < (bytesOf s).length by rw [bytesOf_length]; exact hlt)]
      by_cases h0 : (mch (bytesOf s) i).1 = 0
      · rw [if_pos h0, if_neg (by omega), if_neg (by omega), show wrap64 ((i : Int) - (q : Int)) = ((i - q : Nat) : Int) from w_sub (by omega) hqi]
        by_cases h8 : i - q = 128
        · rw [h8, show (((128 : Nat) : Int) == 128) = true from rfl, flush_j1 s hs (k + 1) i p q o _ _ hpq hqi hi h128 hm ho, hogsheadref17_Pack.j2, if_neg (by omega), if_neg (by omega)]
          rw [show wrap64 ((i : Int) + 1) = ((i + 1 : Nat) : Int) from by rw [wrap_in (by omega) (by omega)]; omega]
          exact ih (i + 1) p i o k (by omega) (by omega) (by omega) (by omega) (by omega) (by omega) ho (by omega)
        · rw [show (((i - q : Nat) : Int) == 128) = false from by simp; omega, hogsheadref17_Pack.j1, if_neg (by simp), hogsheadref17_Pack.j2, if_neg (by omega), if_neg (by omega)]
          rw [show wrap64 ((i : Int) + 1) = ((i + 1 : Nat) : Int) from by rw [wrap_in (by omega) (by omega)]; omega]
          exact ih (i + 1) p q o k (by omega) (by omega) (by omega) (by omega) hm (by omega) ho (by omega)
      · rw [if_neg h0, if_pos (by omega)]
        obtain ⟨g1, g2, g3, g4, g5, g6, g7⟩ := mch_pos (bytesOf s) i h0
        rw [bytesOf_length] at g6
        have hl := seg_len (bytesOf s) (p := p) (i := i) (by rw [bytesOf_length]; exact hi)
        have hol : (o ++ lits (((bytesOf s).take i).drop p)).length ≤ 2 * i := by rw [List.length_append, lits_length, hl]; omega
        rw [flush_j1 s hs (k + 1) i p q o _ _ hpq hqi hi h128 hm ho, hogsheadref17_Pack.j2, if_neg (by omega), if_pos (by omega), some_bind]
        rw [if_pos (by simp only [List.length_cons, List.length_nil]; omega)]
        have hih := ih (i + (mch (bytesOf s) i).1) (i + (mch (bytesOf s) i).1) (i + (mch (bytesOf s) i).1) (o ++ lits (((bytesOf s).take i).drop p) ++ [125 + ((mch (bytesOf s) i).1 : Int), ((mch (bytesOf s) i).2 : Int)]) k (Nat.le_refl _) (Nat.le_refl _) g6 (by omega) (by omega) (by omega) (by rw [List.length_append]; simp only [List.length_cons, List.length_nil]; omega) (by omega)
        have hz0 : ((bytesOf s).take (i + (mch (bytesOf s) i).1)).drop (i + (mch (bytesOf s) i).1) = [] := List.drop_eq_nil_of_le (by rw [List.length_take]; omega)
        rw [hz0, lits_nil, List.append_nil] at hih
        rw [show wrap64 ((i : Int) + ((mch (bytesOf s) i).1 : Int)) = ((i + (mch (bytesOf s) i).1 : Nat) : Int) from w_add (by omega), tok_byte _ g1 g2, show ((mch (bytesOf s) i).2 : Int) % 256 = ((mch (bytesOf s) i).2 : Int) from by omega, hih, List.append_assoc, List.append_assoc]
    · obtain rfl : i = s.size := by omega
      have hz : (mch (bytesOf s) s.size).1 = 0 := by unfold mch; rw [if_neg (by rw [bytesOf_length]; omega)]
      rw [if_neg (by omega), if_pos rfl, flush_j1 s hs (k + 1) s.size p q o _ _ hpq hqi hi h128 hm ho, hogsheadref17_Pack.j2, if_pos rfl, if_neg (by rw [bytesOf_length]; omega)]
      rw [List.take_of_length_le (by rw [bytesOf_length]; exact Nat.le_refl _)]
theorem ref_pack (s : ByteArray) (hs : s.size ≤ 100000) (k : Nat) (hk : 3 * s.size + 36010 ≤ k) : hogsheadref17_Pack.f k s = some (strOfNums (PK (bytesOf s))) := by
  have := ref_pack_l0 s hs (s.size + 1) 0 0 0 [] k (Nat.le_refl _) (Nat.le_refl _) (by omega) (by omega) (by omega) (by omega) (by simp) (by omega)
  unfold hogsheadref17_Pack.f PK
  rw [bytesOf_length]
  simpa [lits_nil] using this
theorem LzPacks : hogsheadlaw17_LzPacks.Pure := by
  intro s i hs _
  refine ⟨1000000, ?_⟩
  unfold hogsheadlaw17_LzPacks.f
  by_cases h : (s.size : Int) > 600
  · rw [if_pos h, awake_f _ (by omega)]; rfl
  · rw [if_neg h, match_f s (by omega) i _ (by omega), some_bind, ref_match s (by omega) i _ (by omega), some_bind, pack_f s (by omega) _ (by omega), some_bind, ref_pack s (by omega) _ (by omega), some_bind, if_pos rfl, if_pos rfl, if_pos rfl, awake_f _ (by omega)]
    rfl
end Go.Proofs.Ytopicibcengkfaa.Pure
