/- The printed functions of package lz are the plain ones. -/
import Derived.Test.YtopicibcengkfaaPLzMatchesx
import Derived.Test.YtopicibcengkfaaLz
namespace Go.Proofs.Ytopicibcengkfaa.PLzMatchesTh
open Go.RowKit Go.Proofs.YtopicibcengkfaaW.PrintWords Go.Proofs.YtopicibcengkfaaW.PrintLast Go.Proofs.YtopicibcengkfaaW.PrintMore Go.Proofs.Ytopicibcengkfaa.PLzMatches Go.Proofs.Ytopicibcengkfaa.Bs Go.Proofs.Ytopicibcengkfaa.Lz
set_option linter.unusedVariables false
set_option linter.unusedSimpArgs false

theorem w_add {i n : Nat} (h : i + n ≤ 100000000) : wrap64 ((i : Int) + (n : Int)) = ((i + n : Nat) : Int) := by rw [wrap_in (by omega) (by omega)]; omega
theorem w_sub {i n : Nat} (h : i ≤ 100000000) (h' : n ≤ i) : wrap64 ((i : Int) - (n : Int)) = ((i - n : Nat) : Int) := by rw [wrap_in (by omega) (by omega)]; omega
theorem bt_el (s : ByteArray) (i : Nat) : bt s (i : Int) = el (bytesOf s) i := by rw [bt_getD, Int.toNat_natCast]; rfl

theorem alike_l0 (s : ByteArray) (i d : Nat) (hd : 1 ≤ d) (hdi : d ≤ i) (hi : i ≤ s.size) (hs : s.size ≤ 1000000) :
    ∀ (f n k : Nat), n + f = 130 → f < k → lz_alike.l0 k s (i : Int) (d : Int) (n : Int) = some ((mlenF (bytesOf s) i d f n : Nat) : Int) := by
  intro f
  induction f with
  | zero =>
    intro n k hn hk
    obtain ⟨k, rfl⟩ : ∃ m, k = m + 1 := ⟨k - 1, by omega⟩
    simp only [lz_alike.l0]
    rw [if_neg (by omega)]
    rfl
  | succ f ih =>
    intro n k hn hk
    obtain ⟨k, rfl⟩ : ∃ m, k = m + 1 := ⟨k - 1, by omega⟩
    simp only [lz_alike.l0]
    rw [if_pos (by omega), w_add (by omega)]
    unfold mlenF
    by_cases hlt : i + n < s.size
    · rw [if_pos (by omega), if_pos (by omega), w_sub (by omega) (by omega), if_pos (by omega), if_pos (by omega), bt_el, bt_el]
      by_cases he : el (bytesOf s) (i + n) = el (bytesOf s) (i + n - d)
      · rw [if_pos he, if_pos ⟨by rw [bytesOf_length]; exact hlt, he⟩]
        have e1 : wrap64 ((n : Int) + 1) = ((n + 1 : Nat) : Int) := by rw [wrap_in (by omega) (by omega)]; omega
        rw [e1]
        exact ih (n + 1) k (by omega) (by omega)
      · rw [if_neg he, if_neg (fun h => he h.2)]
    · rw [if_neg (by omega), if_neg (fun h => hlt (by have := h.1; rwa [bytesOf_length] at this))]

def fin (b : Nat × Nat) : Int × Int := if b.1 < 3 then (0, 0) else ((b.1 : Int), (b.2 : Int))
theorem match_l0 (s : ByteArray) (i : Nat) (hi : i < s.size) (hs : s.size ≤ 1000000) :
    ∀ (f d k : Nat) (b : Nat × Nat), d + f = min i 255 + 1 → 1 ≤ d → f + 132 < k → lz_Match.l0 k s (i : Int) (b.1 : Int) (b.2 : Int) (d : Int) = some (fin (bestF (bytesOf s) i f d b)) := by
  intro f
  induction f with
  | zero =>
    intro d k b hd h1 hk
    obtain ⟨k, rfl⟩ : ∃ m, k = m + 1 := ⟨k - 1, by omega⟩
    simp only [lz_Match.l0]
    rw [if_neg (by unfold mn; split <;> omega)]
    unfold bestF fin
    by_cases h : b.1 < 3
    · rw [if_pos (by omega), if_pos h]
    · rw [if_neg (by omega), if_neg h]
  | succ f ih =>
    intro d k b hd h1 hk
    obtain ⟨k, rfl⟩ : ∃ m, k = m + 1 := ⟨k - 1, by omega⟩
    simp only [lz_Match.l0]
    rw [if_pos (by unfold mn; split <;> omega)]
    have ha : lz_alike.f k s (i : Int) (d : Int) = some ((mlen (bytesOf s) i d : Nat) : Int) := alike_l0 s i d h1 (by omega) (by omega) hs 130 0 k rfl (by omega)
    rw [ha, some_bind]
    have e1 : wrap64 ((d : Int) + 1) = ((d + 1 : Nat) : Int) := by rw [wrap_in (by omega) (by omega)]; omega
    rw [e1]
    unfold bestF
    by_cases h : b.1 < mlen (bytesOf s) i d
    · rw [if_pos (by omega), if_pos h]
      exact ih (d + 1) k (mlen (bytesOf s) i d, d) (by omega) (by omega) (by omega)
    · rw [if_neg (by omega), if_neg h]
      exact ih (d + 1) k b (by omega) (by omega) (by omega)
/-- What the package tells of a match at a place. -/
def M (l : List Int) (i : Int) : Int × Int := if 0 ≤ i then (((mch l i.toNat).1 : Int), ((mch l i.toNat).2 : Int)) else (0, 0)
theorem fin_mch (l : List Int) (i : Nat) (hi : i < l.length) : fin (best l i) = (((mch l i).1 : Int), ((mch l i).2 : Int)) := by
  unfold fin mch
  rw [if_pos hi]
  split <;> rfl
theorem match_f (s : ByteArray) (hs : s.size ≤ 1000000) (i : Int) (k : Nat) (hk : 400 ≤ k) : lz_Match.f k s i = some (M (bytesOf s) i) := by
  obtain ⟨k, rfl⟩ : ∃ m, k = m + 1 := ⟨k - 1, by omega⟩
  unfold lz_Match.f M
  by_cases h0 : i < 0
  · rw [if_pos h0, if_neg (by omega)]
    rw [lz_Match.j0, if_pos rfl]
  · rw [if_neg h0, if_pos (by omega)]
    obtain ⟨n, rfl⟩ := Int.eq_ofNat_of_zero_le (show 0 ≤ i from by omega)
    rw [lz_Match.j0, Int.toNat_natCast]
    by_cases h1 : n < s.size
    · rw [if_neg (by simp; omega)]
      have := match_l0 s n h1 hs (min n 255) 1 k (0, 0) (by omega) (Nat.le_refl _) (by omega)
      rw [← fin_mch _ _ (by rw [bytesOf_length]; exact h1)]
      exact this
    · rw [if_pos (by simp; omega)]
      unfold mch
      rw [if_neg (by rw [bytesOf_length]; exact h1)]
      rfl

theorem as_l0 : ∀ (n : Nat) (x : ByteArray) (o : List Int) (k : Nat), x.size ≤ n → n < k → o.length + 3 * x.size ≤ 100000000 → lz_as.l0 k o x = some (o ++ lits (bytesOf x)) := by
  intro n
  induction n with
  | zero =>
    intro x o k hx hk ho
    obtain ⟨k, rfl⟩ : ∃ m, k = m + 1 := ⟨k - 1, by omega⟩
    simp only [lz_as.l0]
    rw [if_neg (by omega), List.eq_nil_of_length_eq_zero (show (bytesOf x).length = 0 by rw [bytesOf_length]; omega), lits_nil, List.append_nil]
  | succ n ih =>
    intro x o k hx hk ho
    obtain ⟨k, rfl⟩ : ∃ m, k = m + 1 := ⟨k - 1, by omega⟩
    simp only [lz_as.l0]
    by_cases hp : 0 < x.size
    · rw [if_pos (by omega), if_pos (by omega), some_bind]
      have e1 : mn (x.size : Int) 128 = ((min x.size 128 : Nat) : Int) := by unfold mn; split <;> omega
      rw [e1, if_pos (by omega), if_pos (by omega), Int.toNat_natCast]
      rw [if_pos (by rw [ByteArray.size_extract, List.length_append]; simp only [List.length_cons, List.length_nil]; omega)]
      have e2 : (wrap64 (((min x.size 128 : Nat) : Int) - 1)) % 256 = ((min x.size 128 : Nat) : Int) - 1 := by rw [wrap_in (by omega) (by omega)]; omega
      rw [e2, ih _ _ k (by rw [ByteArray.size_extract]; omega) (by omega) (by
        rw [ByteArray.size_extract, List.length_append, List.length_append, bytesOf_length, ByteArray.size_extract]; simp only [List.length_cons, List.length_nil]; omega)]
      have hne : bytesOf x ≠ [] := fun e => by have := bytesOf_length x; rw [e] at this; simp at this; omega
      have hm : min (bytesOf x).length 128 = min x.size 128 := by rw [bytesOf_length]
      rw [lits_eq _ hne, hm, bytesOf_extract, bytesOf_extract, List.drop_zero, List.append_assoc, List.append_assoc]
      have e3 : (bytesOf x).take (min x.size 128) = (bytesOf x).take 128 := by
        rw [← hm]
        rcases Nat.le_total (bytesOf x).length 128 with h | h
        · rw [Nat.min_eq_left h, List.take_of_length_le (Nat.le_refl _), List.take_of_length_le h]
        · rw [Nat.min_eq_right h]
      have e4 : ((bytesOf x).take x.size).drop (min x.size 128) = (bytesOf x).drop 128 := by
        rw [List.take_of_length_le (by rw [bytesOf_length]; exact Nat.le_refl _), ← hm]
        rcases Nat.le_total (bytesOf x).length 128 with h | h
        · rw [Nat.min_eq_left h, List.drop_length, List.drop_eq_nil_of_le h]
        · rw [Nat.min_eq_right h]
      rw [e3, e4]
      rfl
    · rw [if_neg (by omega), List.eq_nil_of_length_eq_zero (show (bytesOf x).length = 0 by rw [bytesOf_length]; omega), lits_nil, List.append_nil]

theorem cut_list (s : ByteArray) (p i : Nat) : bytesOf (s.extract p i) = ((bytesOf s).take i).drop p := bytesOf_extract s p i
theorem cut_rest (s : ByteArray) (p : Nat) : bytesOf (s.extract p s.size) = (bytesOf s).drop p := by
  rw [bytesOf_extract, List.take_of_length_le (by rw [bytesOf_length]; exact Nat.le_refl _)]

theorem tok_byte (n : Nat) (h : 3 ≤ n) (h' : n ≤ 130) : (wrap64 ((wrap64 (128 + (n : Int))) - 3)) % 256 = 125 + (n : Int) := by unfold wrap64; omega
theorem tok_len (t : Int) (h : 0 ≤ t) (h' : t ≤ 255) : wrap64 (wrap64 (t - 128) + 3) = t - 125 := by unfold wrap64; omega
theorem pack_l0 (s : ByteArray) (hs : s.size ≤ 100000) :
    ∀ (f i p : Nat) (o : List Int) (k : Nat), p ≤ i → i ≤ s.size → s.size - i < f → o.length ≤ 2 * p → f + s.size + 400 < k →
    lz_Pack.l0 k s o (p : Int) (i : Int) = some (strOfNums (o ++ PKf (bytesOf s) f i p)) := by
  intro f
  induction f with
  | zero => intro i p o k _ _ h; omega
  | succ f ih =>
    intro i p o k hp hi hf ho hk
    obtain ⟨k, rfl⟩ : ∃ m, k = m + 1 := ⟨k - 1, by omega⟩
    simp only [lz_Pack.l0]
    unfold PKf
    by_cases hlt : i < s.size
    · rw [if_pos (by omega), match_f s (by omega) _ k (by omega), some_bind]
      rw [if_pos (show i < (bytesOf s).length by rw [bytesOf_length]; exact hlt)]
      have hM : M (bytesOf s) (i : Int) = (((mch (bytesOf s) i).1 : Int), ((mch (bytesOf s) i).2 : Int)) := by unfold M; rw [if_pos (by omega), Int.toNat_natCast]
      rw [hM]
      by_cases h0 : (mch (bytesOf s) i).1 = 0
      · rw [if_pos (by simp only; omega), if_pos h0]
        have e1 : wrap64 ((i : Int) + 1) = ((i + 1 : Nat) : Int) := by rw [wrap_in (by omega) (by omega)]; omega
        rw [e1]
        exact ih (i + 1) p o k (by omega) (by omega) (by omega) ho (by omega)
      · rw [if_neg (by simp only; omega), if_neg h0]
        obtain ⟨g1, g2, g3, g4, g5, g6, g7⟩ := mch_pos (bytesOf s) i h0
        rw [bytesOf_length] at g6
        rw [if_pos (by omega), if_pos (by omega), if_pos (by omega), Int.toNat_natCast, Int.toNat_natCast]
        have ha : lz_as.f k o (s.extract p i) = some (o ++ lits (bytesOf (s.extract p i))) := as_l0 s.size _ o k (by rw [ByteArray.size_extract]; omega) (by omega) (by rw [ByteArray.size_extract]; omega)
        rw [ha, some_bind, some_bind, cut_list s p i]
        have hl : (o ++ lits (((bytesOf s).take i).drop p)).length = o.length + ((i - p) + (i - p + 127) / 128) := by
          rw [List.length_append, lits_length, List.length_drop, List.length_take, bytesOf_length, Nat.min_eq_left hi]
        have hih := ih (i + (mch (bytesOf s) i).1) (i + (mch (bytesOf s) i).1) (o ++ lits (((bytesOf s).take i).drop p) ++ [125 + ((mch (bytesOf s) i).1 : Int), ((mch (bytesOf s) i).2 : Int)]) k (Nat.le_refl _) g6 (by omega) (by rw [List.length_append, hl]; simp only [List.length_cons, List.length_nil]; omega) (by omega)
        rw [if_pos (by rw [hl]; simp only [List.length_cons, List.length_nil]; omega)]
        simp only
        have e1 : wrap64 ((i : Int) + ((mch (bytesOf s) i).1 : Int)) = ((i + (mch (bytesOf s) i).1 : Nat) : Int) := w_add (by omega)
        have e2 : (wrap64 ((wrap64 (128 + ((mch (bytesOf s) i).1 : Int))) - 3)) % 256 = 125 + ((mch (bytesOf s) i).1 : Int) := tok_byte _ g1 g2
        have e3 : ((mch (bytesOf s) i).2 : Int) % 256 = ((mch (bytesOf s) i).2 : Int) := by omega
        rw [e1, e2, e3, hih, List.append_assoc, List.append_assoc]
    · rw [if_neg (by omega), if_pos (by omega), if_pos (by omega), Int.toNat_natCast]
      have ha : lz_as.f k o (s.extract p s.size) = some (o ++ lits (bytesOf (s.extract p s.size))) := as_l0 s.size _ o k (by rw [ByteArray.size_extract]; omega) (by omega) (by rw [ByteArray.size_extract]; omega)
      rw [ha, some_bind, cut_rest, if_neg (by rw [bytesOf_length]; exact hlt)]
theorem pack_f (s : ByteArray) (hs : s.size ≤ 100000) (k : Nat) (hk : 2 * s.size + 402 ≤ k) : lz_Pack.f k s = some (strOfNums (PK (bytesOf s))) := by
  have := pack_l0 s hs (s.size + 1) 0 0 [] k (Nat.le_refl _) (by omega) (by omega) (by simp) (by omega)
  unfold lz_Pack.f PK
  rw [bytesOf_length]
  exact this

/-- What unpacking answers, of what tokens make. -/
def res (q : Option (List Int)) (size : Int) : ByteArray × Int := match q with
  | some r => if (r.length : Int) = size then (strOfNums r, 0) else ((⟨#[]⟩ : ByteArray), 5)
  | none => ((⟨#[]⟩ : ByteArray), 5)
theorem res_none (size : Int) : res none size = ((⟨#[]⟩ : ByteArray), 5) := rfl
theorem res_long (q : Option (List Int)) (size : Int) (h : ∀ r, q = some r → size < r.length) : res q size = ((⟨#[]⟩ : ByteArray), 5) := by
  cases q with
  | none => rfl
  | some r => have := h r rfl; unfold res; simp only; rw [if_neg (by omega)]

theorem copy_l1 (x : ByteArray) (size : Int) (hx : 2 ≤ x.size) :
    ∀ (n j : Nat) (o : List Int) (d k m : Nat), j + n = m → m ≤ 130 → 1 ≤ d → d ≤ o.length → o.length + n ≤ 1000000 → n < k →
    (∀ k', k - n - 1 = k' → lz_Unpack.l1 k x size o (d : Int) (m : Int) (j : Int) = lz_Unpack.l0 k' (x.extract 2 x.size) size (cp d n o)) := by
  intro n
  induction n with
  | zero =>
    intro j o d k m hj hm hd hdo ho hk k' hk'
    obtain ⟨k, rfl⟩ : ∃ m, k = m + 1 := ⟨k - 1, by omega⟩
    simp only [lz_Unpack.l1]
    rw [if_neg (by omega), if_pos (by omega)]
    obtain rfl : k = k' := by omega
    rfl
  | succ n ih =>
    intro j o d k m hj hm hd hdo ho hk k' hk'
    obtain ⟨k, rfl⟩ : ∃ m, k = m + 1 := ⟨k - 1, by omega⟩
    simp only [lz_Unpack.l1]
    have hih := ih (j + 1) (o ++ [el o (o.length - d)]) d k m (by omega) hm hd (by rw [List.length_append]; simp; omega) (by rw [List.length_append]; simp; omega) (by omega) k' (by omega)
    have e1 : wrap64 ((o.length : Int) - (d : Int)) = ((o.length - d : Nat) : Int) := w_sub (by omega) hdo
    rw [if_pos (by omega), e1, if_pos (by omega), if_pos (by omega), if_pos (by omega)]
    have e2 : wrap64 ((j : Int) + 1) = ((j + 1 : Nat) : Int) := by rw [wrap_in (by omega) (by omega)]; omega
    have e3 : rd o ((o.length - d : Nat) : Int) = el o (o.length - d) := by unfold rd; rw [Int.toNat_natCast]; rfl
    rw [e2, e3, hih]
    rfl

theorem head_tail (x : ByteArray) (h : 0 < x.size) : ∃ t r, bytesOf x = t :: r ∧ bt x 0 = t ∧ 0 ≤ t ∧ t ≤ 255 ∧ r.length + 1 = x.size ∧ (∀ j, (bytesOf x).drop (j + 1) = r.drop j) := by
  cases hb : bytesOf x with
  | nil => have := bytesOf_length x; rw [hb] at this; simp at this; omega
  | cons t r =>
    have hl := bytesOf_length x
    rw [hb] at hl
    have h1 := bytesOf_bytes x t (by rw [hb]; exact List.mem_cons_self)
    exact ⟨t, r, rfl, by rw [bt_getD, hb]; rfl, h1.1, h1.2, by simpa using hl, fun j => by simp⟩

theorem unpack_l0 (size : Int) (h0 : 0 ≤ size) (hs : size ≤ 1000000) :
    ∀ (n : Nat) (x : ByteArray) (o : List Int) (k : Nat), x.size ≤ n → x.size ≤ 1000000 → (o.length : Int) ≤ size → 140 * n + 140 ≤ k →
    lz_Unpack.l0 k x size o = some (res (D (bytesOf x) o) size) := by
  intro n
  induction n with
  | zero =>
    intro x o k hx _ ho hk
    obtain ⟨k, rfl⟩ : ∃ m, k = m + 1 := ⟨k - 1, by omega⟩
    have hb : bytesOf x = [] := List.eq_nil_of_length_eq_zero (by rw [bytesOf_length]; omega)
    simp only [lz_Unpack.l0]
    rw [if_pos (toList_nil.2 hb), hb, D_nil]
    unfold res
    by_cases e : (o.length : Int) = size
    · rw [if_pos e]; simp only [if_pos e]
    · rw [if_neg e]; simp only [if_neg e]
  | succ n ih =>
    intro x o k hx hx2 ho hk
    obtain ⟨k, rfl⟩ : ∃ m, k = m + 5 := ⟨k - 5, by omega⟩
    by_cases hz : x.size = 0
    · have hb : bytesOf x = [] := List.eq_nil_of_length_eq_zero (by rw [bytesOf_length]; omega)
      simp only [lz_Unpack.l0]
      rw [if_pos (toList_nil.2 hb), hb, D_nil]
      unfold res
      by_cases e : (o.length : Int) = size
      · rw [if_pos e]; simp only [if_pos e]
      · rw [if_neg e]; simp only [if_neg e]
    · obtain ⟨t, r, hb, hbt, ht0, ht1, hr, hdrop⟩ := head_tail x (by omega)
      rw [lz_Unpack.l0]
      rw [if_neg (fun e => by rw [toList_nil, hb] at e; cases e), if_pos (by omega), hbt, wrap_in (a := t) (by omega) (by omega)]
      have hsz : wrap64 (size - (o.length : Int)) = size - o.length := wrap_in (by omega) (by omega)
      by_cases ht : t ≤ 127
      · have e1 : wrap64 (t + 1) = t + 1 := wrap_in (by omega) (by omega)
        rw [if_neg (by omega), e1, lz_Unpack.j2, hsz, hb, D_lit t r o ht]
        by_cases hn : t + 1 > size - o.length
        · rw [if_pos hn, lz_Unpack.j3, if_pos rfl, res_long]
          intro q hq
          by_cases hl : r.length < t.toNat + 1
          · rw [if_pos hl] at hq; cases hq
          · rw [if_neg hl] at hq
            have := D_len _ _ _ hq
            rw [List.length_append, List.length_take] at this
            omega
        · rw [if_neg hn, lz_Unpack.j3]
          by_cases h2 : x.size < 2
          · rw [if_pos (by simp; omega), if_pos (by omega), res_none]
          · rw [if_neg (by simp; omega), if_pos ht]
            by_cases hl : r.length < t.toNat + 1
            · rw [if_pos (by omega), if_pos hl, res_none]
            · have e2 : wrap64 (1 + (t + 1)) = t + 2 := by rw [wrap_in (by omega) (by omega)]; omega
              rw [if_neg (by omega), if_neg hl, e2, if_pos (by omega), if_pos (by omega)]
              have e3 : (t + 2).toNat = t.toNat + 2 := by omega
              rw [e3, if_pos (by rw [ByteArray.size_extract]; omega), if_pos (by omega)]
              have e4 : bytesOf (x.extract 1 (t.toNat + 2)) = r.take (t.toNat + 1) := by
                rw [bytesOf_extract, hb]; simp
              have e5 : bytesOf (x.extract (t.toNat + 2) x.size) = r.drop (t.toNat + 1) := by
                rw [bytesOf_extract, List.take_of_length_le (by rw [bytesOf_length]; exact Nat.le_refl _), hdrop]
              rw [e4, ih _ _ _ (by rw [ByteArray.size_extract]; omega) (by rw [ByteArray.size_extract]; omega) (by rw [List.length_append, List.length_take]; omega) (by omega), e5]
      · have e1 : wrap64 (wrap64 (t - 128) + 3) = t - 125 := tok_len t ht0 ht1
        rw [if_pos (by omega), e1, lz_Unpack.j2, hsz, hb]
        by_cases hn : t - 125 > size - o.length
        · rw [if_pos hn, lz_Unpack.j3, if_pos rfl, res_long]
          intro q hq
          cases r with
          | nil => rw [D_end t o ht] at hq; cases hq
          | cons b r' =>
            rw [D_copy t b r' o ht] at hq
            by_cases hc : b = 0 ∨ (o.length : Int) < b
            · rw [if_pos hc] at hq; cases hq
            · rw [if_neg hc] at hq
              have := D_len _ _ _ hq
              rw [cp_length] at this
              omega
        · rw [if_neg hn, lz_Unpack.j3]
          by_cases h2 : x.size < 2
          · obtain rfl : r = [] := List.eq_nil_of_length_eq_zero (by omega)
            rw [if_pos (by simp; omega), D_end t o ht, res_none]
          · rw [if_neg (by simp; omega), if_neg ht, if_pos (by omega)]
            cases r with
            | nil => simp at hr; omega
            | cons b r' =>
              have hbb := bytesOf_bytes x b (by rw [hb]; simp)
              have e2 : bt x 1 = b := by rw [bt_getD, hb]; rfl
              rw [e2, wrap_in (a := b) (by omega) (by omega), D_copy t b r' o ht]
              by_cases hb0 : b = 0
              · rw [if_pos hb0, lz_Unpack.j4, if_pos rfl, if_pos (.inl hb0), res_none]
              · rw [if_neg hb0, lz_Unpack.j4]
                by_cases hbo : (o.length : Int) < b
                · rw [if_pos (by simp; omega), if_pos (.inr hbo), res_none]
                · rw [if_neg (by simp; omega), if_neg (by omega)]
                  simp only [List.length_cons] at hr
                  obtain ⟨d, rfl⟩ := Int.eq_ofNat_of_zero_le hbb.1
                  have e3 : t - 125 = ((t.toNat - 125 : Nat) : Int) := by omega
                  rw [e3, show (0 : Int) = ((0 : Nat) : Int) from rfl, copy_l1 x size (by omega) (t.toNat - 125) 0 o d (k + 1) (t.toNat - 125) (by omega) (by omega) (by omega) (by omega) (by omega) (by omega) _ rfl]
                  have e4 : bytesOf (x.extract 2 x.size) = r' := by
                    rw [bytesOf_extract, List.take_of_length_le (by rw [bytesOf_length]; exact Nat.le_refl _), hb]; rfl
                  rw [ih _ _ _ (by rw [ByteArray.size_extract]; omega) (by rw [ByteArray.size_extract]; omega) (by rw [cp_length]; omega) (by omega), e4, Int.toNat_natCast]
theorem unpack_f (x : ByteArray) (hx : x.size ≤ 1000000) (size : Int) (k : Nat) (hk : 140 * x.size + 141 ≤ k) :
    lz_Unpack.f k x size = some (if 0 ≤ size ∧ size ≤ 1000000 then res (D (bytesOf x) []) size else ((⟨#[]⟩ : ByteArray), 5)) := by
  obtain ⟨k, rfl⟩ : ∃ m, k = m + 1 := ⟨k - 1, by omega⟩
  unfold lz_Unpack.f
  by_cases h0 : size < 0
  · rw [if_pos h0, lz_Unpack.j0, if_pos rfl, if_neg (by omega)]
  · rw [if_neg h0, lz_Unpack.j0]
    by_cases h1 : size > 1000000
    · rw [if_pos (by simp; omega), if_neg (by omega)]
    · rw [if_neg (by simp; omega), if_pos (by omega)]
      exact unpack_l0 size (by omega) (by omega) x.size x [] k (Nat.le_refl _) hx (by simp; omega) (by omega)
theorem unpack_pack (s : ByteArray) (hs : s.size ≤ 100000) (k : Nat) (hk : 1000 * s.size + 1000 ≤ k) (size : Int) :
    lz_Unpack.f k (strOfNums (PK (bytesOf s))) size = some (if (s.size : Int) = size then (s, 0) else ((⟨#[]⟩ : ByteArray), 5)) := by
  have hl := PK_length (bytesOf s)
  have hB := bytesOf_strOfNums (PK_bytes _ (bytesOf_bytes s))
  have hsz : (strOfNums (PK (bytesOf s))).size = (PK (bytesOf s)).length := by rw [← bytesOf_length, hB]
  rw [bytesOf_length] at hl
  rw [unpack_f _ (by omega) size k (by omega), hB, D_PK_nil, List.nil_append]
  by_cases e : (s.size : Int) = size
  · rw [if_pos (by omega), if_pos e]
    unfold res
    simp only [bytesOf_length]
    rw [if_pos e, strOfNums_bytesOf]
  · rw [if_neg e]
    by_cases h : 0 ≤ size ∧ size ≤ 1000000
    · rw [if_pos h]
      unfold res
      simp only [bytesOf_length]
      rw [if_neg e]
    · rw [if_neg h]
set_option maxRecDepth 100000 in
theorem awake_300 : hogsheadlaw17_awake.f 300 = some true := by decide +kernel
theorem awake_f (k : Nat) (hk : 300 ≤ k) : hogsheadlaw17_awake.f k = some true := at_rounds (g := fun k => hogsheadlaw17_awake.f k) hogsheadlaw17_awake.mono hk awake_300
end Go.Proofs.Ytopicibcengkfaa.PLzMatchesTh
