/- For every text of at most 600 bytes and every size: it is unpacked as the document says, or refused. No condition. -/
import Derived.Test.YtopicibcengkfaaThLzUnpacks
namespace Go.Proofs.Ytopicibcengkfaa.Pure
open Go.RowKit Go.Proofs.Ytopicibcengkfaa.PLzUnpacks Go.Proofs.YtopicibcengkfaaW.PrintWords Go.Proofs.YtopicibcengkfaaW.PrintLast Go.Proofs.YtopicibcengkfaaW.PrintMore Go.Proofs.Ytopicibcengkfaa.PLzUnpacksTh Go.Proofs.Ytopicibcengkfaa.Bs Go.Proofs.Ytopicibcengkfaa.Lz
set_option linter.unusedVariables false
set_option linter.unusedSimpArgs false

theorem ref_copy (x : ByteArray) (size : Int) (i : Nat) (hi : i ≤ 1000000) :
    ∀ (n j : Nat) (o : List Int) (d k m : Nat), j + n = m → m ≤ 130 → 1 ≤ d → d ≤ o.length → o.length + n ≤ 1000000 → n < k →
    (∀ k', k - n - 1 = k' → hogsheadref17_Unpack.l1 k x size o (i : Int) (m : Int) (d : Int) (j : Int) = hogsheadref17_Unpack.l0 k' x size (cp d n o) ((i + 2 : Nat) : Int)) := by
  intro n
  induction n with
  | zero =>
    intro j o d k m hj hm hd hdo ho hk k' hk'
    obtain ⟨k, rfl⟩ : ∃ m, k = m + 1 := ⟨k - 1, by omega⟩
    obtain rfl : k = k' := by omega
    rw [hogsheadref17_Unpack.l1, if_neg (by omega), show wrap64 ((i : Int) + 2) = ((i + 2 : Nat) : Int) from by rw [wrap_in (by omega) (by omega)]; omega]
    rfl
  | succ n ih =>
    intro j o d k m hj hm hd hdo ho hk k' hk'
    obtain ⟨k, rfl⟩ : ∃ m, k = m + 1 := ⟨k - 1, by omega⟩
    have hih := ih (j + 1) (o ++ [el o (o.length - d)]) d k m (by omega) hm hd (by rw [List.length_append]; simp; omega) (by rw [List.length_append]; simp; omega) (by omega) k' (by omega)
    have e3 : rd o ((o.length - d : Nat) : Int) = el o (o.length - d) := by unfold rd; rw [Int.toNat_natCast]; rfl
    rw [hogsheadref17_Unpack.l1, if_pos (by omega), show wrap64 ((o.length : Int) - (d : Int)) = ((o.length - d : Nat) : Int) from w_sub (by omega) hdo, if_pos (by omega), if_pos (by omega), if_pos (by omega)]
    rw [show wrap64 ((j : Int) + 1) = ((j + 1 : Nat) : Int) from by rw [wrap_in (by omega) (by omega)]; omega, e3]
    exact hih
theorem at_drop (x : ByteArray) (i : Nat) (h : i < x.size) : ∃ t r, (bytesOf x).drop i = t :: r ∧ bt x (i : Int) = t ∧ 0 ≤ t ∧ t ≤ 255 ∧ r = (bytesOf x).drop (i + 1) ∧ r.length + 1 = x.size - i := by
  have hl : i < (bytesOf x).length := by rw [bytesOf_length]; exact h
  refine ⟨(bytesOf x)[i], (bytesOf x).drop (i + 1), List.drop_eq_getElem_cons hl, ?_, ?_, ?_, rfl, ?_⟩
  · rw [bt_getD, Int.toNat_natCast]; simp [List.getD_eq_getElem?_getD, hl]
  · exact (bytesOf_bytes x _ (List.getElem_mem hl)).1
  · exact (bytesOf_bytes x _ (List.getElem_mem hl)).2
  · rw [List.length_drop, bytesOf_length]; omega
theorem ref_l0 (x : ByteArray) (hx : x.size ≤ 1000000) (size : Int) (h0 : 0 ≤ size) (hs : size ≤ 1000000) :
    ∀ (n i : Nat) (o : List Int) (k : Nat), x.size - i ≤ n → i ≤ x.size → (o.length : Int) ≤ size → 140 * n + 140 ≤ k →
    hogsheadref17_Unpack.l0 k x size o (i : Int) = some (res (D ((bytesOf x).drop i) o) size) := by
  have hend : ∀ (i k : Nat) (o : List Int), i = x.size → hogsheadref17_Unpack.l0 (k + 1) x size o (i : Int) = some (res (D ((bytesOf x).drop i) o) size) := by
    intro i k o e
    rw [hogsheadref17_Unpack.l0, if_neg (by omega), List.drop_eq_nil_of_le (by rw [bytesOf_length]; omega), D_nil]
    unfold res
    by_cases e : (o.length : Int) = size
    · rw [if_pos e]; simp only [if_pos e]
    · rw [if_neg e]; simp only [if_neg e]
  intro n
  induction n with
  | zero =>
    intro i o k hn hi ho hk
    obtain ⟨k, rfl⟩ : ∃ m, k = m + 1 := ⟨k - 1, by omega⟩
    exact hend i k o (by omega)
  | succ n ih =>
    intro i o k hn hi ho hk
    obtain ⟨k, rfl⟩ : ∃ m, k = m + 3 := ⟨k - 3, by omega⟩
    by_cases hz : i = x.size
    · exact hend i _ o hz
    · obtain ⟨t, r, hb, hbt, ht0, ht1, hr, hrl⟩ := at_drop x i (by omega)
      rw [hogsheadref17_Unpack.l0, if_pos (by omega), if_pos (by omega), hbt, show wrap64 t = t from wrap_in (by omega) (by omega), hb]
      by_cases ht : t ≤ 127
      · rw [if_pos (by omega), D_lit t r o ht]
        rw [show wrap64 ((x.size : Int) - (i : Int)) = ((x.size - i : Nat) : Int) from w_sub (by omega) hi, show wrap64 (((x.size - i : Nat) : Int) - 1) = ((x.size - i : Nat) : Int) - 1 from wrap_in (by omega) (by omega), show wrap64 (t + 1) = t + 1 from wrap_in (by omega) (by omega)]
        by_cases hl : r.length < t.toNat + 1
        · rw [if_pos (by omega), if_pos hl, res_none]
        · rw [if_neg (by omega), if_neg hl, show wrap64 ((o.length : Int) + t) = (o.length : Int) + t from wrap_in (by omega) (by omega), show wrap64 ((o.length : Int) + t + 1) = (o.length : Int) + t + 1 from wrap_in (by omega) (by omega)]
          by_cases hg : (o.length : Int) + t + 1 > size
          · rw [if_pos hg, res_long]
            intro q hq
            have := D_len _ _ _ hq
            rw [List.length_append, List.length_take] at this
            omega
          · rw [if_neg hg, show wrap64 ((i : Int) + 1) = ((i + 1 : Nat) : Int) from by rw [wrap_in (by omega) (by omega)]; omega, show wrap64 ((i : Int) + t) = (i : Int) + t from wrap_in (by omega) (by omega), show wrap64 ((i : Int) + t + 2) = ((i + t.toNat + 2 : Nat) : Int) from by rw [wrap_in (by omega) (by omega)]; omega]
            rw [if_pos (by omega), if_pos (by omega), if_pos (by omega), Int.toNat_natCast, Int.toNat_natCast, if_pos (by rw [ByteArray.size_extract]; omega)]
            have e4 : bytesOf (x.extract (i + 1) (i + t.toNat + 2)) = r.take (t.toNat + 1) := by
              rw [bytesOf_extract, hr, List.drop_take]; congr 1; omega
            have e5 : (bytesOf x).drop (i + t.toNat + 2) = r.drop (t.toNat + 1) := by rw [hr, List.drop_drop]; congr 1; omega
            rw [e4, ih (i + t.toNat + 2) _ _ (by omega) (by omega) (by rw [List.length_append, List.length_take]; omega) (by omega), e5]
      · rw [if_neg (by omega), show wrap64 ((i : Int) + 1) = ((i + 1 : Nat) : Int) from by rw [wrap_in (by omega) (by omega)]; omega]
        by_cases h2 : i + 1 ≥ x.size
        · obtain rfl : r = [] := List.eq_nil_of_length_eq_zero (by omega)
          rw [if_pos (by omega), D_end t o ht, res_none]
        · rw [if_neg (by omega), if_pos (by omega), if_pos (by omega)]
          obtain ⟨b, r', hb', hbt', hb0, hb1, hr', hrl'⟩ := at_drop x (i + 1) (by omega)
          rw [hbt', show wrap64 b = b from wrap_in (by omega) (by omega), tok_len t ht0 ht1, hr, hb', D_copy t b r' o ht]
          by_cases hbz : b = 0
          · rw [if_pos hbz, hogsheadref17_Unpack.j2, if_pos rfl, if_pos (.inl hbz), res_none]
          · rw [if_neg hbz]
            by_cases hbo : (o.length : Int) < b
            · rw [if_pos (by omega), hogsheadref17_Unpack.j2, if_pos rfl, if_pos (.inr hbo), res_none]
            · rw [if_neg (by omega), if_neg (by omega), show wrap64 ((o.length : Int) + (t - 125)) = (o.length : Int) + (t - 125) from wrap_in (by omega) (by omega)]
              by_cases hg : (o.length : Int) + (t - 125) > size
              · rw [hogsheadref17_Unpack.j2, if_pos (by simpa using hg), res_long]
                intro q hq
                have := D_len _ _ _ hq
                rw [cp_length] at this
                omega
              · rw [hogsheadref17_Unpack.j2, if_neg (by simpa using hg)]
                obtain ⟨d, rfl⟩ := Int.eq_ofNat_of_zero_le hb0
                have e3 : t - 125 = ((t.toNat - 125 : Nat) : Int) := by omega
                rw [e3, show (0 : Int) = ((0 : Nat) : Int) from rfl, ref_copy x size i (by omega) (t.toNat - 125) 0 o d (k + 1) (t.toNat - 125) (by omega) (by omega) (by omega) (by omega) (by omega) (by omega) _ rfl]
                rw [ih (i + 2) _ _ (by omega) (by omega) (by rw [cp_length]; omega) (by omega), hr', Int.toNat_natCast]
theorem ref_unpack (x : ByteArray) (hx : x.size ≤ 1000000) (size : Int) (k : Nat) (hk : 140 * x.size + 141 ≤ k) :
    hogsheadref17_Unpack.f k x size = some (if 0 ≤ size ∧ size ≤ 1000000 then res (D (bytesOf x) []) size else ((⟨#[]⟩ : ByteArray), 5)) := by
  obtain ⟨k, rfl⟩ : ∃ m, k = m + 1 := ⟨k - 1, by omega⟩
  unfold hogsheadref17_Unpack.f
  by_cases h0 : size < 0
  · rw [if_pos h0, hogsheadref17_Unpack.j0, if_pos rfl, if_neg (by omega)]
  · rw [if_neg h0, hogsheadref17_Unpack.j0]
    by_cases h1 : size > 1000000
    · rw [if_pos (by simp; omega), if_neg (by omega)]
    · rw [if_neg (by simp; omega), if_pos (by omega)]
      exact ref_l0 x hx size (by omega) (by omega) x.size 0 [] k (by omega) (by omega) (by simp; omega) (by omega)
theorem LzUnpacks : hogsheadlaw17_LzUnpacks.Pure := by
  intro s size hs _
  refine ⟨1000000, ?_⟩
  unfold hogsheadlaw17_LzUnpacks.f
  by_cases h : (s.size : Int) > 600
  · rw [if_pos h, awake_f _ (by omega)]; rfl
  · rw [if_neg h, unpack_f s (by omega) size _ (by omega), some_bind, ref_unpack s (by omega) size _ (by omega), some_bind, if_pos rfl]
    unfold hogsheadlaw0_Num.f
    rw [some_bind, if_pos rfl, awake_f _ (by omega)]
    rfl
end Go.Proofs.Ytopicibcengkfaa.Pure
