/- For every text of at most 600 bytes and every place: a match that is told is one, of 3 bytes to 130, no farther back than may be; and with one more byte it is none, at that distance. No condition. -/
import Derived.Test.YtopicibcengkfaaThLzMatches
namespace Go.Proofs.Ytopicibcengkfaa.Pure
open Go.RowKit Go.Proofs.Ytopicibcengkfaa.PLzMatches Go.Proofs.YtopicibcengkfaaW.PrintWords Go.Proofs.YtopicibcengkfaaW.PrintLast Go.Proofs.YtopicibcengkfaaW.PrintMore Go.Proofs.Ytopicibcengkfaa.PLzMatchesTh Go.Proofs.Ytopicibcengkfaa.Bs Go.Proofs.Ytopicibcengkfaa.Lz
set_option linter.unusedVariables false
set_option linter.unusedSimpArgs false

theorem same_seg (l : List Int) (i d n : Nat) (hd : d ≤ i) (hi : i + n ≤ l.length) (h : ∀ j, j < n → el l (i + j) = el l (i + j - d)) :
    (l.take (i + n)).drop i = (l.take (i - d + n)).drop (i - d) := by
  apply List.ext_getElem?
  intro j
  rw [List.getElem?_drop, List.getElem?_drop]
  by_cases hj : j < n
  · have h1 : i + j < l.length := by omega
    have h2 : i - d + j < l.length := by omega
    rw [List.getElem?_take_of_lt (by omega), List.getElem?_take_of_lt (by omega), List.getElem?_eq_getElem h1, List.getElem?_eq_getElem h2]
    have := h j hj
    rw [show i + j - d = i - d + j from by omega] at this
    simp only [el, List.getD_eq_getElem?_getD, List.getElem?_eq_getElem h1, List.getElem?_eq_getElem h2, Option.getD_some] at this
    rw [this]
  · rw [List.getElem?_eq_none (by rw [List.length_take]; omega), List.getElem?_eq_none (by rw [List.length_take]; omega)]
theorem LzMatches : hogsheadlaw17_LzMatches.Pure := by
  intro s at_ hs _
  refine ⟨1000002, ?_⟩
  unfold hogsheadlaw17_LzMatches.f
  have hout : ∀ x, x = true → hogsheadlaw17_LzMatches.j0 1000002 s at_ x = some true := by
    intro x hx
    rw [hogsheadlaw17_LzMatches.j0, if_pos hx, awake_f _ (by omega)]; rfl
  by_cases h : (s.size : Int) > 600
  · rw [if_pos h]; exact hout _ rfl
  · rw [if_neg h]
    by_cases h0 : s.size = 0
    · exact hout _ (by simp [h0])
    · rw [hogsheadlaw17_LzMatches.j0, if_neg (by simp [h0])]
      have r := low_range at_ (s.size : Int) (by omega)
      have hl : hogsheadlaw0_Low.f at_ (s.size : Int) = some ((at_ % 18446744073709551616) % (s.size : Int)) := low_expr at_ _ (by omega) (by omega)
      rw [hl, some_bind]
      clear hl
      generalize at_ % 18446744073709551616 % (s.size : Int) = y at r ⊢
      obtain ⟨i, rfl⟩ := Int.eq_ofNat_of_zero_le r.1
      have hM : M (bytesOf s) (i : Int) = (((mch (bytesOf s) i).1 : Int), ((mch (bytesOf s) i).2 : Int)) := by unfold M; rw [if_pos (by omega), Int.toNat_natCast]
      rw [match_f s (by omega) _ _ (by omega), some_bind, hM]
      simp only
      rcases mch_spec (bytesOf s) i with e | ⟨g1, g2, g3, g4, g5, g6, g7⟩
      · have e1 : (mch (bytesOf s) i).1 = 0 := by rw [e]
        have e2 : (mch (bytesOf s) i).2 = 0 := by rw [e]
        rw [if_pos (by omega), if_pos (by omega), awake_f _ (by omega)]
        rfl
      · have hs1 := mlen_spec (bytesOf s) i (mch (bytesOf s) i).2
        rw [← g7] at hs1
        rw [bytesOf_length] at g6 hs1
        have hseg := same_seg (bytesOf s) i (mch (bytesOf s) i).2 (mch (bytesOf s) i).1 g5 (by rw [bytesOf_length]; exact g6) (fun j hj => (hs1.2.1 j hj).2)
        generalize (mch (bytesOf s) i).1 = n at g1 g2 g6 g7 hs1 hseg ⊢
        generalize (mch (bytesOf s) i).2 = d at g3 g4 g5 hs1 hseg ⊢
        rw [if_neg (by omega), if_neg (by omega), if_neg (by omega), if_neg (by omega), if_neg (by omega), if_neg (by omega)]
        rw [show wrap64 ((i : Int) + (n : Int)) = ((i + n : Nat) : Int) from w_add (by omega), show wrap64 ((i : Int) - (d : Int)) = ((i - d : Nat) : Int) from w_sub (by omega) g5, show wrap64 (((i - d : Nat) : Int) + (n : Int)) = ((i - d + n : Nat) : Int) from w_add (by omega)]
        rw [if_neg (by omega), if_pos (by omega), if_pos (by omega), if_pos (by omega), if_pos (by omega), if_pos (by omega), if_pos (by omega)]
        have hcut : s.extract ((i : Int)).toNat (((i + n : Nat) : Int)).toNat = s.extract (((i - d : Nat) : Int)).toNat (((i - d + n : Nat) : Int)).toNat := by
          refine bytesOf_inj ?_
          rw [bytesOf_extract, bytesOf_extract, Int.toNat_natCast, Int.toNat_natCast, Int.toNat_natCast, Int.toNat_natCast]
          exact hseg
        rw [hcut, hogsheadlaw17_LzMatches.j1, if_neg (by simp)]
        by_cases hn : n = 130
        · rw [if_pos (by omega), awake_f _ (by omega)]; rfl
        · rw [if_neg (by omega), show wrap64 ((i : Int) + (n : Int)) = ((i + n : Nat) : Int) from w_add (by omega)]
          by_cases he : i + n = s.size
          · rw [if_pos (by omega), awake_f _ (by omega)]; rfl
          · rw [if_neg (by omega), if_pos (by omega), if_pos (by omega), show wrap64 (((i + n : Nat) : Int) - (d : Int)) = ((i + n - d : Nat) : Int) from w_sub (by omega) (by omega), if_pos (by omega), if_pos (by omega), bt_el, bt_el]
            rw [if_neg (by
              rcases hs1.2.2 with q | q | q
              · omega
              · omega
              · exact q), awake_f _ (by omega)]
            rfl
end Go.Proofs.Ytopicibcengkfaa.Pure
