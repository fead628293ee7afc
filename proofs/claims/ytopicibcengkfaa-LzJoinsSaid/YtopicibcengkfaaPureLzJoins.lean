/- For all texts of at most 400 bytes each: packed texts, one behind the other, are unpacked as the texts, one behind the other; of a beginning of tokens what they make is a beginning. No condition. -/
import Derived.Test.YtopicibcengkfaaThLzJoins
namespace Go.Proofs.Ytopicibcengkfaa.Pure
open Go.RowKit Go.Proofs.Ytopicibcengkfaa.PLzJoins Go.Proofs.YtopicibcengkfaaW.PrintWords Go.Proofs.YtopicibcengkfaaW.PrintLast Go.Proofs.Ytopicibcengkfaa.PLzJoinsTh Go.Proofs.Ytopicibcengkfaa.Bs Go.Proofs.Ytopicibcengkfaa.Lz
set_option linter.unusedVariables false
set_option linter.unusedSimpArgs false

theorem join_unpack (a b : ByteArray) (l : List Int) (ha : bytesOf a = PK l ++ bytesOf b) (q : List Int) (hq : D (bytesOf b) l = some q) (hB : Bytes q) (hx : a.size ≤ 10000) (hs : q.length ≤ 100000) :
    lz_Unpack.f 2000000 a ((q.length : Nat) : Int) = some (strOfNums q, 0) := by
  rw [unpack_f a (by omega) _ _ (by omega), if_pos (by omega), ha, D_PK, List.nil_append, hq]
  unfold res
  simp only
  rw [if_pos trivial]
theorem LzJoins : hogsheadlaw17_LzJoins.Pure := by
  intro a b c ha hb hc
  refine ⟨2000001, ?_⟩
  unfold hogsheadlaw17_LzJoins.f
  have hout : ∀ x, x = true → hogsheadlaw17_LzJoins.j0 2000001 a b c x = some true := by
    intro x hx
    rw [hogsheadlaw17_LzJoins.j0, if_pos hx, awake_f _ (by omega)]; rfl
  by_cases h1 : (a.size : Int) > 400
  · rw [if_pos h1]; exact hout _ rfl
  · rw [if_neg h1]
    by_cases h2 : (b.size : Int) > 400
    · rw [if_pos h2]; exact hout _ rfl
    · rw [if_neg h2]
      by_cases h3 : (c.size : Int) > 400
      · exact hout _ (by simpa using h3)
      · rw [hogsheadlaw17_LzJoins.j0, if_neg (by simpa using h3)]
        have la := PK_length (bytesOf a)
        have lb := PK_length (bytesOf b)
        have lc := PK_length (bytesOf c)
        rw [bytesOf_length] at la lb lc
        have Ba := bytesOf_strOfNums (PK_bytes _ (bytesOf_bytes a))
        have Bb := bytesOf_strOfNums (PK_bytes _ (bytesOf_bytes b))
        have Bc := bytesOf_strOfNums (PK_bytes _ (bytesOf_bytes c))
        have sa : (strOfNums (PK (bytesOf a))).size = (PK (bytesOf a)).length := by rw [← bytesOf_length, Ba]
        have sb : (strOfNums (PK (bytesOf b))).size = (PK (bytesOf b)).length := by rw [← bytesOf_length, Bb]
        have sc : (strOfNums (PK (bytesOf c))).size = (PK (bytesOf c)).length := by rw [← bytesOf_length, Bc]
        rw [pack_f a (by omega) _ (by omega), some_bind, pack_f b (by omega) _ (by omega), some_bind, pack_f c (by omega) _ (by omega), some_bind]
        generalize ea : strOfNums (PK (bytesOf a)) = p at Ba sa ⊢
        generalize eb : strOfNums (PK (bytesOf b)) = q at Bb sb ⊢
        generalize ec : strOfNums (PK (bytesOf c)) = r at Bc sc ⊢
        have la' := bytesOf_length a
        have lb' := bytesOf_length b
        have lc' := bytesOf_length c
        rw [if_pos (by omega), if_pos (by rw [ByteArray.size_append]; omega)]
        rw [show wrap64 ((a.size : Int) + (b.size : Int)) = (a.size : Int) + (b.size : Int) from wrap_in (by omega) (by omega)]
        rw [show wrap64 ((a.size : Int) + (b.size : Int) + (c.size : Int)) = (((bytesOf a ++ bytesOf b ++ bytesOf c).length : Nat) : Int) from by
          rw [List.length_append, List.length_append, la', lb', lc', wrap_in (by omega) (by omega)]; omega]
        rw [show (a.size : Int) + (b.size : Int) = (((bytesOf a ++ bytesOf b).length : Nat) : Int) from by rw [List.length_append, la', lb']; omega]
        rw [show wrap64 (2 * (b.size : Int)) = (((bytesOf b ++ bytesOf b).length : Nat) : Int) from by rw [List.length_append, lb', wrap_in (by omega) (by omega)]; omega]
        have u1 := join_unpack (p ++ q ++ r) (q ++ r) (bytesOf a) (by rw [bytesOf_append, bytesOf_append, bytesOf_append, Ba, List.append_assoc]) (bytesOf a ++ bytesOf b ++ bytesOf c)
          (by rw [bytesOf_append, Bb, D_PK, Bc, D_PK_nil]) (((bytesOf_bytes a).append (bytesOf_bytes b)).append (bytesOf_bytes c)) (by rw [ByteArray.size_append, ByteArray.size_append]; omega) (by rw [List.length_append, List.length_append]; omega)
        have u2 := join_unpack (p ++ q) q (bytesOf a) (by rw [bytesOf_append, Ba]) (bytesOf a ++ bytesOf b)
          (by rw [Bb, D_PK_nil]) ((bytesOf_bytes a).append (bytesOf_bytes b)) (by rw [ByteArray.size_append]; omega) (by rw [List.length_append]; omega)
        have u3 := join_unpack (q ++ q) q (bytesOf b) (by rw [bytesOf_append, Bb]) (bytesOf b ++ bytesOf b)
          (by rw [Bb, D_PK_nil]) ((bytesOf_bytes b).append (bytesOf_bytes b)) (by rw [ByteArray.size_append]; omega) (by rw [List.length_append]; omega)
        rw [u1, some_bind, u2, some_bind, if_pos (by omega), u3, some_bind]
        simp only
        rw [if_pos trivial, if_pos trivial, if_pos trivial, if_pos (by omega), if_pos (by rw [ByteArray.size_append]; omega)]
        have e1 : strOfNums (bytesOf a ++ bytesOf b ++ bytesOf c) = a ++ b ++ c := by rw [← bytesOf_append, ← bytesOf_append, strOfNums_bytesOf]
        have e2 : strOfNums (bytesOf a ++ bytesOf b) = a ++ b := by rw [← bytesOf_append, strOfNums_bytesOf]
        have e3 : strOfNums (bytesOf b ++ bytesOf b) = b ++ b := by rw [← bytesOf_append, strOfNums_bytesOf]
        rw [e1, e2, e3, if_pos rfl, if_pos rfl, if_pos (by omega), if_pos rfl, awake_f _ (by omega)]
        rfl
end Go.Proofs.Ytopicibcengkfaa.Pure
