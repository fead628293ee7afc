/- The plain law behind ItemHashes. -/
import Derived.Test.YtomkcocbeljolaaDoorItTh
namespace Go.Proofs.YtomkcocbeljolaaDoor.Pure
open Go.RowKit Go.Proofs.YtomkcocbeljolaaDoorX Go.Proofs.YtomkcocbeljolaaDoorW.PrintWords Go.Proofs.YtomkcocbeljolaaDoorW.PrintLast Go.Proofs.YtomkcocbeljolaaDoorW.PrintMore Go.Proofs.YtomkcocbeljolaaDoor.P Go.Proofs.YtomkcocbeljolaaDoor.Bs Go.Proofs.YtomkcocbeljolaaDoor.ItTh
set_option linter.unusedVariables false
set_option linter.unusedSimpArgs false
theorem j0_true (a b : ByteArray) : hogsheadlaw7_ItemHashes.j0 1000 a b true = some true := by
  rw [hogsheadlaw7_ItemHashes.j0, if_pos rfl, name_f _ (by omega), some_bind]
  by_cases h : nm (L a) = true
  · rw [if_pos h, awake_f _ (by omega), some_bind]
  · rw [if_neg h, hash_f _ (by omega), some_bind, if_neg h, if_pos (by rw [toL]; rfl), awake_f _ (by omega), some_bind]
theorem ItemHashes : hogsheadlaw7_ItemHashes.Pure := by
  intro a b ha hb
  refine ⟨1000, ?_⟩
  unfold hogsheadlaw7_ItemHashes.f
  by_cases h1 : (a.size : Int) > 100
  · rw [if_pos h1]; exact j0_true a b
  by_cases h2 : (b.size : Int) > 100
  · rw [if_neg h1, if_pos h2]; exact j0_true a b
  rw [if_neg h1, if_neg h2, name_f _ (by omega), some_bind]
  by_cases na : nm (L a) = true
  case neg => rw [if_neg na]; exact j0_true a b
  rw [if_pos na, name_f _ (by omega), some_bind]
  by_cases nb : nm (L b) = true
  case neg => rw [if_neg nb]; exact j0_true a b
  obtain ⟨la, la', sa, ta⟩ := nm_len na
  obtain ⟨lb, lb', sb, tb⟩ := nm_len nb
  have za := size_L a
  have zb := size_L b
  rw [if_pos nb, if_neg (by omega), decide_eq_false (by omega), hogsheadlaw7_ItemHashes.j0, if_neg (by simp), if_pos (by omega), if_pos (by omega), if_pos (by omega), if_pos (by rw [ByteArray.size_extract, ByteArray.size_extract]; omega)]
  have ec : L (a.extract 0 8 ++ b.extract 8 b.size) = (L a).take 8 ++ (L b).drop 8 := by
    rw [L_append, L_extract, L_extract, List.take_of_length_le (l := L b) (by omega)]; rfl
  have l8 : ((L a).take 8).length = 8 := by rw [List.length_take]; omega
  have t8 : (L (a.extract 0 8 ++ b.extract 8 b.size)).take 8 = (L a).take 8 := by rw [ec, List.take_append_of_le_length (by omega), List.take_of_length_le (by omega)]
  have d8 : (L (a.extract 0 8 ++ b.extract 8 b.size)).drop 8 = (L b).drop 8 := by rw [ec, List.drop_append_of_le_length (by omega), List.drop_of_length_le (by omega)]; rfl
  have nc : nm (L (a.extract 0 8 ++ b.extract 8 b.size)) = true := by
    unfold nm
    rw [t8, d8, sa, tb, ec, List.length_append, l8, List.length_drop, decide_eq_true (by omega), decide_eq_true (by omega)]; rfl
  have xc : (a.extract 0 8 ++ b.extract 8 b.size).extract 0 8 = a.extract 0 8 := L_inj (by rw [L_extract, List.drop_zero, t8, L_extract]; rfl)
  rw [name_f _ (by omega), some_bind, if_pos nc, hash_f _ (by omega), some_bind, if_pos nc, hash_f _ (by omega), some_bind, if_pos na, xc, if_pos rfl, some_bind, if_pos rfl, some_bind, hash_f _ (by omega), some_bind, if_pos nb, if_pos (by simp), awake_f _ (by omega), some_bind]
end Go.Proofs.YtomkcocbeljolaaDoor.Pure
