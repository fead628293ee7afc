/- The plain law behind PathTells. -/
import Derived.Test.YtmhdekdpfacjoaaDoorPaThB
namespace Go.Proofs.YtmhdekdpfacjoaaDoor.Pure
open Go.RowKit Go.Proofs.YtmhdekdpfacjoaaDoorX Go.Proofs.YtmhdekdpfacjoaaDoorW.PrintWords Go.Proofs.YtmhdekdpfacjoaaDoorW.PrintLast Go.Proofs.YtmhdekdpfacjoaaDoor.P Go.Proofs.YtmhdekdpfacjoaaDoor.Pa Go.Proofs.YtmhdekdpfacjoaaDoor.PaTh
set_option linter.unusedVariables false
set_option linter.unusedSimpArgs false
theorem split_len (l : List UInt8) : (split l).length ≤ 10 := by
  unfold split
  by_cases h : l = []
  · rw [if_pos h]; simp
  rw [if_neg h]
  cases hm : may l
  · simp
  · exact (may_parts hm h).2.2
theorem tells_j0 (a b : ByteArray) (x : Bool) (hx : x = true ∨ (a.size ≤ 1000 ∧ b.size ≤ 1000)) (k : Nat) (hk : 3000 ≤ k) : hogsheadlaw1_PathTells.j0 k a b x = some true := by
  obtain ⟨k, rfl⟩ : ∃ m, k = m + 1 := ⟨k - 1, by omega⟩
  rw [hogsheadlaw1_PathTells.j0, awake_f k (by omega), some_bind]
  cases x
  case true => rfl
  obtain ⟨ha, hb⟩ : a.size ≤ 1000 ∧ b.size ≤ 1000 := hx.elim (fun e => by cases e) id
  have hs := split_len (L a)
  rw [if_neg (by decide), split_f a k (by omega), some_bind, parent_f a k (by omega), some_bind, refParent_f a k (by omega), some_bind, refSplit_f a k (by omega), some_bind,
    same_f _ _ (by rw [List.length_map]; omega) k (by omega), some_bind, over_f _ (by rw [List.length_map]; omega) k (by omega), some_bind, if_pos (decide_eq_true rfl),
    part_f, some_bind, refPart_f a ha k (by omega), some_bind, if_pos (beq_self_eq_true _), may_f a k (by omega), some_bind, refMay_f a k (by omega), some_bind, if_pos (beq_self_eq_true _), if_pos rfl, if_pos (beq_self_eq_true _),
    base_f a k (by omega), some_bind, refBase_f a k (by omega), some_bind, if_pos rfl, under_f a b k (by omega), some_bind, refUnder_f a b k (by omega), some_bind, if_pos (beq_self_eq_true _), under_f b a k (by omega), some_bind, refUnder_f b a k (by omega), some_bind, if_pos (beq_self_eq_true _)]
theorem PathTells : hogsheadlaw1_PathTells.Pure := by
  intro a b _ _
  refine ⟨3000, ?_⟩
  unfold hogsheadlaw1_PathTells.f
  by_cases h : (a.size : Int) > 300
  · rw [if_pos h]; exact tells_j0 a b true (.inl rfl) 3000 (by omega)
  · rw [if_neg h]
    by_cases h2 : (b.size : Int) > 300
    · rw [decide_eq_true h2]; exact tells_j0 a b true (.inl rfl) 3000 (by omega)
    · exact tells_j0 a b _ (.inr ⟨by omega, by omega⟩) 3000 (by omega)
end Go.Proofs.YtmhdekdpfacjoaaDoor.Pure
