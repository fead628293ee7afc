/- The plain law behind PathOrder. -/
import Derived.Test.YtmhdekdpfacjoaaDoorPaThA
namespace Go.Proofs.YtmhdekdpfacjoaaDoor.Pure
open Go.RowKit Go.Proofs.YtmhdekdpfacjoaaDoorX Go.Proofs.YtmhdekdpfacjoaaDoorW.PrintWords Go.Proofs.YtmhdekdpfacjoaaDoorW.PrintLast Go.Proofs.YtmhdekdpfacjoaaDoor.P Go.Proofs.YtmhdekdpfacjoaaDoor.Pa Go.Proofs.YtmhdekdpfacjoaaDoor.PaTh
set_option linter.unusedVariables false
set_option linter.unusedSimpArgs false
theorem under_U {a b : List UInt8} (h : under a b = true) : may a = true ∧ may b = true ∧ U a b := by
  unfold under at h
  simp only [Bool.and_eq_true, decide_eq_true_eq] at h
  exact ⟨h.1.1, h.1.2, h.2⟩
theorem under_mk {a b : List UInt8} (h : may a = true) (k : may b = true) (u : U a b) : under a b = true := by
  unfold under
  simp only [Bool.and_eq_true, decide_eq_true_eq]
  exact ⟨⟨h, k⟩, u⟩
theorem order_j2 (a b c : ByteArray) (k : Nat) (hk : 2000 ≤ k) : hogsheadlaw1_PathOrder.j2 k a b c false = some true := by
  obtain ⟨k, rfl⟩ : ∃ m, k = m + 1 := ⟨k - 1, by omega⟩
  rw [hogsheadlaw1_PathOrder.j2, if_neg (by decide), under_f a b k (by omega), some_bind, under_f b c k (by omega), under_f a c k (by omega), awake_f k (by omega)]
  cases h1 : under (L a) (L b)
  · rfl
  rw [if_pos rfl, some_bind]
  cases h2 : under (L b) (L c)
  · rfl
  rw [if_pos rfl, some_bind, under_mk (under_U h1).1 (under_U h2).2.1 (U_trans (under_U h1).2.2 (under_U h2).2.2)]
  rfl
theorem order_j1 (a b c : ByteArray) (k : Nat) (hk : 2001 ≤ k) : hogsheadlaw1_PathOrder.j1 k a b c false = some true := by
  obtain ⟨k, rfl⟩ : ∃ m, k = m + 1 := ⟨k - 1, by omega⟩
  rw [hogsheadlaw1_PathOrder.j1, if_neg (by decide), under_f a b k (by omega), some_bind, under_f a c k (by omega), under_f b c k (by omega), under_f c b k (by omega)]
  have hj := order_j2 a b c k (by omega)
  cases h1 : under (L a) (L b)
  · exact hj
  rw [if_pos rfl, some_bind]
  cases h2 : under (L a) (L c)
  · exact hj
  rw [if_pos rfl, some_bind]
  cases h3 : under (L b) (L c)
  · rw [if_neg (by decide), some_bind]
    have h4 : under (L c) (L b) = true := by
      refine under_mk (under_U h2).2.1 (under_U h1).2.1 ?_
      rcases U_or (under_U h1).2.2 (under_U h2).2.2 with h | h
      · rw [under_mk (under_U h1).2.1 (under_U h2).2.1 h] at h3; cases h3
      · exact h
    rw [h4]; exact hj
  · exact hj
theorem order_j0 (a b c : ByteArray) (x : Bool) (k : Nat) (hk : 2002 ≤ k) : hogsheadlaw1_PathOrder.j0 k a b c x = some true := by
  obtain ⟨k, rfl⟩ : ∃ m, k = m + 1 := ⟨k - 1, by omega⟩
  have hj := order_j1 a b c k (by omega)
  rw [hogsheadlaw1_PathOrder.j0, under_f a b k (by omega), some_bind, some_bind, under_f b a k (by omega), some_bind, awake_f k (by omega), toL, toL]
  cases x
  case true => rfl
  rw [if_neg (by decide)]
  have he : under (L a) (L b) = true → under (L b) (L a) = true → (L a != L b) = false := fun h1 h2 => by
    rw [U_anti (under_U h1).2.2 (under_U h2).2.2]; simp
  cases h1 : under (L a) (L b)
  · exact hj
  rw [if_pos rfl, if_pos rfl, less_prefix _ _ (U_pre (under_U h1).2.2), if_neg (by decide)]
  cases h2 : under (L b) (L a)
  · exact hj
  rw [if_pos rfl, he h1 h2]
  exact hj
theorem PathOrder : hogsheadlaw1_PathOrder.Pure := by
  intro a b c _ _ _
  refine ⟨2002, ?_⟩
  unfold hogsheadlaw1_PathOrder.f
  rw [order_j0 a b c _ 2002 (by omega), order_j0 a b c _ 2002 (by omega)]
  split <;> (try split) <;> rfl
end Go.Proofs.YtmhdekdpfacjoaaDoor.Pure
