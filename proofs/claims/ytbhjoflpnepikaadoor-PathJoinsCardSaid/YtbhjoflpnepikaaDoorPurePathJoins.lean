/- The plain law behind PathJoins. -/
import Derived.Test.YtbhjoflpnepikaaDoorPaRef
namespace Go.Proofs.YtbhjoflpnepikaaDoor.Pure
open Go.RowKit Go.Proofs.YtbhjoflpnepikaaDoorX Go.Proofs.YtbhjoflpnepikaaDoorW.PrintWords Go.Proofs.YtbhjoflpnepikaaDoorW.PrintLast Go.Proofs.YtbhjoflpnepikaaDoorW.PrintMore Go.Proofs.YtbhjoflpnepikaaDoor.P Go.Proofs.YtbhjoflpnepikaaDoor.Pa Go.Proofs.YtbhjoflpnepikaaDoor.PaTh
set_option linter.unusedVariables false
set_option linter.unusedSimpArgs false
set_option maxRecDepth 100000 in
theorem awake_3000 : hogsheadlaw1_awake.f 3000 = some true := by decide +kernel
theorem map_L (t : List ByteArray) : (t.map L).map mkB = t := by
  rw [List.map_map]; conv => rhs; rw [← List.map_id t]
  exact List.map_congr_left fun x _ => mkB_L x
theorem J_bound : ∀ (c : List (List UInt8)), (∀ x ∈ c, x.length ≤ 100) → (T c).length ≤ c.length * 101
  | [], _ => by simp [T]
  | x :: c, h => by
    have h1 := h x (by simp)
    have h2 := J_bound c (fun y hy => h y (by simp [hy]))
    rw [T_cons, List.length_cons, List.length_append, List.length_cons]
    omega
theorem PathJoins : hogsheadlaw1_PathJoins.Pure := by
  intro t _
  refine ⟨3000, ?_⟩
  unfold hogsheadlaw1_PathJoins.f
  have hg := greatX_f t 14 100 (by omega) 3000 (by omega)
  rw [show ((14 : Nat) : Int) = 14 from rfl, show ((100 : Nat) : Int) = 100 from rfl] at hg
  rw [hg, some_bind]
  by_cases h : greatX t 14 100 = true
  · rw [if_pos h, awake_3000, some_bind]
  rw [if_neg h]
  obtain ⟨h1, h2⟩ := greatX_not h
  have hs : ∀ x ∈ t.map L, x.length ≤ 100 := fun x hx => by
    obtain ⟨y, hy, rfl⟩ := List.mem_map.1 hx
    exact h2 y hy
  have hj : (J (t.map L)).length ≤ 1000000 := by
    have h3 := J_bound (t.map L) hs
    rw [List.length_map] at h3
    by_cases h0 : t.map L = []
    · rw [h0]; simp [J]
    · rw [T_J h0, List.length_cons] at h3
      omega
  have e1 := join_f (t.map L) (by rw [List.length_map]; omega) hj 3000 (by omega)
  have e2 := refJoinG_f (t.map L) (by rw [List.length_map]; omega) (fun x hx => by have := hs x hx; omega) 3000 (by omega)
  rw [map_L] at e1 e2
  unfold hogsheadlaw0_LendTexts.f hogsheadlaw0_KeptTexts.f
  rw [if_pos (by omega), some_bind, e1, some_bind, e2, some_bind, if_pos rfl, if_pos (beq_self_eq_true _), same_f t t (by omega) 3000 (by omega), some_bind, if_pos (decide_eq_true rfl), awake_3000, some_bind]
end Go.Proofs.YtbhjoflpnepikaaDoor.Pure
