/- The plain law behind NarUnlike. -/
import Derived.Test.YtpfffjjhkbjgmaaDoorNarTh
namespace Go.Proofs.YtpfffjjhkbjgmaaDoor.Pure
open Go.RowKit Go.Proofs.YtpfffjjhkbjgmaaDoorX Go.Proofs.YtpfffjjhkbjgmaaDoorW.PrintWords Go.Proofs.YtpfffjjhkbjgmaaDoorW.PrintLast Go.Proofs.YtpfffjjhkbjgmaaDoorW.PrintMore Go.Proofs.YtpfffjjhkbjgmaaDoor.P Go.Proofs.YtpfffjjhkbjgmaaDoor.Pa Go.Proofs.YtpfffjjhkbjgmaaDoor.PaTh Go.Proofs.YtpfffjjhkbjgmaaDoor.TreeTh Go.Proofs.YtpfffjjhkbjgmaaDoor.NarTh
set_option linter.unusedVariables false
set_option linter.unusedSimpArgs false
theorem un_j0 (t u : List Nd) (b : Bool) (ht : t.length ≤ 1000) (hu : u.length ≤ 1000) : hogsheadlaw5_NarUnlike.j0 800000 t u b = some true := by
  rw [hogsheadlaw5_NarUnlike.j0]
  cases b
  case true => rw [if_pos rfl, awake_f _ (by omega), some_bind]
  rw [if_neg (by simp), lay_f t (by omega) _ (by omega), some_bind, lay_f u (by omega) _ (by omega), some_bind]
  have aw : ∀ k, 300 ≤ k → ((hogsheadlaw5_awake.f k).bind fun t => some t) = some true := fun k hk => by rw [awake_f k hk, some_bind]
  by_cases hm : mayT t = true
  · rw [if_pos hm]
    show (if (0 : Int) = 0 then _ else _) = _
    rw [if_pos rfl]
    by_cases hn : mayT u = true
    · rw [if_pos hn]
      show hogsheadlaw5_NarUnlike.j1 799999 t u (enc t) 0 (enc u) 0 ((0 : Int) != 0) = _
      have l1 := enc_len hm
      rw [show ((0 : Int) != 0) = false from rfl, hogsheadlaw5_NarUnlike.j1, if_neg (by simp), sameB_f _ _ (by omega) _ (by omega), some_bind, sameN_f t u (by omega) _ (by omega), some_bind]
      have e : (decide (enc t = enc u) == sameN t u) = true := by
        by_cases h : t = u
        · subst h; rw [sameN_self]; simp
        · rw [decide_eq_false (fun e => h (enc_inj hm hn e))]
          have : sameN t u = false := by
            cases hs : sameN t u
            · rfl
            · exact absurd ((sameN_iff t u).1 hs) h
          rw [this]; rfl
      rw [if_pos e, if_pos (enc_mod t), if_pos (enc_mod u), aw _ (by omega)]
    · rw [if_neg hn]
      show hogsheadlaw5_NarUnlike.j1 799999 t u (enc t) 0 [] 7 ((7 : Int) != 0) = _
      rw [show ((7 : Int) != 0) = true from rfl, hogsheadlaw5_NarUnlike.j1, if_pos rfl, if_pos rfl, if_neg (by omega), if_pos (by simp), aw _ (by omega)]
  · rw [if_neg hm]
    show (if (7 : Int) = 0 then _ else _) = _
    rw [if_neg (by omega)]
    by_cases hn : mayT u = true
    · rw [if_pos hn]
      show hogsheadlaw5_NarUnlike.j1 799999 t u [] 7 (enc u) 0 true = _
      rw [hogsheadlaw5_NarUnlike.j1, if_pos rfl, if_neg (by omega), if_pos (by simp), if_pos rfl, aw _ (by omega)]
    · rw [if_neg hn]
      show hogsheadlaw5_NarUnlike.j1 799999 t u [] 7 [] 7 true = _
      rw [hogsheadlaw5_NarUnlike.j1, if_pos rfl, if_neg (by omega), if_pos (by simp), if_neg (by omega), if_pos (by simp), aw _ (by omega)]
theorem un_true (t u : List Nd) : hogsheadlaw5_NarUnlike.j0 800000 t u true = some true := by
  rw [hogsheadlaw5_NarUnlike.j0, if_pos rfl, awake_f _ (by omega), some_bind]
theorem NarUnlike : hogsheadlaw5_NarUnlike.Pure := by
  intro t u ⟨ht, _⟩ ⟨hu, _⟩
  have ht' : t.length ≤ 9223372036854775807 := by unfold maxLen at ht; exact ht
  have hu' : u.length ≤ 9223372036854775807 := by unfold maxLen at hu; exact hu
  refine ⟨800000, ?_⟩
  unfold hogsheadlaw5_NarUnlike.f
  rw [show (40 : Int) = ((40 : Nat) : Int) from rfl, great_f t 40 (by omega) ht' _ (by omega), some_bind]
  by_cases h1 : great t 40 = true
  · rw [if_pos h1]; exact un_true t u
  rw [if_neg h1, great_f u 40 (by omega) hu' _ (by omega), some_bind]
  have h3 := (great_not h1).1
  by_cases h2 : great u 40 = true
  · rw [h2]; exact un_true t u
  · exact un_j0 t u _ (by omega) (by have := (great_not h2).1; omega)
end Go.Proofs.YtpfffjjhkbjgmaaDoor.Pure
