/- The plain law behind NarBack. -/
import Derived.Test.YtpfffjjhkbjgmaaDoorNarTh
namespace Go.Proofs.YtpfffjjhkbjgmaaDoor.Pure
open Go.RowKit Go.Proofs.YtpfffjjhkbjgmaaDoorX Go.Proofs.YtpfffjjhkbjgmaaDoorW.PrintWords Go.Proofs.YtpfffjjhkbjgmaaDoorW.PrintLast Go.Proofs.YtpfffjjhkbjgmaaDoorW.PrintMore Go.Proofs.YtpfffjjhkbjgmaaDoor.P Go.Proofs.YtpfffjjhkbjgmaaDoor.Pa Go.Proofs.YtpfffjjhkbjgmaaDoor.PaTh Go.Proofs.YtpfffjjhkbjgmaaDoor.TreeTh Go.Proofs.YtpfffjjhkbjgmaaDoor.NarTh
set_option linter.unusedVariables false
set_option linter.unusedSimpArgs false
theorem aw (k : Nat) (hk : 300 ≤ k) : ((hogsheadlaw5_awake.f k).bind fun t => some t) = some true := by rw [awake_f k hk, some_bind]
theorem back_j2 (b : List Int) (hb : b.length ≤ 1000000) (k : Nat) (hk : 800000 ≤ k) : hogsheadlaw5_NarBack.j2 k b = some true := by
  obtain ⟨k, rfl⟩ : ∃ m, k = m + 1 := ⟨k - 1, by omega⟩
  rw [hogsheadlaw5_NarBack.j2, read_f b (by omega) k (by omega), some_bind]
  rcases read_cases b with ⟨t, h, hm, he⟩ | h
  · rw [h]
    obtain ⟨_, h4, _⟩ := mayT_good hm
    have hl := enc_len hm
    show (if (0 : Int) = 0 then (nar_Lay.f k t).bind _ else _) = _
    rw [if_pos rfl, lay_f t (by omega) k (by omega), if_pos hm, some_bind]
    show (if (0 : Int) = 0 then (hogsheadlaw0_SameBytes.f k (enc t) b).bind _ else _) = _
    rw [if_pos rfl, sameB_f _ _ (by omega) k (by omega), some_bind, decide_eq_true he, if_pos rfl, aw k (by omega)]
  · rw [h]
    show (if (5 : Int) = 0 then _ else if (5 : Int) = 5 then (if ((([] : List Nd).length : Nat) : Int) = 0 then _ else _) else _) = _
    rw [if_neg (by omega), if_pos rfl, if_pos (by simp), aw k (by omega)]
theorem cut_bad {t : List Nd} (hm : mayT t = true) (c : Nat) (hc : c < (enc t).length) : read ((enc t).take c) = ([], 5) := by
  rcases read_cases ((enc t).take c) with ⟨u, _, hu, he⟩ | h
  · exfalso
    have h2 : enc t ++ [] = enc u ++ (enc t).drop c := by rw [he, List.append_nil, List.take_append_drop]
    have := (enc_pre hm hu h2).2
    have hl := congrArg List.length this
    rw [List.length_drop] at hl
    simp at hl
    omega
  · exact h
theorem more_bad {t : List Nd} (hm : mayT t = true) (x : Int) : read (enc t ++ [x]) = ([], 5) := by
  rcases read_cases (enc t ++ [x]) with ⟨u, _, hu, he⟩ | h
  · exfalso
    have h2 : enc t ++ [x] = enc u ++ [] := by rw [he, List.append_nil]
    have := (enc_pre hm hu h2).2
    cases this
  · exact h
theorem low_f (x n : Int) (h : 1 ≤ n) (h' : n ≤ 4611686018427387904) : hogsheadlaw0_Low.f x n = some ((x % 18446744073709551616) % n) := by
  unfold hogsheadlaw0_Low.f
  exact Bs.low_expr x n h h'
theorem back_j0 (t : List Nd) (b : List Int) (c : Int) (g : Bool) (ht : g = false → t.length ≤ 1000) (hb : g = false → b.length ≤ 1000000) : hogsheadlaw5_NarBack.j0 900000 t b c g = some true := by
  rw [hogsheadlaw5_NarBack.j0]
  cases g
  case true => rw [if_pos rfl, aw _ (by omega)]
  have ht := ht rfl
  have hb := hb rfl
  rw [if_neg (by simp), lay_f t (by omega) _ (by omega), some_bind]
  by_cases hm : mayT t = true
  · rw [if_pos hm]
    have hl := enc_len hm
    have hpos : 0 < (enc t).length := by unfold enc; rw [List.length_append, List.length_append, enc8_len]; omega
    show (if (0 : Int) = 0 then hogsheadlaw5_NarBack.j1 899999 t b c (enc t) 0 (((enc t).length : Int) == 0) else _) = _
    rw [if_pos rfl, show (((enc t).length : Int) == 0) = false from beq_eq_false_iff_ne.2 (by omega), hogsheadlaw5_NarBack.j1, if_neg (by simp), if_pos rfl, read_f _ (by omega) _ (by omega), some_bind, low_f c _ (by omega) (by omega), some_bind]
    obtain ⟨r0, r1⟩ := Bs.low_range c ((enc t).length : Int) (by omega)
    obtain ⟨q, hq⟩ := Int.eq_ofNat_of_zero_le r0
    rw [hq] at r1 ⊢
    rw [if_pos (by omega), if_pos (by omega), Int.toNat_natCast, read_f _ (by rw [List.length_take]; omega) _ (by omega), some_bind, if_pos (by simp; omega), some_bind, if_pos (by simp; omega), List.nil_append, read_f _ (by simp; omega) _ (by omega), some_bind, read_enc hm, cut_bad hm q (by omega), more_bad hm]
    show (if (0 : Int) = 0 then (hogsheadlaw0_SameNodes.f 899998 t t).bind _ else _) = _
    rw [if_pos rfl, sameN_f t t (by omega) _ (by omega), some_bind, if_pos (sameN_self t)]
    show (if (5 : Int) = 5 then (if (5 : Int) = 5 then _ else _) else _) = _
    rw [if_pos rfl, if_pos rfl]
    exact back_j2 b hb _ (by omega)
  · rw [if_neg hm]
    show (if (7 : Int) = 0 then _ else hogsheadlaw5_NarBack.j1 899999 t b c [] 7 false) = _
    rw [if_neg (by omega), hogsheadlaw5_NarBack.j1, if_neg (by simp), if_neg (by omega)]
    exact back_j2 b hb _ (by omega)
theorem NarBack : hogsheadlaw5_NarBack.Pure := by
  intro t b c ⟨ht, _⟩ _ _
  have ht' : t.length ≤ 9223372036854775807 := by unfold maxLen at ht; exact ht
  refine ⟨900000, ?_⟩
  unfold hogsheadlaw5_NarBack.f
  rw [show (60 : Int) = ((60 : Nat) : Int) from rfl, great_f t 60 (by omega) ht' _ (by omega), some_bind]
  by_cases h1 : great t 60 = true
  · rw [if_pos h1]; exact back_j0 t b c true (by simp) (by simp)
  · rw [if_neg h1]
    refine back_j0 t b c _ (fun _ => by have := (great_not h1).1; omega) (fun h => ?_)
    have := of_decide_eq_false h
    omega
end Go.Proofs.YtpfffjjhkbjgmaaDoor.Pure
