/- The plain law behind ViewRanges. -/
import Derived.Test.YthbdbgjggoobnaaDoorViewAsk
namespace Go.Proofs.YthbdbgjggoobnaaDoor.Pure
open Go.RowKit Go.Proofs.YthbdbgjggoobnaaDoorX Go.Proofs.YthbdbgjggoobnaaDoorW.PrintWords Go.Proofs.YthbdbgjggoobnaaDoorW.PrintLast Go.Proofs.YthbdbgjggoobnaaDoorW.PrintMore Go.Proofs.YthbdbgjggoobnaaDoor.P Go.Proofs.YthbdbgjggoobnaaDoor.Pa Go.Proofs.YthbdbgjggoobnaaDoor.PaTh Go.Proofs.YthbdbgjggoobnaaDoor.TreeTh Go.Proofs.YthbdbgjggoobnaaDoor.NarTh Go.Proofs.YthbdbgjggoobnaaDoor.Im Go.Proofs.YthbdbgjggoobnaaDoor.Vw
open Go.Proofs.YthbdbgjggoobnaaDoor.Bs (bytesOf_inj Bytes bytesOf_bytes bytesOf_strOfNums size_bytes strOfNums_bytesOf toList_inj)
set_option linter.unusedVariables false
set_option linter.unusedSimpArgs false
set_option maxRecDepth 100000 in
theorem awake_3000 : hogsheadlaw20_awake.f 3000 = some true := by decide +kernel
theorem awake_f (k : Nat) (hk : 3000 ≤ k) : hogsheadlaw20_awake.f k = some true := at_rounds (g := fun k => hogsheadlaw20_awake.f k) hogsheadlaw20_awake.mono hk awake_3000
theorem low_f (x n : Int) (h : 1 ≤ n) (h' : n ≤ 4611686018427387904) : hogsheadlaw0_Low.f x n = some ((x % 18446744073709551616) % n) := by
  unfold hogsheadlaw0_Low.f
  exact Go.Proofs.YthbdbgjggoobnaaDoor.Bs.low_expr x n h h'
theorem jt (l0 : List Nd) (a1 a2 : Int) (k : Nat) (hk : 4000 ≤ k) : hogsheadlaw20_ViewRanges.j0 k l0 a1 a2 true = some true := by
  obtain ⟨k, rfl⟩ : ∃ m, k = m + 1 := ⟨k - 1, by omega⟩
  rw [hogsheadlaw20_ViewRanges.j0, if_pos rfl, awake_f k (by omega)]; rfl
theorem rdOne_out (n : Nd) : rdOne n (-1) 1 = (⟨#[]⟩, false) := by unfold rdOne; rw [if_neg (by omega)]
theorem rdOne_far (n : Nd) (h : n.f2.size ≤ 1000000) : rdOne n 1099511627776 1099511627776 = (⟨#[]⟩, fileK n) := by
  unfold rdOne
  cases e : fileK n
  · rw [if_neg (by simp)]
  · rw [if_pos ⟨rfl, by omega, by omega⟩, List.drop_of_length_le (by rw [bytesOf_length]; omega), List.take_nil, strOf_nil]
section
variable {t : List Nd} (h : mayT t = true) (i : Nat) (hi : i < t.length) (hs : (at_ t i).f2.size ≤ 1000)
include h hi hs
omit hs in
theorem asked (off m : Int) (k : Nat) (hk : 300000 ≤ k) : view_View_ReadAt.f k (blksOf t) (rowsOf t) (at_ t i).f0 off m = some (rdOne (at_ t i) off m) := by
  rw [readAt_f h _ off m k hk, rdAt, firstAt_here h hi]
theorem ranges_end (step : Int) (all : ByteArray) (at_0 : Int) (kd : Int) (k : Nat) (hk : 300001 ≤ k) (ha : fileK (at_ t i) = true → all = (at_ t i).f2) : hogsheadlaw20_ViewRanges.j4 k step (fileK (at_ t i)) all at_0 false (blksOf t) (rowsOf t) (at_ t i).f0 kd (at_ t i).f2 = some true := by
  obtain ⟨k, rfl⟩ : ∃ m, k = m + 1 := ⟨k - 1, by omega⟩
  rw [hogsheadlaw20_ViewRanges.j4, if_neg (by simp), asked h i hi _ _ k (by omega), PaTh.some_bind, asked h i hi _ _ k (by omega), PaTh.some_bind, rdOne_far _ (by omega), rdOne_out]
  simp only
  have en : (⟨#[]⟩ : ByteArray).toList = ([] : List UInt8) := Bs.toList_nil.2 rfl
  cases e : fileK (at_ t i)
  · rw [if_neg (by simp), if_pos en, if_pos (by simp), if_neg (by simp), awake_f k (by omega)]; rfl
  · rw [if_pos rfl, if_pos (by rw [ha e]), if_pos en, if_pos (by simp), if_neg (by simp), awake_f k (by omega)]; rfl
theorem ranges_l0 (step : Nat) (h1 : 1 ≤ step) (h2 : step ≤ 100) (hf : fileK (at_ t i) = true) (kd : Int) : ∀ (f j k : Nat), (at_ t i).f2.size + step ≤ j + f → j ≤ 2000 → 3 * f + 300003 ≤ k →
    hogsheadlaw20_ViewRanges.l0 k (step : Int) true (strOfNums ((bytesOf (at_ t i).f2).take j)) (j : Int) (blksOf t) (rowsOf t) (at_ t i).f0 kd (at_ t i).f2 = some true := by
  intro f
  induction f with
  | zero =>
    intro j k hj hj2 hk
    obtain ⟨k, rfl⟩ : ∃ m, k = m + 1 := ⟨k - 1, by omega⟩
    have he := ranges_end h i hi hs (step : Int) (strOfNums ((bytesOf (at_ t i).f2).take j)) (j : Int) kd k (by omega) (fun _ => by rw [List.take_of_length_le (by rw [bytesOf_length]; omega), strOfNums_bytesOf])
    rw [hf] at he
    rw [hogsheadlaw20_ViewRanges.l0, wrap_in (by omega) (by omega), if_neg (by omega)]
    exact he
  | succ f ih =>
    intro j k hj hj2 hk
    obtain ⟨k, rfl⟩ : ∃ m, k = m + 3 := ⟨k - 3, by omega⟩
    rw [hogsheadlaw20_ViewRanges.l0, wrap_in (by omega) (by omega)]
    by_cases c : j < (at_ t i).f2.size + step
    case neg =>
      have he := ranges_end h i hi hs (step : Int) (strOfNums ((bytesOf (at_ t i).f2).take j)) (j : Int) kd (k + 2) (by omega) (fun _ => by rw [List.take_of_length_le (by rw [bytesOf_length]; omega), strOfNums_bytesOf])
      rw [hf] at he
      rw [if_neg (by omega)]
      exact he
    have hB := bytesOf_bytes (at_ t i).f2
    have hr : rdOne (at_ t i) (j : Int) (step : Int) = (strOfNums (((bytesOf (at_ t i).f2).drop j).take step), true) := by
      unfold rdOne
      rw [if_pos ⟨hf, by omega, by omega⟩, Int.toNat_natCast, Int.toNat_natCast]
    have hz : (strOfNums (((bytesOf (at_ t i).f2).drop j).take step)).size ≤ step := by
      rw [size_bytes, bytesOf_strOfNums ((hB.drop j).take step), List.length_take]; omega
    have hy : (strOfNums ((bytesOf (at_ t i).f2).take j)).size ≤ 1000 := by
      rw [size_bytes, bytesOf_strOfNums (hB.take j), List.length_take, bytesOf_length]; omega
    have hc : strOfNums ((bytesOf (at_ t i).f2).take j) ++ strOfNums (((bytesOf (at_ t i).f2).drop j).take step) = strOfNums ((bytesOf (at_ t i).f2).take (j + step)) := by
      apply bytesOf_inj
      rw [Bs.bytesOf_append, bytesOf_strOfNums (hB.take j), bytesOf_strOfNums ((hB.drop j).take step), bytesOf_strOfNums (hB.take (j + step)), List.take_add]
    rw [if_pos (by omega), hogsheadlaw20_ViewRanges.j4, if_pos rfl, asked h i hi _ _ (k + 1) (by omega), PaTh.some_bind, hr]
    simp only
    rw [if_pos trivial, decide_eq_false (by omega), hogsheadlaw20_ViewRanges.j5, if_neg (by simp), if_pos (by omega), hc, wrap_in (by omega) (by omega), show (j : Int) + (step : Int) = ((j + step : Nat) : Int) by omega]
    exact ih (j + step) k (by omega) (by omega) (by omega)
end
theorem ViewRanges : hogsheadlaw20_ViewRanges.Pure := by
  intro l0 a1 a2 hl hw1 hw2
  refine ⟨1000000, ?_⟩
  have hlen : l0.length ≤ 9223372036854775807 := hl.1
  unfold hogsheadlaw20_ViewRanges.f
  rw [show (30 : Int) = ((30 : Nat) : Int) from rfl, great_f l0 30 (by omega) hlen _ (by omega), PaTh.some_bind]
  by_cases g0 : great l0 30 = true
  · rw [if_pos g0, jt _ _ _ _ (by omega)]
  rw [if_neg g0]
  obtain ⟨n0, _⟩ := great_not g0
  rw [mayT_f l0 (by omega) _ (by omega), PaTh.some_bind]
  by_cases m0 : mayT l0 = true
  case neg => rw [Bool.not_eq_true] at m0; rw [m0, Bool.not_false, jt _ _ _ _ (by omega)]
  obtain ⟨s4, sg⟩ := tree_sizes m0
  have hpos : 0 < l0.length := List.length_pos_iff.2 (mayT_good m0).1
  rw [m0, Bool.not_true, hogsheadlaw20_ViewRanges.j0, if_neg (by simp), low_f a1 l0.length (by omega) (by omega), PaTh.some_bind, low_f a2 100 (by omega) (by omega), PaTh.some_bind, lay_f l0 (by omega) _ (by omega), if_pos m0, PaTh.some_bind]
  simp only
  rw [open_ok m0 _ (by omega), PaTh.some_bind]
  simp only
  rw [if_pos trivial]
  have h1 : 0 ≤ (a1 % 18446744073709551616) % (l0.length : Int) := Int.emod_nonneg _ (by omega)
  have h2 : (a1 % 18446744073709551616) % (l0.length : Int) < (l0.length : Int) := Int.emod_lt_of_pos _ (by omega)
  have h3 : 0 ≤ (a2 % 18446744073709551616) % 100 := Int.emod_nonneg _ (by omega)
  have h4 : (a2 % 18446744073709551616) % 100 < 100 := Int.emod_lt_of_pos _ (by omega)
  obtain ⟨i, hi⟩ := Int.eq_ofNat_of_zero_le h1
  obtain ⟨s, hs⟩ := Int.eq_ofNat_of_zero_le h3
  rw [hi] at h1 h2 ⊢
  rw [hs] at h3 h4 ⊢
  have hil : i < l0.length := by omega
  have hsz : (at_ l0 i).f2.size ≤ 1000 := by rw [at_lt l0 i hil]; have := (sg _ (List.getElem_mem hil)).2; omega
  rw [wrap_in (by omega) (by omega), show (1 : Int) + (s : Int) = ((s + 1 : Nat) : Int) by omega, hogsheadlaw20_ViewRanges.j1, if_neg (by simp), if_pos h1, if_pos h2, rdN, asked m0 i hil _ _ _ (by omega), PaTh.some_bind]
  have hr : (rdOne (at_ l0 i) 0 0).2 = fileK (at_ l0 i) := by
    unfold rdOne
    cases e : fileK (at_ l0 i)
    · rw [if_neg (by simp)]
    · rw [if_pos ⟨rfl, by omega, by omega⟩]
  rw [hr]
  have hj : ∀ (b : Bool), b = false → hogsheadlaw20_ViewRanges.j2 999998 ((s + 1 : Nat) : Int) (fileK (at_ l0 i)) b (blksOf l0) (rowsOf l0) (at_ l0 i).f0 (at_ l0 i).f1 (at_ l0 i).f2 = some true := by
    intro b hb
    subst hb
    rw [hogsheadlaw20_ViewRanges.j2, if_neg (by simp)]
    cases e : fileK (at_ l0 i)
    · have he := fun q => ranges_end m0 i hil hsz ((s + 1 : Nat) : Int) (⟨#[]⟩ : ByteArray) 0 (at_ l0 i).f1 q
      rw [hogsheadlaw20_ViewRanges.l0, ite_self]
      have := he 999996 (by omega) (fun q => by rw [e] at q; cases q)
      rw [e] at this
      exact this
    · exact ranges_l0 m0 i hil hsz (s + 1) (by omega) (by omega) e (at_ l0 i).f1 2000 0 999997 (by omega) (by omega) (by omega)
  by_cases k2 : (at_ l0 i).f1 = 2
  · rw [if_pos k2]
    exact hj _ (by unfold fileK; rw [k2]; rfl)
  · rw [if_neg k2]
    refine hj _ ?_
    unfold fileK
    rw [show ((at_ l0 i).f1 == 2) = false from beq_eq_false_iff_ne.2 k2, Bool.false_or]
    cases ((at_ l0 i).f1 == 3) <;> rfl
end Go.Proofs.YthbdbgjggoobnaaDoor.Pure
