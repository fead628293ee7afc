/- The plain law behind ViewSplits. -/
import Derived.Test.YthbdbgjggoobnaaDoorViewAsk
namespace Go.Proofs.YthbdbgjggoobnaaDoor.Pure
open Go.RowKit Go.Proofs.YthbdbgjggoobnaaDoorX Go.Proofs.YthbdbgjggoobnaaDoorW.PrintWords Go.Proofs.YthbdbgjggoobnaaDoorW.PrintLast Go.Proofs.YthbdbgjggoobnaaDoorW.PrintMore Go.Proofs.YthbdbgjggoobnaaDoor.P Go.Proofs.YthbdbgjggoobnaaDoor.Pa Go.Proofs.YthbdbgjggoobnaaDoor.PaTh Go.Proofs.YthbdbgjggoobnaaDoor.TreeTh Go.Proofs.YthbdbgjggoobnaaDoor.NarTh Go.Proofs.YthbdbgjggoobnaaDoor.Im Go.Proofs.YthbdbgjggoobnaaDoor.Vw
open Go.Proofs.YthbdbgjggoobnaaDoor.Bs (bytesOf_inj Bytes bytesOf_bytes bytesOf_strOfNums size_bytes strOfNums_bytesOf toList_inj)
set_option linter.unusedVariables false
set_option linter.unusedSimpArgs false
set_option maxRecDepth 100000 in
theorem awake_3000 : hogsheadlaw20_awake.f 3000 = some true := by decide +kernel
theorem awake_f (k : Nat) (hk : 3000 ≤ k) : hogsheadlaw20_awake.f k = some true := at_rounds (g := fun k => hogsheadlaw20_awake.f k) hogsheadlaw20_awake.mono hk awake_3000
theorem low_f (x n : Int) (h : 1 ≤ n) (h' : n ≤ 4611686018427387904) : hogsheadlaw0_Low.f x n = some ((x % 18446744073709551616) % n) := by
  unfold hogsheadlaw0_Low.f
  exact Go.Proofs.YthbdbgjggoobnaaDoor.Bs.low_expr x n h h'
theorem jt (l0 : List Nd) (a1 a2 a3 a4 : Int) (k : Nat) (hk : 4000 ≤ k) : hogsheadlaw20_ViewSplits.j0 k l0 a1 a2 a3 a4 true = some true := by
  obtain ⟨k, rfl⟩ : ∃ m, k = m + 1 := ⟨k - 1, by omega⟩
  rw [hogsheadlaw20_ViewSplits.j0, if_pos rfl, awake_f k (by omega)]; rfl
section
variable {t : List Nd} (h : mayT t = true)
include h
theorem asked (i : Nat) (hi : i < t.length) (off m : Int) (k : Nat) (hk : 300000 ≤ k) : view_View_ReadAt.f k (blksOf t) (rowsOf t) (at_ t i).f0 off m = some (rdOne (at_ t i) off m) := by
  rw [readAt_f h _ off m k hk, rdAt, firstAt_here h hi]
theorem splits_l0 (x1 : Int) (off n part : Nat) (ho : off ≤ 1000) (hn : n ≤ 1000) (hp : part ≤ n) : ∀ (f j k : Nat), j + f = t.length → 2 * f + 300003 ≤ k →
    hogsheadlaw20_ViewSplits.l0 k t x1 (off : Int) (n : Int) (part : Int) (j : Int) (blksOf t) (rowsOf t) = some true := by
  obtain ⟨h4, hg⟩ := tree_sizes h
  intro f
  induction f with
  | zero =>
    intro j k hj hk
    obtain ⟨k, rfl⟩ : ∃ m, k = m + 1 := ⟨k - 1, by omega⟩
    rw [hogsheadlaw20_ViewSplits.l0, if_neg (by omega), awake_f k (by omega)]; rfl
  | succ f ih =>
    intro j k hj hk
    obtain ⟨k, rfl⟩ : ∃ m, k = m + 2 := ⟨k - 2, by omega⟩
    have hjl : j < t.length := by omega
    have q1 : 0 ≤ (x1 % 18446744073709551616) % (t.length : Int) := Int.emod_nonneg _ (by omega)
    have q2 : (x1 % 18446744073709551616) % (t.length : Int) < (t.length : Int) := Int.emod_lt_of_pos _ (by omega)
    obtain ⟨a, ha⟩ := Int.eq_ofNat_of_zero_le q1
    have hi : Int.tmod (wrap64 ((a : Int) + (j : Int))) (t.length : Int) = (((a + j) % t.length : Nat) : Int) := by
      rw [wrap_in (by omega) (by omega), show (a : Int) + (j : Int) = ((a + j : Nat) : Int) by omega]
      rfl
    have hil : (a + j) % t.length < t.length := Nat.mod_lt _ (by omega)
    rw [hogsheadlaw20_ViewSplits.l0, if_pos (by omega), low_f x1 t.length (by omega) (by omega), PaTh.some_bind, ha, hi, if_neg (by omega), if_pos (by omega), if_pos (by omega), rdN]
    generalize (a + j) % t.length = i at hil
    rw [asked h i hil _ _ _ (by omega), PaTh.some_bind, asked h i hil _ _ _ (by omega), PaTh.some_bind, asked h i hil _ _ _ (by omega), PaTh.some_bind, PaTh.some_bind, wrap_in (a := (off : Int) + (part : Int)) (by omega) (by omega), wrap_in (a := (n : Int) - (part : Int)) (by omega) (by omega)]
    have hB := bytesOf_bytes (at_ t i).f2
    have hsz : (at_ t i).f2.size ≤ 1000 := by rw [at_lt t i hil]; have := (hg _ (List.getElem_mem hil)).2; omega
    have key : ∀ (s c d : ByteArray) (x : Bool), s = c ++ d → (c.size : Int) ≤ (part : Int) → d.size ≤ 2000 →
        (if (x != x) = true then hogsheadlaw20_ViewSplits.j3 (k + 1) t x1 (off : Int) (n : Int) (part : Int) (j : Int) true (blksOf t) (rowsOf t)
        else if (x != x) = true then hogsheadlaw20_ViewSplits.j3 (k + 1) t x1 (off : Int) (n : Int) (part : Int) (j : Int) true (blksOf t) (rowsOf t)
        else if (x != x) = true then hogsheadlaw20_ViewSplits.j3 (k + 1) t x1 (off : Int) (n : Int) (part : Int) (j : Int) true (blksOf t) (rowsOf t)
        else if c.size + d.size ≤ 9223372036854775807 then
          if s.toList = (c ++ d).toList then
            if s.toList = s.toList then hogsheadlaw20_ViewSplits.j3 (k + 1) t x1 (off : Int) (n : Int) (part : Int) (j : Int) (decide ((c.size : Int) > (part : Int))) (blksOf t) (rowsOf t)
            else hogsheadlaw20_ViewSplits.j3 (k + 1) t x1 (off : Int) (n : Int) (part : Int) (j : Int) true (blksOf t) (rowsOf t)
          else hogsheadlaw20_ViewSplits.j3 (k + 1) t x1 (off : Int) (n : Int) (part : Int) (j : Int) true (blksOf t) (rowsOf t)
        else none) = some true := by
      intro s c d x hs hc hd
      have hx : ¬ ((x != x) = true) := by simp
      rw [if_neg hx, if_neg hx, if_neg hx, if_pos (by omega), if_pos (by rw [hs]), if_pos rfl, decide_eq_false (by omega), hogsheadlaw20_ViewSplits.j3, if_neg (by simp), w_one j (by omega)]
      exact ih (j + 1) k (by omega) (by omega)
    unfold rdOne
    cases e : fileK (at_ t i)
    · rw [if_neg (by simp), if_neg (by simp), if_neg (by simp)]
      exact key ⟨#[]⟩ ⟨#[]⟩ ⟨#[]⟩ false rfl (by show ((0 : Nat) : Int) ≤ _; omega) (Nat.zero_le _)
    · have c1 : true = true ∧ (0 : Int) ≤ (off : Int) ∧ (0 : Int) ≤ (n : Int) := ⟨rfl, by omega, by omega⟩
      have c2 : true = true ∧ (0 : Int) ≤ (off : Int) ∧ (0 : Int) ≤ (part : Int) := ⟨rfl, by omega, by omega⟩
      have c3 : true = true ∧ (0 : Int) ≤ (off : Int) + (part : Int) ∧ (0 : Int) ≤ (n : Int) - (part : Int) := ⟨rfl, by omega, by omega⟩
      rw [if_pos c1, if_pos c2, if_pos c3]
      rw [show (off : Int) + (part : Int) = ((off + part : Nat) : Int) by omega, show (n : Int) - (part : Int) = ((n - part : Nat) : Int) by omega, Int.toNat_natCast, Int.toNat_natCast, Int.toNat_natCast, Int.toNat_natCast, Int.toNat_natCast]
      refine key _ _ _ true ?_ ?_ ?_
      · apply bytesOf_inj
        rw [Bs.bytesOf_append, bytesOf_strOfNums ((hB.drop off).take n), bytesOf_strOfNums ((hB.drop off).take part), bytesOf_strOfNums ((hB.drop (off + part)).take (n - part)), ← List.drop_drop, ← List.take_add, show part + (n - part) = n by omega]
      · rw [size_bytes, bytesOf_strOfNums ((hB.drop off).take part), List.length_take]; omega
      · rw [size_bytes, bytesOf_strOfNums ((hB.drop (off + part)).take (n - part)), List.length_take]; omega
end
theorem ViewSplits : hogsheadlaw20_ViewSplits.Pure := by
  intro l0 a1 a2 a3 a4 hl hw1 hw2 hw3 hw4
  refine ⟨1000000, ?_⟩
  have hlen : l0.length ≤ 9223372036854775807 := hl.1
  unfold hogsheadlaw20_ViewSplits.f
  rw [show (40 : Int) = ((40 : Nat) : Int) from rfl, great_f l0 40 (by omega) hlen _ (by omega), PaTh.some_bind]
  by_cases g0 : great l0 40 = true
  · rw [if_pos g0, jt _ _ _ _ _ _ (by omega)]
  rw [if_neg g0]
  obtain ⟨n0, _⟩ := great_not g0
  rw [mayT_f l0 (by omega) _ (by omega), PaTh.some_bind]
  by_cases m0 : mayT l0 = true
  case neg => rw [Bool.not_eq_true] at m0; rw [m0, Bool.not_false, jt _ _ _ _ _ _ (by omega)]
  rw [m0, Bool.not_true, hogsheadlaw20_ViewSplits.j0, if_neg (by simp), lay_f l0 (by omega) _ (by omega), if_pos m0, PaTh.some_bind]
  simp only
  rw [open_ok m0 _ (by omega), PaTh.some_bind]
  simp only
  rw [if_pos trivial, if_pos trivial, hogsheadlaw20_ViewSplits.j1, if_neg (by simp), low_f a2 500 (by omega) (by omega), PaTh.some_bind, low_f a3 500 (by omega) (by omega), PaTh.some_bind]
  have h1 : 0 ≤ (a2 % 18446744073709551616) % 500 := Int.emod_nonneg _ (by omega)
  have h2 : (a2 % 18446744073709551616) % 500 < 500 := Int.emod_lt_of_pos _ (by omega)
  have h3 : 0 ≤ (a3 % 18446744073709551616) % 500 := Int.emod_nonneg _ (by omega)
  have h4 : (a3 % 18446744073709551616) % 500 < 500 := Int.emod_lt_of_pos _ (by omega)
  obtain ⟨o, ho⟩ := Int.eq_ofNat_of_zero_le h1
  obtain ⟨n, hn⟩ := Int.eq_ofNat_of_zero_le h3
  rw [ho] at h2 ⊢
  rw [hn] at h4 ⊢
  rw [wrap_in (a := (n : Int) + 1) (by omega) (by omega), low_f a4 ((n : Int) + 1) (by omega) (by omega), PaTh.some_bind]
  have h5 : 0 ≤ (a4 % 18446744073709551616) % ((n : Int) + 1) := Int.emod_nonneg _ (by omega)
  have h6 : (a4 % 18446744073709551616) % ((n : Int) + 1) < (n : Int) + 1 := Int.emod_lt_of_pos _ (by omega)
  obtain ⟨p, hp⟩ := Int.eq_ofNat_of_zero_le h5
  rw [hp] at h6 ⊢
  exact splits_l0 m0 a1 o n p (by omega) (by omega) (by omega) l0.length 0 _ (by omega) (by omega)
end Go.Proofs.YthbdbgjggoobnaaDoor.Pure
