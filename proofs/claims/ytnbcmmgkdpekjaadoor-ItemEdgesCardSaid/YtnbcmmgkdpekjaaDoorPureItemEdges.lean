/- The plain law behind ItemEdges. -/
import Derived.Test.YtnbcmmgkdpekjaaDoorItMay
namespace Go.Proofs.YtnbcmmgkdpekjaaDoor.Pure
open Go.RowKit Go.Proofs.YtnbcmmgkdpekjaaDoorX Go.Proofs.YtnbcmmgkdpekjaaDoorW.PrintWords Go.Proofs.YtnbcmmgkdpekjaaDoorW.PrintLast Go.Proofs.YtnbcmmgkdpekjaaDoorW.PrintMore Go.Proofs.YtnbcmmgkdpekjaaDoor.P Go.Proofs.YtnbcmmgkdpekjaaDoor.Pa Go.Proofs.YtnbcmmgkdpekjaaDoor.PaTh Go.Proofs.YtnbcmmgkdpekjaaDoor.TreeTh Go.Proofs.YtnbcmmgkdpekjaaDoor.TreeUp Go.Proofs.YtnbcmmgkdpekjaaDoor.ItMay
open Go.Proofs.YtnbcmmgkdpekjaaDoor.ItTh (nm name_f hash_f awake_f nm_len tailOk okc more)
set_option linter.unusedVariables false
set_option linter.unusedSimpArgs false
theorem low_f (x n : Int) (h : 1 ≤ n) (h' : n ≤ 4611686018427387904) : hogsheadlaw0_Low.f x n = some ((x % 18446744073709551616) % n) := by
  unfold hogsheadlaw0_Low.f
  exact Go.Proofs.YtnbcmmgkdpekjaaDoor.Bs.low_expr x n h h'
/-- Of two items that are the same both may be, or neither. -/
theorem same_may {a : ByteArray} {l : List ByteArray} {t : List Nd} {b : ByteArray} {m : List ByteArray} {u : List Nd} (h : mayI a l t = true) (h' : mayI b m u = false) : sameI a l t b m u = false := by
  cases hs : sameI a l t b m u
  · rfl
  · unfold sameI at hs
    rw [Bool.and_eq_true, Bool.and_eq_true, decide_eq_true_iff, decide_eq_true_iff, sameN_iff] at hs
    obtain ⟨h1, rfl, rfl⟩ := hs
    rw [L_inj h1, h'] at h
    cases h
theorem j2_f {a : ByteArray} {l : List ByteArray} {t : List Nd} {b : ByteArray} {m : List ByteArray} {u : List Nd} (h : mayI a l t = true) (hl : l.length ≤ 1000) (ht : t.length ≤ 1000) (h' : mayI b m u = false) (k : Nat) (hk : 9500 ≤ k) : hogsheadlaw7_ItemEdges.j2 k a l t b m u = some true := by
  obtain ⟨k, rfl⟩ : ∃ m, k = m + 1 := ⟨k - 1, by omega⟩
  rw [hogsheadlaw7_ItemEdges.j2, mayI_f b m u k (by omega), some_bind, h', if_neg (by simp), sameI_f a l t b m u hl ht k (by omega), some_bind, same_may h h', if_neg (by simp), awake_f k (by omega), some_bind]
theorem okc_slash : okc more 47 = false := by decide +kernel
theorem name_slash {l : List UInt8} (h : nm l = true) : nm (l ++ [47]) = false := by
  cases hn : nm (l ++ [47])
  · rfl
  · obtain ⟨h1, _, _, _⟩ := nm_len h
    obtain ⟨_, _, _, h4⟩ := nm_len hn
    unfold tailOk at h4
    have e : ((l ++ [47]).drop 8).drop 2 = l.drop 10 ++ [47] := by rw [List.drop_drop, List.drop_append_of_le_length (by omega)]
    rw [Bool.and_eq_true, e] at h4
    have := List.all_eq_true.1 h4.2 47 (List.mem_append.2 (.inr (List.mem_singleton.2 rfl)))
    rw [okc_slash] at this
    cases this
theorem less_self (a : List UInt8) : Op.bytesLess a a = false := less_irr a
theorem twice (a : ByteArray) : risAll [a, a] = false := by
  have : ris [a, a] 2 0 = false := by
    show (nm (Go.Proofs.YtnbcmmgkdpekjaaDoor.ItTh.L a) && (nm (Go.Proofs.YtnbcmmgkdpekjaaDoor.ItTh.L a) && (Op.bytesLess a.toList a.toList && true))) = false
    rw [less_self]
    cases nm (Go.Proofs.YtnbcmmgkdpekjaaDoor.ItTh.L a) <;> rfl
  show (decide _ && ris [a, a] 2 0) = false
  rw [this, Bool.and_false]
set_option maxRecDepth 100000 in
theorem down : risAll [(⟨#[49, 49, 50, 51, 52, 53, 54, 97, 45, 120]⟩ : ByteArray), (⟨#[48, 49, 50, 51, 52, 53, 54, 97, 45, 120]⟩ : ByteArray)] = false := by decide +kernel
theorem no_tree : own [] = false := by
  unfold own
  have : mayT [] = false := by
    cases h : mayT []
    · rfl
    · exact absurd rfl ((mayT_iff []).1 h).1
  rw [this]; rfl
theorem root_again (t : List Nd) (x : Nd) (hx : L x.f0 = []) (h0 : t.length ≠ 0) : own (t ++ [x]) = false := by
  unfold own
  have : mayT (t ++ [x]) = false := by
    cases h : mayT (t ++ [x])
    · rfl
    · exfalso
      have hl : t.length < (t ++ [x]).length := by rw [List.length_append, List.length_singleton]; omega
      have := (ok_fol (((mayT_iff _).1 h).2 t.length hl) (by omega) hl).2.2.1
      rw [at_lt _ _ hl, List.getElem_append_right (Nat.le_refl _)] at this
      simp only [Nat.sub_self, List.getElem_cons_zero] at this
      exact this hx
  rw [this, Bool.false_and, Bool.and_false]
theorem too_great (t : List Nd) (h : 24 < t.length) : own t = false := by
  unfold own
  rw [decide_eq_false (by omega)]; rfl
theorem grow_l0 (a : ByteArray) (l : List ByteArray) (t : List Nd) (b : ByteArray) (m : List ByteArray) : ∀ (f j k : Nat) (u : List Nd), j + f = 24 → f < k → u.length ≤ 1 + j → ∃ u', hogsheadlaw7_ItemEdges.l0 k (j : Int) a l t b m u = hogsheadlaw7_ItemEdges.j2 (k - f - 1) a l t b m u' ∧ u'.length = u.length + f := by
  intro f
  induction f with
  | zero =>
    intro j k u hj hk hu
    obtain ⟨k, rfl⟩ : ∃ m, k = m + 1 := ⟨k - 1, by omega⟩
    refine ⟨u, ?_, rfl⟩
    rw [hogsheadlaw7_ItemEdges.l0, if_neg (by omega)]; rfl
  | succ f ih =>
    intro j k u hj hk hu
    obtain ⟨k, rfl⟩ : ∃ m, k = m + 1 := ⟨k - 1, by omega⟩
    rw [hogsheadlaw7_ItemEdges.l0, if_pos (by omega), if_pos (by omega), w_one j (by omega)]
    obtain ⟨u', h1, h2⟩ := ih (j + 1) k (u ++ [(⟨strOfNums (([(wrap64 (97 + (j : Int))) % 256] : List Int)), 2, (⟨#[]⟩ : ByteArray)⟩ : Nd)]) (by omega) (by omega) (by rw [List.length_append, List.length_singleton]; omega)
    refine ⟨u', ?_, by rw [h2, List.length_append, List.length_singleton]; omega⟩
    rw [show k + 1 - (f + 1) - 1 = k - f - 1 by omega]
    exact h1
theorem ItemEdges : hogsheadlaw7_ItemEdges.Pure := by
  intro x n ⟨_, _, hx, _⟩ hn
  have hx' : x.f2.length ≤ 9223372036854775807 := by unfold maxLen at hx; exact hx
  refine ⟨20000, ?_⟩
  have yes : ∀ k, 1000 ≤ k → hogsheadlaw7_ItemEdges.j0 k n true x.f0 x.f1 x.f2 = some true := fun k hk => by
    obtain ⟨k, rfl⟩ : ∃ m, k = m + 1 := ⟨k - 1, by omega⟩
    rw [hogsheadlaw7_ItemEdges.j0, if_pos rfl, awake_f k (by omega), some_bind]
  unfold hogsheadlaw7_ItemEdges.f
  have hg := great_l0 [x] (by simp) (fun z hz => by
    rcases List.mem_cons.1 hz with rfl | hz
    · exact hx'
    · cases hz) 1 0 20000 rfl (by omega)
  rw [List.drop_zero] at hg
  have hg2 : item_LitGreat1.f 20000 x.f0 x.f1 x.f2 = some ([x].any gr) := hg
  rw [hg2, some_bind]
  cases hgr : [x].any gr
  case true => rw [if_pos rfl]; exact yes _ (by omega)
  have hgx : gr x = false := by
    rw [List.any_cons, Bool.or_eq_false_iff] at hgr
    exact hgr.1
  unfold gr at hgx
  rw [Bool.or_eq_false_iff, Bool.or_eq_false_iff] at hgx
  obtain ⟨hl, _⟩ := greatX_not (Bool.eq_false_iff.1 hgx.2.1)
  obtain ⟨ht, _⟩ := great_not (Bool.eq_false_iff.1 hgx.2.2)
  have hmf := mayI_f x.f0 x.f1 x.f2 20000 (by omega)
  rw [if_neg (by simp), hmf, some_bind]
  cases hm : mayI x.f0 x.f1 x.f2
  · exact yes _ (by omega)
  show hogsheadlaw7_ItemEdges.j0 (19999 + 1) n false x.f0 x.f1 x.f2 = some true
  rw [hogsheadlaw7_ItemEdges.j0, if_neg (by simp), own_f _ _ _ (by omega) (by omega), some_bind, low_f n 6 (by omega) (by omega), some_bind]
  have hm' := hm
  unfold mayI at hm'
  rw [Bool.and_eq_true, Bool.and_eq_true] at hm'
  obtain ⟨m1, m2, m3⟩ := hm'
  have hsz : x.f0.size ≤ 30 := (nm_len m1).2.1
  have h0 : x.f2.length ≠ 0 := by
    intro h
    rw [List.eq_nil_of_length_eq_zero h, no_tree] at m3
    cases m3
  have go : ∀ b m u, mayI b m u = false → hogsheadlaw7_ItemEdges.j2 19999 x.f0 x.f1 x.f2 b m u = some true := fun b m u h => j2_f hm (by omega) (by omega) h 19999 (by omega)
  generalize (n % 18446744073709551616) % 6 = q
  by_cases q0 : q = 0
  · rw [if_pos q0, if_pos (show x.f0.size + 1 ≤ 9223372036854775807 by omega)]
    refine go _ _ _ ?_
    unfold mayI
    have : nm (L (x.f0 ++ (⟨#[47]⟩ : ByteArray))) = false := by
      rw [L_append]; exact name_slash m1
    rw [show nm (Go.Proofs.YtnbcmmgkdpekjaaDoor.Pa.L (x.f0 ++ (⟨#[47]⟩ : ByteArray))) = false from this]; rfl
  rw [if_neg q0]
  by_cases q1 : q = 1
  · rw [if_pos q1]
    refine go _ _ _ ?_
    unfold mayI
    rw [twice, Bool.false_and, Bool.and_false]
  rw [if_neg q1]
  by_cases q2 : q = 2
  · rw [if_pos q2]
    refine go _ _ _ ?_
    unfold mayI
    rw [down, Bool.false_and, Bool.and_false]
  rw [if_neg q2]
  by_cases q3 : q = 3
  · rw [if_pos q3]
    refine go _ _ _ ?_
    unfold mayI
    rw [no_tree, Bool.and_false, Bool.and_false]
  rw [if_neg q3]
  by_cases q4 : q = 4
  · rw [if_pos q4, if_pos (show x.f2.length < 3518437208883 by omega)]
    refine go _ _ _ ?_
    unfold mayI
    rw [root_again x.f2 _ rfl h0, Bool.and_false, Bool.and_false]
  rw [if_neg q4]
  obtain ⟨u', h1, h2⟩ := grow_l0 x.f0 x.f1 x.f2 x.f0 x.f1 24 0 19999 (([(⟨(⟨#[]⟩ : ByteArray), 1, (⟨#[]⟩ : ByteArray)⟩ : Nd)] : List Nd)) rfl (by omega) (by simp)
  refine h1.trans (j2_f hm (by omega) (by omega) ?_ _ (by omega))
  unfold mayI
  rw [too_great u' (by rw [h2, List.length_singleton]; omega), Bool.and_false, Bool.and_false]
end Go.Proofs.YtnbcmmgkdpekjaaDoor.Pure
