/- Which items may be, and which are the same: the printed functions as plain ones. -/
import Derived.Test.YtnbcmmgkdpekjaaDoorItTh
import Derived.Test.YtnbcmmgkdpekjaaDoorTreeUp
import Derived.Test.YtnbcmmgkdpekjaaDoorPaRef
namespace Go.Proofs.YtnbcmmgkdpekjaaDoor.ItMay
open Go.RowKit Go.Proofs.YtnbcmmgkdpekjaaDoorX Go.Proofs.YtnbcmmgkdpekjaaDoorW.PrintWords Go.Proofs.YtnbcmmgkdpekjaaDoorW.PrintLast Go.Proofs.YtnbcmmgkdpekjaaDoorW.PrintMore Go.Proofs.YtnbcmmgkdpekjaaDoor.P Go.Proofs.YtnbcmmgkdpekjaaDoor.Pa Go.Proofs.YtnbcmmgkdpekjaaDoor.PaTh Go.Proofs.YtnbcmmgkdpekjaaDoor.TreeTh Go.Proofs.YtnbcmmgkdpekjaaDoor.TreeUp
open Go.Proofs.YtnbcmmgkdpekjaaDoor.ItTh (nm name_f hash_f awake_f)
set_option linter.unusedVariables false
set_option linter.unusedSimpArgs false
abbrev It := S34
def ris (l : List ByteArray) : Nat → Nat → Bool
  | 0, _ => true
  | f + 1, j => nm (Go.Proofs.YtnbcmmgkdpekjaaDoor.ItTh.L (l.getD j ByteArray.empty)) && (if 0 < j then Op.bytesLess (l.getD (j - 1) ByteArray.empty).toList (l.getD j ByteArray.empty).toList && ris l f (j + 1) else ris l f (j + 1))
theorem rd_D (l : List ByteArray) (j : Nat) : rdOf ByteArray.empty l (j : Int) = l.getD j ByteArray.empty := by unfold rdOf; rw [Int.toNat_natCast]
theorem rising_l0 (l : List ByteArray) (hl : l.length ≤ 8) : ∀ (f j k : Nat), j + f = l.length → f + 1 < k → item_rising.l0 k l l (l.length : Int) (j : Int) = some (ris l f j) := by
  intro f
  induction f with
  | zero =>
    intro j k hj hk
    obtain ⟨k, rfl⟩ : ∃ m, k = m + 1 := ⟨k - 1, by omega⟩
    rw [item_rising.l0, if_neg (by omega)]; rfl
  | succ f ih =>
    intro j k hj hk
    obtain ⟨k, rfl⟩ : ∃ m, k = m + 1 := ⟨k - 1, by omega⟩
    have hn := ih (j + 1) k (by omega) (by omega)
    rw [item_rising.l0, if_pos (by omega), if_pos (by omega), if_pos (by omega), name_f k (by omega), some_bind, w_one j (by omega), hn, rd_D, ris]
    cases nm (Go.Proofs.YtnbcmmgkdpekjaaDoor.ItTh.L (l.getD j ByteArray.empty))
    · rw [if_neg (by simp)]; rfl
    rw [if_pos rfl, Bool.true_and]
    by_cases h0 : 0 < j
    · rw [if_pos (by omega), if_pos h0, show wrap64 ((j : Int) - 1) = ((j - 1 : Nat) : Int) from by rw [wrap_in (by omega) (by omega)]; omega, if_pos (by omega), if_pos (by omega), rd_D]
      cases Op.bytesLess (l.getD (j - 1) ByteArray.empty).toList (l.getD j ByteArray.empty).toList <;> rfl
    · rw [if_neg (by omega), if_neg h0]
def risAll (l : List ByteArray) : Bool := decide (l.length ≤ 8) && ris l l.length 0
theorem rising_f (l : List ByteArray) (h : l.length ≤ 8) (k : Nat) (hk : 20 ≤ k) : item_rising.f k l = some (risAll l) := by
  unfold item_rising.f risAll
  rw [decide_eq_true h, Bool.true_and]
  exact rising_l0 l h l.length 0 k (by omega) (by omega)
theorem filter_l0 (pf : Nat → ByteArray → Int → ByteArray → Option Bool) (q : Nd → Bool) (K : Nat) (hq : ∀ k n, K ≤ k → pf k n.f0 n.f1 n.f2 = some (q n)) (t : List Nd) (ht : t.length ≤ 1000) :
    ∀ (f j k : Nat) (out : List Nd), j + f = t.length → K + f < k → out.length ≤ j → tree_FilterG.l0 pf k out t (t.length : Int) (j : Int) = some (out ++ (t.drop j).filter q) := by
  intro f
  induction f with
  | zero =>
    intro j k out hj hk ho
    obtain ⟨k, rfl⟩ : ∃ m, k = m + 1 := ⟨k - 1, by omega⟩
    rw [tree_FilterG.l0, if_neg (by omega), List.drop_of_length_le (by omega), List.filter_nil, List.append_nil]
  | succ f ih =>
    intro j k out hj hk ho
    obtain ⟨k, rfl⟩ : ∃ m, k = m + 1 := ⟨k - 1, by omega⟩
    rw [tree_FilterG.l0, if_pos (by omega), if_pos (by omega), if_pos (by omega), rdN, hq k _ (by omega), some_bind, w_one j (by omega), List.drop_eq_getElem_cons (show j < t.length by omega), ← at_lt t j (by omega), List.filter_cons]
    cases q (at_ t j)
    · rw [if_neg (by simp), if_neg (by simp), ih (j + 1) k out (by omega) (by omega) (by omega)]
    · rw [if_pos rfl, if_pos rfl, if_pos (by omega), Nd_eta, ih (j + 1) k _ (by omega) (by omega) (by simp; omega), List.append_assoc]
      rfl
theorem filter_f (pf : Nat → ByteArray → Int → ByteArray → Option Bool) (q : Nd → Bool) (K : Nat) (hq : ∀ k n, K ≤ k → pf k n.f0 n.f1 n.f2 = some (q n)) (t : List Nd) (ht : t.length ≤ 1000) (k : Nat) (hk : K + 1001 ≤ k) : tree_FilterG.f pf k t = some (t.filter q) := by
  unfold tree_FilterG.f
  have := filter_l0 pf q K hq t ht t.length 0 k [] (by omega) (by omega) (by simp)
  rw [List.drop_zero, List.nil_append] at this
  exact this
def sm (n : Nd) : Bool := decide (n.f0.size ≤ 120) && decide ((split (L n.f0)).length ≤ 8)
theorem small_f (n : Nd) (k : Nat) (hk : 400 ≤ k) : item_small.f k n.f0 n.f1 n.f2 = some (sm n) := by
  unfold item_small.f sm
  by_cases h : n.f0.size ≤ 120
  · rw [if_pos (by omega), split_f _ k (by omega), some_bind, List.length_map, decide_eq_true h, Bool.true_and]
    refine congrArg some ?_
    by_cases h2 : (split (L n.f0)).length ≤ 8
    · rw [decide_eq_true h2, decide_eq_true (by omega)]
    · rw [decide_eq_false h2, decide_eq_false (by omega)]
  · rw [if_neg (by omega), decide_eq_false h]; rfl
def own (t : List Nd) : Bool := decide (t.length ≤ 24) && (mayT t && t.all sm)
theorem all_filter (q : Nd → Bool) : ∀ t : List Nd, (((t.filter q).length : Int) == (t.length : Int)) = t.all q
  | [] => rfl
  | x :: t => by
    have ih := all_filter q t
    have hle := List.length_filter_le q t
    rw [List.filter_cons, List.all_cons]
    cases hx : q x
    · rw [if_neg (by simp), Bool.false_and, beq_eq_false_iff_ne, List.length_cons]; omega
    · rw [if_pos rfl, Bool.true_and, ← ih, List.length_cons, List.length_cons, Bool.eq_iff_iff, beq_iff_eq, beq_iff_eq]; omega
theorem tree_f (t : List Nd) (k : Nat) (hk : 2000 ≤ k) : item_Tree.f k t = some (own t) := by
  unfold item_Tree.f own
  by_cases h : t.length ≤ 24
  · rw [if_pos (by omega), decide_eq_true h, Bool.true_and, mayT_f t (by omega) k (by omega), some_bind]
    cases mayT t
    · rw [if_neg (by simp)]; rfl
    · unfold tree_Filter.f
      rw [if_pos rfl, filter_f _ sm 400 (fun k n h => small_f n k h) t (by omega) k (by omega), some_bind, all_filter]; rfl
  · rw [if_neg (by omega), decide_eq_false h]; rfl
def mayI (a : ByteArray) (l : List ByteArray) (t : List Nd) : Bool := nm (L a) && (risAll l && own t)
theorem mayI_f (a : ByteArray) (l : List ByteArray) (t : List Nd) (k : Nat) (hk : 9000 ≤ k) : item_May.f k a l t = some (mayI a l t) := by
  unfold item_May.f mayI
  rw [name_f k (by omega), some_bind]
  show (if nm (L a) = true then _ else _) = _
  cases nm (L a)
  · rw [if_neg (by simp)]; rfl
  rw [if_pos rfl, Bool.true_and]
  by_cases h : l.length ≤ 8
  · rw [if_pos (by omega), rising_f l h k (by omega), some_bind, tree_f t k (by omega), some_bind]
    cases risAll l <;> rfl
  · rw [if_neg (by omega)]
    unfold risAll
    rw [decide_eq_false h]; rfl
theorem eqN_l0 (a b : List Nd) (hab : a.length = b.length) (ha : a.length ≤ 1000000) : ∀ (f j k : Nat), j + f = a.length → f < k → api_Node_48.l0 k a b (a.length : Int) (j : Int) = some (sameN (a.drop j) (b.drop j)) := by
  intro f
  induction f with
  | zero =>
    intro j k hj hk
    obtain ⟨k, rfl⟩ : ∃ m, k = m + 1 := ⟨k - 1, by omega⟩
    rw [api_Node_48.l0, if_neg (by omega), List.drop_of_length_le (by omega), List.drop_of_length_le (by omega)]; rfl
  | succ f ih =>
    intro j k hj hk
    obtain ⟨k, rfl⟩ : ∃ m, k = m + 1 := ⟨k - 1, by omega⟩
    rw [api_Node_48.l0, if_pos (by omega), if_pos (by omega), if_pos (by omega), if_pos (by omega), rdN, rdN, w_one j (by omega), List.drop_eq_getElem_cons (show j < a.length by omega), List.drop_eq_getElem_cons (show j < b.length by omega), sameN, ← at_lt a j (by omega), ← at_lt b j (by omega), ih (j + 1) k (by omega) (by omega), toL, toL, toL, toL]
    have he : (!(L (at_ a j).f0 == L (at_ b j).f0) || (!((at_ a j).f1 == (at_ b j).f1) || !(L (at_ a j).f2 == L (at_ b j).f2))) = !eqN (at_ a j) (at_ b j) := by
      unfold eqN
      rw [beqD, beqD, beqD, Bool.not_and, Bool.not_and]
    rw [he]
    cases eqN (at_ a j) (at_ b j) <;> rfl
theorem eqN_f (a b : List Nd) (ha : a.length ≤ 1000000) (k : Nat) (hk : a.length < k) : tree_Same.f k a b = some (sameN a b) := by
  unfold tree_Same.f api_Node_48.f
  by_cases h : (a.length : Int) = (b.length : Int)
  · rw [if_pos h, show (0 : Int) = ((0 : Nat) : Int) from rfl, eqN_l0 a b (by omega) ha a.length 0 k (by omega) hk]; rfl
  · rw [if_neg h]
    refine congrArg some (Eq.symm ?_)
    cases hs : sameN a b
    · rfl
    · exact absurd (by rw [(sameN_iff a b).1 hs]) h
theorem eqT_l0 (a b : List ByteArray) (hab : a.length = b.length) (ha : a.length ≤ 1000000) : ∀ (f j k : Nat), j + f = a.length → f < k → slices_Equal_string_string.l0 k a b (a.length : Int) (j : Int) = some (decide (a.drop j = b.drop j)) := by
  intro f
  induction f with
  | zero =>
    intro j k hj hk
    obtain ⟨k, rfl⟩ : ∃ m, k = m + 1 := ⟨k - 1, by omega⟩
    rw [slices_Equal_string_string.l0, if_neg (by omega), List.drop_of_length_le (by omega), List.drop_of_length_le (by omega)]
    rfl
  | succ f ih =>
    intro j k hj hk
    obtain ⟨k, rfl⟩ : ∃ m, k = m + 1 := ⟨k - 1, by omega⟩
    have i1 := ih (j + 1) k (by omega) (by omega)
    have e : ∀ z : Option Bool, z = some (decide (a.drop (j + 1) = b.drop (j + 1))) → (if L a[j] = L b[j] then z else some false) = some (decide (a[j] :: a.drop (j + 1) = b[j] :: b.drop (j + 1))) := by
      rintro z rfl
      by_cases h : L a[j] = L b[j]
      · rw [if_pos h, L_inj h]
        by_cases h2 : a.drop (j + 1) = b.drop (j + 1)
        · rw [decide_eq_true h2, decide_eq_true (by rw [h2])]
        · rw [decide_eq_false h2, decide_eq_false (fun h3 => h2 (List.cons.inj h3).2)]
      · rw [if_neg h, decide_eq_false (fun h3 => h (congrArg L (List.cons.inj h3).1))]
    rw [List.drop_eq_getElem_cons (show j < a.length by omega), List.drop_eq_getElem_cons (show j < b.length by omega)]
    rw [slices_Equal_string_string.l0, if_pos (by omega), if_pos (by omega), if_pos (by omega), if_pos (by omega), rd_L _ _ (by omega), rd_L _ _ (by omega), w_one j (by omega), toL, toL]
    exact e _ i1
theorem eqT_f (a b : List ByteArray) (ha : a.length ≤ 1000000) (k : Nat) (hk : a.length < k) : slices_Equal_string_string.f k a b = some (decide (a = b)) := by
  unfold slices_Equal_string_string.f
  by_cases h : a.length = b.length
  · rw [if_pos (by omega)]
    exact eqT_l0 a b h ha a.length 0 k (by omega) hk
  · rw [if_neg (by omega), decide_eq_false (fun e => h (by rw [e]))]
def sameI (a : ByteArray) (l : List ByteArray) (t : List Nd) (b : ByteArray) (m : List ByteArray) (u : List Nd) : Bool := decide (L a = L b) && (decide (l = m) && sameN t u)
theorem sameI_f (a : ByteArray) (l : List ByteArray) (t : List Nd) (b : ByteArray) (m : List ByteArray) (u : List Nd) (hl : l.length ≤ 1000) (ht : t.length ≤ 1000) (k : Nat) (hk : 2000 ≤ k) : item_Same.f k a l t b m u = some (sameI a l t b m u) := by
  unfold item_Same.f sameI
  rw [toL, toL, eqT_f l m (by omega) k (by omega), eqN_f t u (by omega) k (by omega)]
  by_cases h : L a = L b
  · rw [if_pos h, decide_eq_true h]
    by_cases h2 : l = m
    · rw [decide_eq_true h2]; rfl
    · rw [decide_eq_false h2]; rfl
  · rw [if_neg h, decide_eq_false h]; rfl
theorem own_f (a : ByteArray) (l : List ByteArray) (t : List Nd) (hl : l.length ≤ 1000) (ht : t.length ≤ 1000) : item_Own.f a l t = some (a, l, t) := by
  unfold item_Own.f slices_Clone_string_string.f api_Node_29.f
  rw [some_bind, if_pos (by simp only [List.length_nil]; omega), some_bind, some_bind, if_pos (by simp only [List.length_nil]; omega), some_bind]; rfl
theorem rdI (xs : List It) (i : Nat) : rd_T34 xs (i : Int) = xs.getD i z34 := by unfold rd_T34; rw [Int.toNat_natCast]
def gr (x : It) : Bool := decide (100 < x.f0.size) || (greatX x.f1 12 100 || great x.f2 30)
theorem great_l0 (l : List It) (hl : l.length ≤ 10) (hx : ∀ x ∈ l, x.f2.length ≤ 9223372036854775807) : ∀ (f j k : Nat), j + f = l.length → 2200 + 2 * f < k → hogsheadlaw0_GreatItems.l0 k l (j : Int) = some ((l.drop j).any gr) := by
  intro f
  induction f with
  | zero =>
    intro j k hj hk
    obtain ⟨k, rfl⟩ : ∃ m, k = m + 2 := ⟨k - 2, by omega⟩
    rw [hogsheadlaw0_GreatItems.l0, if_neg (by omega), hogsheadlaw0_GreatItems.j1, if_neg (by simp), decide_eq_false (by omega), List.drop_of_length_le (by omega)]; rfl
  | succ f ih =>
    intro j k hj hk
    obtain ⟨k, rfl⟩ : ∃ m, k = m + 2 := ⟨k - 2, by omega⟩
    have hjl : j < l.length := by omega
    have e : l.getD j z34 = l[j] := by rw [List.getD_eq_getElem?_getD, List.getElem?_eq_getElem hjl]; rfl
    rw [hogsheadlaw0_GreatItems.l0, if_pos (by omega), decide_eq_true (show (l.length : Int) ≤ 10 by omega), hogsheadlaw0_GreatItems.j1, if_pos rfl, if_pos (by omega), if_pos (by omega), rdI, e, w_one j (by omega), ih (j + 1) k (by omega) (by omega), List.drop_eq_getElem_cons hjl, List.any_cons]
    unfold gr
    by_cases h1 : 100 < l[j].f0.size
    · rw [if_pos (by omega), decide_eq_true h1]; rfl
    rw [if_neg (by omega), decide_eq_false h1, Bool.false_or, show (12 : Int) = ((12 : Nat) : Int) from rfl, show (100 : Int) = ((100 : Nat) : Int) from rfl, greatX_f _ 12 100 (by omega) k (by omega), some_bind, show (30 : Int) = ((30 : Nat) : Int) from rfl, great_f _ 30 (by omega) (hx _ (List.getElem_mem hjl)) k (by omega), some_bind]
    cases greatX l[j].f1 12 100
    · cases great l[j].f2 30 <;> rfl
    · rfl
end Go.Proofs.YtnbcmmgkdpekjaaDoor.ItMay
