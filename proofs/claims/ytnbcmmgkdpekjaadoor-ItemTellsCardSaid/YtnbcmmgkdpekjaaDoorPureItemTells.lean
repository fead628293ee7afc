/- Names of items, in plain words: what item.Name and item.Hash come to. -/
import Derived.Test.YtnbcmmgkdpekjaaDoorPx
import Derived.Test.YtnbcmmgkdpekjaaDoorPaRef
import Derived.Test.YtnbcmmgkdpekjaaDoorRefTree
namespace Go.Proofs.YtnbcmmgkdpekjaaDoor.ItTh
open Go.RowKit Go.Proofs.YtnbcmmgkdpekjaaDoorX Go.Proofs.YtnbcmmgkdpekjaaDoorW.PrintWords Go.Proofs.YtnbcmmgkdpekjaaDoorW.PrintLast Go.Proofs.YtnbcmmgkdpekjaaDoorW.PrintMore Go.Proofs.YtnbcmmgkdpekjaaDoor.P Go.Proofs.YtnbcmmgkdpekjaaDoor.Bs
set_option linter.unusedVariables false
set_option linter.unusedSimpArgs false
abbrev signs : ByteArray := ⟨#[48, 49, 50, 51, 52, 53, 54, 55, 56, 57, 97, 98, 99, 100, 102, 103, 104, 105, 106, 107, 108, 109, 110, 112, 113, 114, 115, 118, 119, 120, 121, 122]⟩
abbrev lets : ByteArray := ⟨#[48, 49, 50, 51, 52, 53, 54, 55, 56, 57, 97, 98, 99, 100, 101, 102, 103, 104, 105, 106, 107, 108, 109, 110, 111, 112, 113, 114, 115, 116, 117, 118, 119, 120, 121, 122]⟩
abbrev more : ByteArray := ⟨#[48, 49, 50, 51, 52, 53, 54, 55, 56, 57, 97, 98, 99, 100, 101, 102, 103, 104, 105, 106, 107, 108, 109, 110, 111, 112, 113, 114, 115, 116, 117, 118, 119, 120, 121, 122, 46, 43, 95, 45]⟩
def L (s : ByteArray) : List UInt8 := s.data.toList
theorem L_inj {a b : ByteArray} (h : L a = L b) : a = b := ByteArray.ext (Array.ext' h)
theorem toL (s : ByteArray) : s.toList = L s := ByteArray.toList_eq s
theorem L_append (a b : ByteArray) : L (a ++ b) = L a ++ L b := by simp [L]
theorem L_extract (s : ByteArray) (a b : Nat) : L (s.extract a b) = ((L s).take b).drop a := by
  simp only [L, ByteArray.data_extract, Array.toList_extract, List.extract_eq_take_drop]
  rw [List.drop_take]
theorem size_L (s : ByteArray) : s.size = (L s).length := rfl
def okc (a : ByteArray) (c : UInt8) : Bool := !outB a c
/-- What stands behind the hash of a name. -/
def tailOk (r : List UInt8) : Bool := (r.head? == some 45) && ((r.drop 1).take 1).all (okc lets) && (r.drop 2).all (okc more)
def nm (l : List UInt8) : Bool := decide (10 ≤ l.length) && decide (l.length ≤ 30) && (l.take 8).all (okc signs) && tailOk (l.drop 8)
theorem all_f (a b : ByteArray) (h : a.size ≤ 9223372036854775807) : item_all.f a b = some ((L a).all (okc b)) := by
  unfold item_all.f
  rw [if_pos h, List.not_any_eq_all_not]; rfl
theorem at8 (s : ByteArray) (h : 8 < s.size) : ((bt s 8) != 45) = !((L s).drop 8).head?.any (· == 45) := by
  have h' : 8 < (L s).length := h
  have e : bt s 8 = (((L s)[8]'h').toNat : Int) := by
    unfold bt
    rw [dif_pos (show (8 : Int).toNat < s.size from h)]
    rfl
  rw [e, List.head?_drop, List.getElem?_eq_getElem h']
  simp only [Option.any_some]
  by_cases q : (L s)[8]'h' = 45
  · rw [q]; rfl
  · have q' : ¬ (((L s)[8]'h').toNat : Int) = 45 := fun e => q (UInt8.toNat.inj (by rw [show (45 : UInt8).toNat = 45 from rfl]; exact_mod_cast e))
    rw [beq_eq_false_iff_ne.2 q]
    exact bne_iff_ne.2 q'
theorem name_f (k : Nat) (hk : 1 ≤ k) (s : ByteArray) : item_Name.f k s = some (nm (L s)) := by
  obtain ⟨k, rfl⟩ : ∃ m, k = m + 1 := ⟨k - 1, by omega⟩
  unfold item_Name.f nm
  by_cases h1 : (s.size : Int) < 10
  · rw [if_pos h1, item_Name.j0, if_pos rfl, decide_eq_false (show ¬ 10 ≤ (L s).length by have := size_L s; omega)]; rfl
  rw [if_neg h1]
  have hl := size_L s
  by_cases h2 : (s.size : Int) > 30
  · rw [if_pos h2, item_Name.j0, if_pos rfl, decide_eq_false (show ¬ (L s).length ≤ 30 by omega)]; simp
  rw [if_neg h2, if_pos (by omega), at8 s (by omega), decide_eq_true (show 10 ≤ (L s).length by omega), decide_eq_true (show (L s).length ≤ 30 by omega)]
  unfold tailOk
  have h8 : 8 < (L s).length := by omega
  have e8 : (s.extract 0 8).size ≤ 9223372036854775807 := by rw [ByteArray.size_extract]; omega
  have e9 : (s.extract 9 10).size ≤ 9223372036854775807 := by rw [ByteArray.size_extract]; omega
  have e10 : (s.extract 10 s.size).size ≤ 9223372036854775807 := by rw [ByteArray.size_extract]; omega
  have f8 : L (s.extract 0 8) = (L s).take 8 := by rw [L_extract]; rfl
  have f9 : L (s.extract 9 10) = (((L s).drop 8).drop 1).take 1 := by rw [L_extract, List.drop_drop, List.drop_take]
  have f10 : L (s.extract 10 s.size) = ((L s).drop 8).drop 2 := by rw [L_extract, List.drop_drop, List.take_of_length_le (by omega)]
  rw [item_Name.j0]
  by_cases c : ((L s).drop 8).head? = some 45
  · rw [c]
    simp only [Option.any_some, beq_self_eq_true, Bool.not_true, Bool.true_and]
    rw [if_neg (by simp), if_pos (by omega), if_pos (by omega), all_f _ _ e8, some_bind, f8]
    cases c1 : ((L s).take 8).all (okc signs) with
    | false => rw [if_neg (by simp)]; rfl
    | true =>
      rw [if_pos rfl, if_pos (by omega), if_pos (by omega), all_f _ _ e9, some_bind, f9]
      cases c2 : ((((L s).drop 8).drop 1).take 1).all (okc lets) with
      | false => rw [if_neg (by simp)]; rfl
      | true => rw [if_pos rfl, all_f _ _ e10, some_bind, f10]; rfl
  · rw [beq_eq_false_iff_ne.2 c]
    have : ((L s).drop 8).head?.any (· == 45) = false := by
      cases q : ((L s).drop 8).head? with
      | none => rfl
      | some x => rw [q] at c; simp only [Option.any_some]; exact beq_eq_false_iff_ne.2 (fun e => c (by rw [e]))
    rw [this]
    simp
theorem hash_f (k : Nat) (hk : 1 ≤ k) (s : ByteArray) : item_Hash.f k s = some (if nm (L s) = true then s.extract 0 8 else ⟨#[]⟩) := by
  unfold item_Hash.f
  rw [name_f k hk, some_bind]
  by_cases h : nm (L s) = true
  · rw [if_pos h, if_pos h]
    have : 10 ≤ (L s).length := by
      unfold nm at h
      simp only [Bool.and_eq_true, decide_eq_true_eq] at h
      exact h.1.1.1
    have hl := size_L s
    rw [if_pos (by omega), if_pos (by omega)]
  · rw [if_neg h, if_neg h]
theorem awake_300 : hogsheadlaw7_awake.f 300 = some true := by decide +kernel
theorem awake_f (k : Nat) (hk : 300 ≤ k) : hogsheadlaw7_awake.f k = some true := at_rounds (g := fun k => hogsheadlaw7_awake.f k) hogsheadlaw7_awake.mono hk awake_300
theorem nm_len {l : List UInt8} (h : nm l = true) : 10 ≤ l.length ∧ l.length ≤ 30 ∧ (l.take 8).all (okc signs) = true ∧ tailOk (l.drop 8) = true := by
  unfold nm at h
  simp only [Bool.and_eq_true, decide_eq_true_eq] at h
  exact ⟨h.1.1.1, h.1.1.2, h.1.2, h.2⟩
end Go.Proofs.YtnbcmmgkdpekjaaDoor.ItTh
/- Names, as the plain reference tells them: they are those of item. -/
namespace Go.Proofs.YtnbcmmgkdpekjaaDoor.RefName
open Go.RowKit Go.Proofs.YtnbcmmgkdpekjaaDoorX Go.Proofs.YtnbcmmgkdpekjaaDoorW.PrintWords Go.Proofs.YtnbcmmgkdpekjaaDoorW.PrintLast Go.Proofs.YtnbcmmgkdpekjaaDoorW.PrintMore Go.Proofs.YtnbcmmgkdpekjaaDoor.P Go.Proofs.YtnbcmmgkdpekjaaDoor.Bs Go.Proofs.YtnbcmmgkdpekjaaDoor.ItTh
set_option linter.unusedVariables false
set_option linter.unusedSimpArgs false
theorem w_one (i : Nat) (h : i ≤ 1000000000000) : wrap64 ((i : Int) + 1) = ((i + 1 : Nat) : Int) := by rw [wrap_in (by omega) (by omega)]; omega
theorem rd_L (xs : List ByteArray) (i : Nat) (h : i < xs.length) : rdOf ByteArray.empty xs (i : Int) = xs[i] := by
  unfold rdOf
  rw [Int.toNat_natCast, List.getD_eq_getElem?_getD, List.getElem?_eq_getElem h]; rfl
theorem bt_eq (s : ByteArray) (i : Nat) (h : i < (L s).length) : bt s (i : Int) = (((L s)[i]'h).toNat : Int) := by
  unfold bt
  rw [Int.toNat_natCast, dif_pos (show i < s.size from h)]
  rfl
def inB (a : ByteArray) (c : UInt8) : Bool := (L a).any (· == c)
theorem in_l0 (a : ByteArray) (c : UInt8) (ha : a.size ≤ 1000) : ∀ (f j k : Nat), j + f = a.size → f < k → hogsheadref7_In.l0 k a (c.toNat : Int) (j : Int) = some (((L a).drop j).any (· == c)) := by
  intro f
  induction f with
  | zero =>
    intro j k hj hk
    obtain ⟨k, rfl⟩ : ∃ m, k = m + 1 := ⟨k - 1, by omega⟩
    rw [hogsheadref7_In.l0, if_neg (by omega), List.drop_of_length_le (by have := size_L a; omega)]; rfl
  | succ f ih =>
    intro j k hj hk
    obtain ⟨k, rfl⟩ : ∃ m, k = m + 1 := ⟨k - 1, by omega⟩
    have hjl : j < (L a).length := by have := size_L a; omega
    rw [hogsheadref7_In.l0, if_pos (by omega), if_pos (by omega), bt_eq a j hjl, List.drop_eq_getElem_cons hjl, List.any_cons]
    by_cases e : (L a)[j] = c
    · rw [if_pos (by rw [e]), e, beq_self_eq_true]; rfl
    · rw [if_neg (fun h => e (UInt8.toNat.inj (by exact_mod_cast h))), beq_eq_false_iff_ne.2 e, Bool.false_or, w_one j (by omega)]
      exact ih (j + 1) k (by omega) (by omega)
theorem in_f (a : ByteArray) (c : UInt8) (ha : a.size ≤ 1000) (k : Nat) (hk : 1001 ≤ k) : hogsheadref7_In.f k a (c.toNat : Int) = some (inB a c) := by
  unfold hogsheadref7_In.f
  have := in_l0 a c ha a.size 0 k (by omega) (by omega)
  rw [List.drop_zero] at this
  exact this
abbrev sg : ByteArray := ⟨#[48, 49, 50, 51, 52, 53, 54, 55, 56, 57, 97, 98, 99, 100, 102, 103, 104, 105, 106, 107, 108, 109, 110, 112, 113, 114, 115, 118, 119, 120, 121, 122]⟩
abbrev lt : ByteArray := ⟨#[97, 98, 99, 100, 101, 102, 103, 104, 105, 106, 107, 108, 109, 110, 111, 112, 113, 114, 115, 116, 117, 118, 119, 120, 121, 122, 48, 49, 50, 51, 52, 53, 54, 55, 56, 57]⟩
abbrev mo : ByteArray := ⟨#[46, 43, 95, 45]⟩
theorem byte_all {p : UInt8 → Bool} (h : (List.range 256).all (fun n => p (UInt8.ofNat n)) = true) (c : UInt8) : p c = true := by
  have := List.all_eq_true.1 h c.toNat (List.mem_range.2 (by have := c.toNat_lt; omega))
  rwa [UInt8.ofNat_toNat] at this
set_option maxRecDepth 100000 in
theorem in_sg (c : UInt8) : inB sg c = okc signs c := beq_iff_eq.1 (byte_all (p := fun c => inB sg c == okc signs c) (by decide +kernel) c)
set_option maxRecDepth 100000 in
theorem in_lt (c : UInt8) : inB lt c = okc lets c := beq_iff_eq.1 (byte_all (p := fun c => inB lt c == okc lets c) (by decide +kernel) c)
set_option maxRecDepth 100000 in
theorem in_mo (c : UInt8) : (inB lt c || inB mo c) = okc more c := beq_iff_eq.1 (byte_all (p := fun c => (inB lt c || inB mo c) == okc more c) (by decide +kernel) c)
theorem name_l1 (s : ByteArray) (hs : s.size ≤ 30) : ∀ (f j k : Nat), j + f = s.size → 10 ≤ j → 1010 + f < k → hogsheadref7_Name.l1 k s (j : Int) = some (((L s).drop j).all (okc more)) := by
  intro f
  induction f with
  | zero =>
    intro j k hj h1 hk
    obtain ⟨k, rfl⟩ : ∃ m, k = m + 1 := ⟨k - 1, by omega⟩
    rw [hogsheadref7_Name.l1, if_neg (by omega), List.drop_of_length_le (by have := size_L s; omega)]; rfl
  | succ f ih =>
    intro j k hj h1 hk
    obtain ⟨k, rfl⟩ : ∃ m, k = m + 1 := ⟨k - 1, by omega⟩
    have hjl : j < (L s).length := by have := size_L s; omega
    have hn := ih (j + 1) k (by omega) (by omega) (by omega)
    rw [hogsheadref7_Name.l1, if_pos (by omega), if_pos (by omega), bt_eq s j hjl, in_f _ _ (by decide) k (by omega), some_bind, in_f _ _ (by decide) k (by omega), some_bind, List.drop_eq_getElem_cons hjl, List.all_cons, ← in_mo, w_one j (by omega), hn]
    cases inB lt (L s)[j]
    · rw [if_neg (by simp), if_neg (by omega), Bool.false_or]
      cases inB mo (L s)[j] <;> rfl
    · rw [if_pos rfl]; rfl
theorem name_nine (s : ByteArray) (hs : s.size ≤ 30) (h10 : 10 ≤ s.size) (k : Nat) (hk : 1100 ≤ k) : hogsheadref7_Name.l1 k s 9 = some ((((L s).drop 9).take 1).all (okc lets) && ((L s).drop 10).all (okc more)) := by
  obtain ⟨k, rfl⟩ : ∃ m, k = m + 1 := ⟨k - 1, by omega⟩
  have hjl : 9 < (L s).length := by have := size_L s; omega
  have hn := name_l1 s hs (s.size - 10) 10 k (by omega) (by omega) (by omega)
  have e9 : bt s 9 = (((L s)[9]'hjl).toNat : Int) := bt_eq s 9 hjl
  rw [hogsheadref7_Name.l1, if_pos (by omega), if_pos (by omega), e9, in_f _ _ (by decide) k (by omega), some_bind, List.drop_eq_getElem_cons hjl, List.take_succ_cons, List.take_zero, List.all_cons, List.all_nil, Bool.and_true, ← in_lt, show wrap64 ((9 : Int) + 1) = ((10 : Nat) : Int) from w_one 9 (by omega), hn]
  cases inB lt (L s)[9]
  · rw [if_neg (by simp), if_pos rfl]; rfl
  · rw [if_pos rfl]; rfl
theorem name_l0 (s : ByteArray) (hs : s.size ≤ 30) (h10 : 10 ≤ s.size) : ∀ (f j k : Nat), j + f = 8 → 1110 + f < k → hogsheadref7_Name.l0 k s (j : Int) = some ((((L s).take 8).drop j).all (okc signs) && ((((L s).drop 9).take 1).all (okc lets) && ((L s).drop 10).all (okc more))) := by
  intro f
  induction f with
  | zero =>
    intro j k hj hk
    obtain ⟨k, rfl⟩ : ∃ m, k = m + 1 := ⟨k - 1, by omega⟩
    rw [hogsheadref7_Name.l0, if_neg (by omega), name_nine s hs h10 k (by omega), show List.drop j ((L s).take 8) = [] from List.drop_of_length_le (by rw [List.length_take]; omega)]; rfl
  | succ f ih =>
    intro j k hj hk
    obtain ⟨k, rfl⟩ : ∃ m, k = m + 1 := ⟨k - 1, by omega⟩
    have hl := size_L s
    have hjl : j < (L s).length := by omega
    have hjt : j < ((L s).take 8).length := by rw [List.length_take]; omega
    have hn := ih (j + 1) k (by omega) (by omega)
    rw [hogsheadref7_Name.l0, if_pos (by omega), if_pos (by omega), if_pos (by omega), bt_eq s j hjl, in_f _ _ (by decide) k (by omega), some_bind, List.drop_eq_getElem_cons hjt, List.all_cons, List.getElem_take, ← in_sg, w_one j (by omega), hn]
    cases inB sg (L s)[j]
    · rw [if_neg (by simp)]; rfl
    · rw [if_pos rfl]; rfl
theorem refName_f (s : ByteArray) (k : Nat) (hk : 1200 ≤ k) : hogsheadref7_Name.f k s = some (nm (L s)) := by
  obtain ⟨k, rfl⟩ : ∃ m, k = m + 1 := ⟨k - 1, by omega⟩
  unfold hogsheadref7_Name.f nm
  have hl := size_L s
  by_cases h1 : (s.size : Int) < 10
  · rw [if_pos h1, hogsheadref7_Name.j0, if_pos rfl, decide_eq_false (show ¬ 10 ≤ (L s).length by omega)]; rfl
  rw [if_neg h1]
  by_cases h2 : (s.size : Int) > 30
  · rw [if_pos h2, hogsheadref7_Name.j0, if_pos rfl, decide_eq_false (show ¬ (L s).length ≤ 30 by omega)]; simp
  rw [if_neg h2, if_pos (by omega), at8 s (by omega), decide_eq_true (show 10 ≤ (L s).length by omega), decide_eq_true (show (L s).length ≤ 30 by omega)]
  unfold tailOk
  rw [hogsheadref7_Name.j0]
  by_cases c : ((L s).drop 8).head? = some 45
  · rw [c]
    simp only [Option.any_some, beq_self_eq_true, Bool.not_true, Bool.true_and]
    rw [if_neg (by simp)]
    have := name_l0 s (by omega) (by omega) 8 0 k (by omega) (by omega)
    rw [List.drop_zero] at this
    rw [List.drop_drop, List.drop_drop]
    exact this
  · rw [beq_eq_false_iff_ne.2 c]
    have : ((L s).drop 8).head?.any (· == 45) = false := by
      cases q : ((L s).drop 8).head? with
      | none => rfl
      | some x => rw [q] at c; simp only [Option.any_some]; exact beq_eq_false_iff_ne.2 (fun e => c (by rw [e]))
    rw [this]
    simp
theorem refHash_f (s : ByteArray) (k : Nat) (hk : 1200 ≤ k) : hogsheadref7_Hash.f k s = some (if nm (L s) = true then s.extract 0 8 else ⟨#[]⟩) := by
  unfold hogsheadref7_Hash.f
  rw [refName_f s k hk, some_bind]
  by_cases h : nm (L s) = true
  · rw [if_pos h, if_pos h]
    have := (nm_len h).1
    have hl := size_L s
    rw [if_pos (by omega), if_pos (by omega)]
  · rw [if_neg h, if_neg h]
/-- Are texts, from one on, names, each above the one ahead? -/
def ris (l : List ByteArray) : Nat → Nat → Bool
  | 0, _ => true
  | f + 1, j => nm (L (l.getD j ByteArray.empty)) && (if 0 < j then Op.bytesLess (l.getD (j - 1) ByteArray.empty).toList (l.getD j ByteArray.empty).toList && ris l f (j + 1) else ris l f (j + 1))
theorem rd_D (l : List ByteArray) (j : Nat) : rdOf ByteArray.empty l (j : Int) = l.getD j ByteArray.empty := by unfold rdOf; rw [Int.toNat_natCast]
theorem rising_l0 (l : List ByteArray) (hl : l.length ≤ 8) : ∀ (f j k : Nat), j + f = l.length → f + 1 < k → item_rising.l0 k l l (l.length : Int) (j : Int) = some (ris l f j) := by
  intro f
  induction f with
  | zero =>
    intro j k hj hk
    obtain ⟨k, rfl⟩ : ∃ m, k = m + 1 := ⟨k - 1, by omega⟩
    rw [item_rising.l0, if_neg (by omega)]; rfl
  | succ f ih =>
    intro j k hj hk
    obtain ⟨k, rfl⟩ : ∃ m, k = m + 1 := ⟨k - 1, by omega⟩
    have hn := ih (j + 1) k (by omega) (by omega)
    rw [item_rising.l0, if_pos (by omega), if_pos (by omega), if_pos (by omega), name_f k (by omega), some_bind, w_one j (by omega), hn, rd_D, ris]
    cases nm (L (l.getD j ByteArray.empty))
    · rw [if_neg (by simp)]; rfl
    rw [if_pos rfl, Bool.true_and]
    by_cases h0 : 0 < j
    · rw [if_pos (by omega), if_pos h0, show wrap64 ((j : Int) - 1) = ((j - 1 : Nat) : Int) from by rw [wrap_in (by omega) (by omega)]; omega, if_pos (by omega), if_pos (by omega), rd_D]
      cases Op.bytesLess (l.getD (j - 1) ByteArray.empty).toList (l.getD j ByteArray.empty).toList <;> rfl
    · rw [if_neg (by omega), if_neg h0]
theorem names_l0 (l : List ByteArray) (hl : l.length ≤ 8) : ∀ (f j k : Nat), j + f = l.length → 2 * f + 1210 < k → hogsheadref7_Names.l0 k l (j : Int) = some (ris l f j) := by
  intro f
  induction f with
  | zero =>
    intro j k hj hk
    obtain ⟨k, rfl⟩ : ∃ m, k = m + 2 := ⟨k - 2, by omega⟩
    rw [hogsheadref7_Names.l0, if_neg (by omega), hogsheadref7_Names.j1, if_neg (by simp), decide_eq_true (show (l.length : Int) ≤ 8 by omega)]; rfl
  | succ f ih =>
    intro j k hj hk
    obtain ⟨k, rfl⟩ : ∃ m, k = m + 2 := ⟨k - 2, by omega⟩
    have hn := ih (j + 1) k (by omega) (by omega)
    rw [hogsheadref7_Names.l0, if_pos (by omega), decide_eq_true (show (l.length : Int) ≤ 8 by omega), hogsheadref7_Names.j1, if_pos rfl, if_pos (by omega), if_pos (by omega), refName_f _ k (by omega), some_bind, w_one j (by omega), hn, rd_D, ris]
    cases nm (L (l.getD j ByteArray.empty))
    · rw [if_neg (by simp)]; rfl
    rw [if_pos rfl, Bool.true_and]
    by_cases h0 : 0 < j
    · rw [if_pos (by omega), if_pos h0, show wrap64 ((j : Int) - 1) = ((j - 1 : Nat) : Int) from by rw [wrap_in (by omega) (by omega)]; omega, if_pos (by omega), if_pos (by omega), rd_D]
      cases Op.bytesLess (l.getD (j - 1) ByteArray.empty).toList (l.getD j ByteArray.empty).toList <;> rfl
    · rw [if_neg (by omega), if_neg h0]
def risAll (l : List ByteArray) : Bool := decide (l.length ≤ 8) && ris l l.length 0
theorem names_f (l : List ByteArray) (k : Nat) (hk : 1300 ≤ k) : hogsheadref7_Names.f k l = some (risAll l) := by
  unfold hogsheadref7_Names.f risAll
  by_cases h : l.length ≤ 8
  · have := names_l0 l h l.length 0 k (by omega) (by omega)
    rw [decide_eq_true h, Bool.true_and]
    exact this
  · obtain ⟨k, rfl⟩ : ∃ m, k = m + 2 := ⟨k - 2, by omega⟩
    rw [decide_eq_false h, hogsheadref7_Names.l0, if_pos (by omega), decide_eq_false (show ¬ (l.length : Int) ≤ 8 by omega), hogsheadref7_Names.j1, if_neg (by simp), decide_eq_false (show ¬ (l.length : Int) ≤ 8 by omega)]; rfl
theorem rising_f (l : List ByteArray) (h : l.length ≤ 8) (k : Nat) (hk : 20 ≤ k) : item_rising.f k l = some (risAll l) := by
  unfold item_rising.f risAll
  rw [decide_eq_true h, Bool.true_and]
  exact rising_l0 l h l.length 0 k (by omega) (by omega)
end Go.Proofs.YtnbcmmgkdpekjaaDoor.RefName
/- The plain law behind ItemTells. -/
namespace Go.Proofs.YtnbcmmgkdpekjaaDoor.Pure
open Go.RowKit Go.Proofs.YtnbcmmgkdpekjaaDoorX Go.Proofs.YtnbcmmgkdpekjaaDoorW.PrintWords Go.Proofs.YtnbcmmgkdpekjaaDoorW.PrintLast Go.Proofs.YtnbcmmgkdpekjaaDoorW.PrintMore Go.Proofs.YtnbcmmgkdpekjaaDoor.P Go.Proofs.YtnbcmmgkdpekjaaDoor.Pa Go.Proofs.YtnbcmmgkdpekjaaDoor.PaTh Go.Proofs.YtnbcmmgkdpekjaaDoor.TreeTh Go.Proofs.YtnbcmmgkdpekjaaDoor.RefTree
open Go.Proofs.YtnbcmmgkdpekjaaDoor.ItTh (nm name_f hash_f awake_f)
open Go.Proofs.YtnbcmmgkdpekjaaDoor.RefName (refName_f refHash_f names_f rising_f risAll)
set_option linter.unusedVariables false
set_option linter.unusedSimpArgs false
abbrev It := S34
theorem at_m {t : List Nd} {i : Nat} (h : i < t.length) : at_ t i ∈ t := by rw [at_lt t i h]; exact List.getElem_mem h
/-! ### nodes -/
theorem filter_l0 (pf : Nat → ByteArray → Int → ByteArray → Option Bool) (q : Nd → Bool) (K : Nat) (hq : ∀ k n, K ≤ k → pf k n.f0 n.f1 n.f2 = some (q n)) (t : List Nd) (ht : t.length ≤ 1000) :
    ∀ (f j k : Nat) (out : List Nd), j + f = t.length → K + f < k → out.length ≤ j → tree_FilterG.l0 pf k out t (t.length : Int) (j : Int) = some (out ++ (t.drop j).filter q) := by
  intro f
  induction f with
  | zero =>
    intro j k out hj hk ho
    obtain ⟨k, rfl⟩ : ∃ m, k = m + 1 := ⟨k - 1, by omega⟩
    rw [tree_FilterG.l0, if_neg (by omega), List.drop_of_length_le (by omega), List.filter_nil, List.append_nil]
  | succ f ih =>
    intro j k out hj hk ho
    obtain ⟨k, rfl⟩ : ∃ m, k = m + 1 := ⟨k - 1, by omega⟩
    rw [tree_FilterG.l0, if_pos (by omega), if_pos (by omega), if_pos (by omega), rdN, hq k _ (by omega), some_bind, w_one j (by omega), List.drop_eq_getElem_cons (show j < t.length by omega), ← at_lt t j (by omega), List.filter_cons]
    cases q (at_ t j)
    · rw [if_neg (by simp), if_neg (by simp), ih (j + 1) k out (by omega) (by omega) (by omega)]
    · rw [if_pos rfl, if_pos rfl, if_pos (by omega), Nd_eta, ih (j + 1) k _ (by omega) (by omega) (by simp; omega), List.append_assoc]
      rfl
theorem filter_f (pf : Nat → ByteArray → Int → ByteArray → Option Bool) (q : Nd → Bool) (K : Nat) (hq : ∀ k n, K ≤ k → pf k n.f0 n.f1 n.f2 = some (q n)) (t : List Nd) (ht : t.length ≤ 1000) (k : Nat) (hk : K + 1001 ≤ k) : tree_FilterG.f pf k t = some (t.filter q) := by
  unfold tree_FilterG.f
  have := filter_l0 pf q K hq t ht t.length 0 k [] (by omega) (by omega) (by simp)
  rw [List.drop_zero, List.nil_append] at this
  exact this
def sm (n : Nd) : Bool := decide (n.f0.size ≤ 120) && decide ((split (L n.f0)).length ≤ 8)
theorem small_f (n : Nd) (k : Nat) (hk : 400 ≤ k) : item_small.f k n.f0 n.f1 n.f2 = some (sm n) := by
  unfold item_small.f sm
  by_cases h : n.f0.size ≤ 120
  · rw [if_pos (by omega), split_f _ k (by omega), some_bind, List.length_map, decide_eq_true h, Bool.true_and]
    refine congrArg some ?_
    by_cases h2 : (split (L n.f0)).length ≤ 8
    · rw [decide_eq_true h2, decide_eq_true (by omega)]
    · rw [decide_eq_false h2, decide_eq_false (by omega)]
  · rw [if_neg (by omega), decide_eq_false h]; rfl
/-- May a tree be an item's? -/
def own (t : List Nd) : Bool := decide (t.length ≤ 24) && (mayT t && t.all sm)
theorem all_filter (q : Nd → Bool) : ∀ t : List Nd, (((t.filter q).length : Int) == (t.length : Int)) = t.all q
  | [] => rfl
  | x :: t => by
    have ih := all_filter q t
    have hle := List.length_filter_le q t
    rw [List.filter_cons, List.all_cons]
    cases hx : q x
    · rw [if_neg (by simp), Bool.false_and, beq_eq_false_iff_ne, List.length_cons]; omega
    · rw [if_pos rfl, Bool.true_and, ← ih, List.length_cons, List.length_cons, Bool.eq_iff_iff, beq_iff_eq, beq_iff_eq]; omega
theorem tree_f (t : List Nd) (k : Nat) (hk : 2000 ≤ k) : item_Tree.f k t = some (own t) := by
  unfold item_Tree.f own
  by_cases h : t.length ≤ 24
  · rw [if_pos (by omega), decide_eq_true h, Bool.true_and, mayT_f t (by omega) k (by omega), some_bind]
    cases mayT t
    · rw [if_neg (by simp)]; rfl
    · unfold tree_Filter.f
      rw [if_pos rfl, filter_f _ sm 400 (fun k n h => small_f n k h) t (by omega) k (by omega), some_bind, all_filter]; rfl
  · rw [if_neg (by omega), decide_eq_false h]; rfl
theorem refOwn_l0 (t : List Nd) (ht : t.length ≤ 24) : ∀ (f j k : Nat), j + f = t.length → 1500 + f < k → hogsheadref7_Own.l0 k t (j : Int) = some ((t.drop j).all sm) := by
  intro f
  induction f with
  | zero =>
    intro j k hj hk
    obtain ⟨k, rfl⟩ : ∃ m, k = m + 1 := ⟨k - 1, by omega⟩
    rw [hogsheadref7_Own.l0, if_neg (by omega), List.drop_of_length_le (by omega)]; rfl
  | succ f ih =>
    intro j k hj hk
    obtain ⟨k, rfl⟩ : ∃ m, k = m + 1 := ⟨k - 1, by omega⟩
    rw [hogsheadref7_Own.l0, if_pos (by omega), if_pos (by omega), rdN, List.drop_eq_getElem_cons (show j < t.length by omega), ← at_lt t j (by omega), List.all_cons, refSplit_f _ k (by omega), some_bind, w_one j (by omega), ih (j + 1) k (by omega) (by omega), List.length_map]
    unfold sm
    by_cases h1 : (at_ t j).f0.size ≤ 120
    · rw [if_neg (by omega), decide_eq_true h1, Bool.true_and]
      by_cases h2 : (split (L (at_ t j).f0)).length ≤ 8
      · rw [if_neg (by omega), decide_eq_true h2, Bool.true_and]
      · rw [if_pos (by omega), decide_eq_false h2]; rfl
    · rw [if_pos (by omega), decide_eq_false h1]; rfl
theorem refOwn_f (t : List Nd) (k : Nat) (hk : 9000 ≤ k) : hogsheadref7_Own.f k t = some (own t) := by
  obtain ⟨k, rfl⟩ : ∃ m, k = m + 1 := ⟨k - 1, by omega⟩
  unfold hogsheadref7_Own.f own
  by_cases h : t.length ≤ 24
  · rw [if_neg (by omega), decide_eq_true h, Bool.true_and, refMayT_f t (by omega) _ (by omega), some_bind, hogsheadref7_Own.j0]
    cases mayT t
    · rw [if_pos (by simp)]; rfl
    · have := refOwn_l0 t h t.length 0 k (by omega) (by omega)
      rw [List.drop_zero] at this
      rw [if_neg (by simp), Bool.true_and]
      exact this
  · rw [if_pos (by omega), hogsheadref7_Own.j0, if_pos rfl, decide_eq_false h]; rfl
/-! ### which items may be -/
def mayI (a : ByteArray) (l : List ByteArray) (t : List Nd) : Bool := nm (L a) && (risAll l && own t)
theorem mayI_f (a : ByteArray) (l : List ByteArray) (t : List Nd) (k : Nat) (hk : 9000 ≤ k) : item_May.f k a l t = some (mayI a l t) := by
  unfold item_May.f mayI
  rw [name_f k (by omega), some_bind]
  show (if nm (L a) = true then _ else _) = _
  cases nm (L a)
  · rw [if_neg (by simp)]; rfl
  rw [if_pos rfl, Bool.true_and]
  by_cases h : l.length ≤ 8
  · rw [if_pos (by omega), rising_f l h k (by omega), some_bind, tree_f t k (by omega), some_bind]
    cases risAll l <;> rfl
  · rw [if_neg (by omega)]
    unfold risAll
    rw [decide_eq_false h]; rfl
theorem refMayI_f (a : ByteArray) (l : List ByteArray) (t : List Nd) (k : Nat) (hk : 9000 ≤ k) : hogsheadref7_May.f k a l t = some (mayI a l t) := by
  unfold hogsheadref7_May.f mayI
  rw [refName_f a k (by omega), some_bind, names_f l k (by omega), some_bind, refOwn_f t k (by omega), some_bind]
  show (if nm (L a) = true then _ else _) = _
  cases nm (L a)
  · rfl
  · cases risAll l <;> rfl
/-! ### which are the same -/
theorem eqN_l0 (a b : List Nd) (hab : a.length = b.length) (ha : a.length ≤ 1000000) : ∀ (f j k : Nat), j + f = a.length → f < k → api_Node_48.l0 k a b (a.length : Int) (j : Int) = some (sameN (a.drop j) (b.drop j)) := by
  intro f
  induction f with
  | zero =>
    intro j k hj hk
    obtain ⟨k, rfl⟩ : ∃ m, k = m + 1 := ⟨k - 1, by omega⟩
    rw [api_Node_48.l0, if_neg (by omega), List.drop_of_length_le (by omega), List.drop_of_length_le (by omega)]; rfl
  | succ f ih =>
    intro j k hj hk
    obtain ⟨k, rfl⟩ : ∃ m, k = m + 1 := ⟨k - 1, by omega⟩
    rw [api_Node_48.l0, if_pos (by omega), if_pos (by omega), if_pos (by omega), if_pos (by omega), rdN, rdN, w_one j (by omega), List.drop_eq_getElem_cons (show j < a.length by omega), List.drop_eq_getElem_cons (show j < b.length by omega), sameN, ← at_lt a j (by omega), ← at_lt b j (by omega), ih (j + 1) k (by omega) (by omega), toL, toL, toL, toL]
    have he : (!(L (at_ a j).f0 == L (at_ b j).f0) || (!((at_ a j).f1 == (at_ b j).f1) || !(L (at_ a j).f2 == L (at_ b j).f2))) = !eqN (at_ a j) (at_ b j) := by
      unfold eqN
      rw [beqD, beqD, beqD, Bool.not_and, Bool.not_and]
    rw [he]
    cases eqN (at_ a j) (at_ b j) <;> rfl
theorem eqN_f (a b : List Nd) (ha : a.length ≤ 1000000) (k : Nat) (hk : a.length < k) : tree_Same.f k a b = some (sameN a b) := by
  unfold tree_Same.f api_Node_48.f
  by_cases h : (a.length : Int) = (b.length : Int)
  · rw [if_pos h, show (0 : Int) = ((0 : Nat) : Int) from rfl, eqN_l0 a b (by omega) ha a.length 0 k (by omega) hk]; rfl
  · rw [if_neg h]
    refine congrArg some (Eq.symm ?_)
    cases hs : sameN a b
    · rfl
    · exact absurd (by rw [(sameN_iff a b).1 hs]) h
theorem refEq_l0 (a b : List Nd) (hab : a.length = b.length) (ha : a.length ≤ 1000000) : ∀ (f j k : Nat), j + f = a.length → f < k → hogsheadref2_Same.l0 k a b (j : Int) = some (sameN (a.drop j) (b.drop j)) := by
  intro f
  induction f with
  | zero =>
    intro j k hj hk
    obtain ⟨k, rfl⟩ : ∃ m, k = m + 1 := ⟨k - 1, by omega⟩
    rw [hogsheadref2_Same.l0, if_neg (by omega), List.drop_of_length_le (by omega), List.drop_of_length_le (by omega)]; rfl
  | succ f ih =>
    intro j k hj hk
    obtain ⟨k, rfl⟩ : ∃ m, k = m + 1 := ⟨k - 1, by omega⟩
    rw [hogsheadref2_Same.l0, if_pos (by omega), if_pos (by omega), if_pos (by omega), rdN, rdN, w_one j (by omega), List.drop_eq_getElem_cons (show j < a.length by omega), List.drop_eq_getElem_cons (show j < b.length by omega), sameN, ← at_lt a j (by omega), ← at_lt b j (by omega), ih (j + 1) k (by omega) (by omega), toL, toL, toL, toL]
    have he : (!(L (at_ a j).f0 == L (at_ b j).f0) || (!((at_ a j).f1 == (at_ b j).f1) || !(L (at_ a j).f2 == L (at_ b j).f2))) = !eqN (at_ a j) (at_ b j) := by
      unfold eqN
      rw [beqD, beqD, beqD, Bool.not_and, Bool.not_and]
    rw [he]
    cases eqN (at_ a j) (at_ b j) <;> rfl
theorem refEq_f (a b : List Nd) (ha : a.length ≤ 1000000) (k : Nat) (hk : a.length < k) : hogsheadref2_Same.f k a b = some (sameN a b) := by
  unfold hogsheadref2_Same.f
  by_cases h : (a.length : Int) = (b.length : Int)
  · rw [if_pos h, show (0 : Int) = ((0 : Nat) : Int) from rfl, refEq_l0 a b (by omega) ha a.length 0 k (by omega) hk]; rfl
  · rw [if_neg h]
    refine congrArg some (Eq.symm ?_)
    cases hs : sameN a b
    · rfl
    · exact absurd (by rw [(sameN_iff a b).1 hs]) h
theorem eqT_l0 (a b : List ByteArray) (hab : a.length = b.length) (ha : a.length ≤ 1000000) : ∀ (f j k : Nat), j + f = a.length → f < k → slices_Equal_string_string.l0 k a b (a.length : Int) (j : Int) = some (decide (a.drop j = b.drop j)) ∧ hogsheadref7_SameTexts.l0 k a b (j : Int) = some (decide (a.drop j = b.drop j)) := by
  intro f
  induction f with
  | zero =>
    intro j k hj hk
    obtain ⟨k, rfl⟩ : ∃ m, k = m + 1 := ⟨k - 1, by omega⟩
    rw [slices_Equal_string_string.l0, hogsheadref7_SameTexts.l0, if_neg (by omega), if_neg (by omega), List.drop_of_length_le (by omega), List.drop_of_length_le (by omega)]
    exact ⟨rfl, rfl⟩
  | succ f ih =>
    intro j k hj hk
    obtain ⟨k, rfl⟩ : ∃ m, k = m + 1 := ⟨k - 1, by omega⟩
    obtain ⟨i1, i2⟩ := ih (j + 1) k (by omega) (by omega)
    have e : ∀ z : Option Bool, z = some (decide (a.drop (j + 1) = b.drop (j + 1))) → (if L a[j] = L b[j] then z else some false) = some (decide (a[j] :: a.drop (j + 1) = b[j] :: b.drop (j + 1))) := by
      rintro z rfl
      by_cases h : L a[j] = L b[j]
      · rw [if_pos h, L_inj h]
        by_cases h2 : a.drop (j + 1) = b.drop (j + 1)
        · rw [decide_eq_true h2, decide_eq_true (by rw [h2])]
        · rw [decide_eq_false h2, decide_eq_false (fun h3 => h2 (List.cons.inj h3).2)]
      · rw [if_neg h, decide_eq_false (fun h3 => h (congrArg L (List.cons.inj h3).1))]
    rw [List.drop_eq_getElem_cons (show j < a.length by omega), List.drop_eq_getElem_cons (show j < b.length by omega)]
    refine ⟨?_, ?_⟩
    · rw [slices_Equal_string_string.l0, if_pos (by omega), if_pos (by omega), if_pos (by omega), if_pos (by omega), rd_L _ _ (by omega), rd_L _ _ (by omega), w_one j (by omega), toL, toL]
      exact e _ i1
    · rw [hogsheadref7_SameTexts.l0, if_pos (by omega), if_pos (by omega), if_pos (by omega), rd_L _ _ (by omega), rd_L _ _ (by omega), w_one j (by omega), toL, toL]
      exact e _ i2
theorem eqT_f (a b : List ByteArray) (ha : a.length ≤ 1000000) (k : Nat) (hk : a.length < k) : slices_Equal_string_string.f k a b = some (decide (a = b)) ∧ hogsheadref7_SameTexts.f k a b = some (decide (a = b)) := by
  unfold slices_Equal_string_string.f hogsheadref7_SameTexts.f
  by_cases h : a.length = b.length
  · rw [if_pos (by omega), if_pos (by omega)]
    exact eqT_l0 a b h ha a.length 0 k (by omega) hk
  · rw [if_neg (by omega), if_neg (by omega), decide_eq_false (fun e => h (by rw [e]))]
    exact ⟨rfl, rfl⟩
def sameI (a : ByteArray) (l : List ByteArray) (t : List Nd) (b : ByteArray) (m : List ByteArray) (u : List Nd) : Bool := decide (L a = L b) && (decide (l = m) && sameN t u)
theorem sameI_f (a : ByteArray) (l : List ByteArray) (t : List Nd) (b : ByteArray) (m : List ByteArray) (u : List Nd) (hl : l.length ≤ 1000) (ht : t.length ≤ 1000) (k : Nat) (hk : 2000 ≤ k) :
    item_Same.f k a l t b m u = some (sameI a l t b m u) ∧ hogsheadref7_Same.f k a l t b m u = some (sameI a l t b m u) := by
  obtain ⟨e1, e2⟩ := eqT_f l m (by omega) k (by omega)
  unfold item_Same.f hogsheadref7_Same.f sameI
  rw [toL, toL, e1, e2, eqN_f t u (by omega) k (by omega), refEq_f t u (by omega) k (by omega)]
  by_cases h : L a = L b
  · rw [if_pos h, decide_eq_true h]
    by_cases h2 : l = m
    · rw [decide_eq_true h2]; exact ⟨rfl, rfl⟩
    · rw [decide_eq_false h2]; exact ⟨rfl, rfl⟩
  · rw [if_neg h, decide_eq_false h]; exact ⟨rfl, rfl⟩
theorem sameI_self (a : ByteArray) (l : List ByteArray) (t : List Nd) : sameI a l t a l t = true := by
  unfold sameI
  rw [decide_eq_true rfl, decide_eq_true rfl, sameN_self]; rfl
theorem own_f (a : ByteArray) (l : List ByteArray) (t : List Nd) (hl : l.length ≤ 1000) (ht : t.length ≤ 1000) : item_Own.f a l t = some (a, l, t) := by
  unfold item_Own.f slices_Clone_string_string.f api_Node_29.f
  rw [some_bind, if_pos (by simp only [List.length_nil]; omega), some_bind, some_bind, if_pos (by simp only [List.length_nil]; omega), some_bind]; rfl
theorem rdI (xs : List It) (i : Nat) : rd_T34 xs (i : Int) = xs.getD i z34 := by unfold rd_T34; rw [Int.toNat_natCast]
theorem lit_same (a : ByteArray) (l : List ByteArray) (t : List Nd) (y z : List ByteArray) (hl : l.length ≤ 1000) (ht : t.length ≤ 1000) (k : Nat) (hk : 2000 ≤ k) : item_LitSame.f k a l t y a l t z = some true := by
  obtain ⟨k, rfl⟩ : ∃ m, k = m + 2 := ⟨k - 2, by omega⟩
  unfold item_LitSame.f hogsheadlaw0_SameItems.f
  rw [if_pos rfl, hogsheadlaw0_SameItems.l0, if_pos (by simp), if_pos (by omega), if_pos (by simp)]
  show (if a.toList = a.toList then ((hogsheadlaw0_SameTexts.f (k + 1) l l).bind fun t109 => (if t109 = true then ((hogsheadlaw0_SameNodes.f (k + 1) t t).bind fun t112 => (if t112 = true then _ else _)) else _)) else _) = _
  rw [if_pos rfl, same_f l l hl _ (by omega), some_bind, if_pos (decide_eq_true rfl), sameN_f t t (by omega) _ (by omega), some_bind, if_pos (sameN_self t), show wrap64 ((0 : Int) + 1) = ((1 : Nat) : Int) from w_one 0 (by omega), hogsheadlaw0_SameItems.l0, if_neg (by simp)]
/-! ### how great -/
def gr (x : It) : Bool := decide (100 < x.f0.size) || (greatX x.f1 12 100 || great x.f2 30)
theorem great_l0 (l : List It) (hl : l.length ≤ 10) (hx : ∀ x ∈ l, x.f2.length ≤ 9223372036854775807) : ∀ (f j k : Nat), j + f = l.length → 2200 + 2 * f < k → hogsheadlaw0_GreatItems.l0 k l (j : Int) = some ((l.drop j).any gr) := by
  intro f
  induction f with
  | zero =>
    intro j k hj hk
    obtain ⟨k, rfl⟩ : ∃ m, k = m + 2 := ⟨k - 2, by omega⟩
    rw [hogsheadlaw0_GreatItems.l0, if_neg (by omega), hogsheadlaw0_GreatItems.j1, if_neg (by simp), decide_eq_false (by omega), List.drop_of_length_le (by omega)]; rfl
  | succ f ih =>
    intro j k hj hk
    obtain ⟨k, rfl⟩ : ∃ m, k = m + 2 := ⟨k - 2, by omega⟩
    have hjl : j < l.length := by omega
    have e : l.getD j z34 = l[j] := by rw [List.getD_eq_getElem?_getD, List.getElem?_eq_getElem hjl]; rfl
    rw [hogsheadlaw0_GreatItems.l0, if_pos (by omega), decide_eq_true (show (l.length : Int) ≤ 10 by omega), hogsheadlaw0_GreatItems.j1, if_pos rfl, if_pos (by omega), if_pos (by omega), rdI, e, w_one j (by omega), ih (j + 1) k (by omega) (by omega), List.drop_eq_getElem_cons hjl, List.any_cons]
    unfold gr
    by_cases h1 : 100 < l[j].f0.size
    · rw [if_pos (by omega), decide_eq_true h1]; rfl
    rw [if_neg (by omega), decide_eq_false h1, Bool.false_or, show (12 : Int) = ((12 : Nat) : Int) from rfl, show (100 : Int) = ((100 : Nat) : Int) from rfl, greatX_f _ 12 100 (by omega) k (by omega), some_bind, show (30 : Int) = ((30 : Nat) : Int) from rfl, great_f _ 30 (by omega) (hx _ (List.getElem_mem hjl)) k (by omega), some_bind]
    cases greatX l[j].f1 12 100
    · cases great l[j].f2 30 <;> rfl
    · rfl
theorem overT_l0 : ∀ (f j k : Nat) (l : List ByteArray), j + f = l.length → l.length ≤ 1000000 → f < k → hogsheadlaw0_OverTexts.l0 k l (j : Int) = some () := by
  intro f
  induction f with
  | zero =>
    intro j k l hj hl hk
    obtain ⟨k, rfl⟩ : ∃ m, k = m + 1 := ⟨k - 1, by omega⟩
    rw [hogsheadlaw0_OverTexts.l0, if_neg (by omega), if_pos (by omega)]
  | succ f ih =>
    intro j k l hj hl hk
    obtain ⟨k, rfl⟩ : ∃ m, k = m + 1 := ⟨k - 1, by omega⟩
    rw [hogsheadlaw0_OverTexts.l0, if_pos (by omega), if_pos (by omega), w_one j (by omega)]
    exact ih (j + 1) k _ (by rw [List.length_set]; omega) (by rw [List.length_set]; exact hl) (by omega)
theorem overN_l0 : ∀ (f j k : Nat) (l : List Nd), l.length ≤ 1000000 → j + f = l.length → f < k → hogsheadlaw0_OverNodes.l0 k l (j : Int) = some () := by
  intro f
  induction f with
  | zero =>
    intro j k l hl hj hk
    obtain ⟨k, rfl⟩ : ∃ m, k = m + 1 := ⟨k - 1, by omega⟩
    rw [hogsheadlaw0_OverNodes.l0, if_neg (by omega), if_pos (by omega)]
  | succ f ih =>
    intro j k l hl hj hk
    obtain ⟨k, rfl⟩ : ∃ m, k = m + 1 := ⟨k - 1, by omega⟩
    rw [hogsheadlaw0_OverNodes.l0, if_pos (by omega), if_pos (by omega), w_one j (by omega), ih (j + 1) k _ (by rw [List.length_set]; omega) (by rw [List.length_set]; omega) (by omega)]
theorem ItemTells : hogsheadlaw7_ItemTells.Pure := by
  intro s x y hs ⟨_, _, hx, _⟩ ⟨_, _, hy, _⟩
  have hx' : x.f2.length ≤ 9223372036854775807 := by unfold maxLen at hx; exact hx
  have hy' : y.f2.length ≤ 9223372036854775807 := by unfold maxLen at hy; exact hy
  refine ⟨20000, ?_⟩
  have yes : ∀ k, 1000 ≤ k → hogsheadlaw7_ItemTells.j0 k s true x.f0 x.f1 x.f2 y.f0 y.f1 y.f2 = some true := fun k hk => by
    obtain ⟨k, rfl⟩ : ∃ m, k = m + 1 := ⟨k - 1, by omega⟩
    rw [hogsheadlaw7_ItemTells.j0, if_pos rfl, awake_f k (by omega), some_bind]
  unfold hogsheadlaw7_ItemTells.f
  by_cases h1 : (s.size : Int) > 100
  · rw [if_pos h1]; exact yes _ (by omega)
  rw [if_neg h1]
  have hg := great_l0 [x, y] (by simp) (fun z hz => by
    rcases List.mem_cons.1 hz with rfl | hz
    · exact hx'
    rcases List.mem_cons.1 hz with rfl | hz
    · exact hy'
    · cases hz) 2 0 20000 rfl (by omega)
  rw [List.drop_zero] at hg
  have hg2 : item_LitGreat2.f 20000 x.f0 x.f1 x.f2 y.f0 y.f1 y.f2 = some ([x, y].any gr) := hg
  rw [hg2, some_bind]
  cases hgr : [x, y].any gr
  case true => exact yes _ (by omega)
  have hgx : gr x = false := by
    rw [List.any_cons, Bool.or_eq_false_iff] at hgr
    exact hgr.1
  unfold gr at hgx
  rw [Bool.or_eq_false_iff, Bool.or_eq_false_iff] at hgx
  obtain ⟨hl, _⟩ := greatX_not (Bool.eq_false_iff.1 hgx.2.1)
  obtain ⟨ht, _⟩ := great_not (Bool.eq_false_iff.1 hgx.2.2)
  show hogsheadlaw7_ItemTells.j0 (19999 + 1) s false x.f0 x.f1 x.f2 y.f0 y.f1 y.f2 = some true
  have ho := own_f x.f0 x.f1 x.f2 (by omega) (by omega)
  have hls := lit_same x.f0 x.f1 x.f2 (([(⟨#[]⟩ : ByteArray)] : List ByteArray)) (([(⟨#[]⟩ : ByteArray)] : List ByteArray)) (by omega) (by omega) 19999 (by omega)
  have hm1 := mayI_f x.f0 x.f1 x.f2 19999 (by omega)
  have hm2 := refMayI_f x.f0 x.f1 x.f2 19999 (by omega)
  obtain ⟨hq1, hq2⟩ := sameI_f x.f0 x.f1 x.f2 y.f0 y.f1 y.f2 (by omega) (by omega) 19999 (by omega)
  obtain ⟨hq3, _⟩ := sameI_f x.f0 x.f1 x.f2 x.f0 x.f1 x.f2 (by omega) (by omega) 19999 (by omega)
  rw [sameI_self] at hq3
  have hv1 : hogsheadlaw0_OverTexts.f 19999 x.f1 = some () := overT_l0 x.f1.length 0 19999 x.f1 (by omega) (by omega) (by omega)
  have hv2 : hogsheadlaw0_OverNodes.f 19999 x.f2 = some () := overN_l0 x.f2.length 0 19999 x.f2 (by omega) (by omega) (by omega)
  rw [hogsheadlaw7_ItemTells.j0, if_neg (by simp), ho, some_bind, hls, some_bind, hv1, some_bind, hv2, some_bind, if_pos rfl, some_bind, hls, some_bind, if_pos rfl, name_f 19999 (by omega), some_bind, refName_f s 19999 (by omega), some_bind, if_pos (by simp), hash_f 19999 (by omega), some_bind, refHash_f s 19999 (by omega), some_bind, if_pos rfl,
    hm1, some_bind, hm2, some_bind, if_pos (by simp), hq1, some_bind, hq2, some_bind, if_pos (by simp), hq3, some_bind, if_pos rfl, awake_f 19999 (by omega), some_bind]
end Go.Proofs.YtnbcmmgkdpekjaaDoor.Pure
