/- Names of items, in plain words: what item.Name and item.Hash come to. -/
import Derived.Test.YtnbcmmgkdpekjaaDoorPx
import Derived.Test.YtnbcmmgkdpekjaaDoorBs
namespace Go.Proofs.YtnbcmmgkdpekjaaDoor.ItTh
open Go.RowKit Go.Proofs.YtnbcmmgkdpekjaaDoorX Go.Proofs.YtnbcmmgkdpekjaaDoorW.PrintWords Go.Proofs.YtnbcmmgkdpekjaaDoorW.PrintLast Go.Proofs.YtnbcmmgkdpekjaaDoorW.PrintMore Go.Proofs.YtnbcmmgkdpekjaaDoor.P Go.Proofs.YtnbcmmgkdpekjaaDoor.Bs
set_option linter.unusedVariables false
set_option linter.unusedSimpArgs false
abbrev signs : ByteArray := ⟨#[48, 49, 50, 51, 52, 53, 54, 55, 56, 57, 97, 98, 99, 100, 102, 103, 104, 105, 106, 107, 108, 109, 110, 112, 113, 114, 115, 118, 119, 120, 121, 122]⟩
abbrev lets : ByteArray := ⟨#[48, 49, 50, 51, 52, 53, 54, 55, 56, 57, 97, 98, 99, 100, 101, 102, 103, 104, 105, 106, 107, 108, 109, 110, 111, 112, 113, 114, 115, 116, 117, 118, 119, 120, 121, 122]⟩
abbrev more : ByteArray := ⟨#[48, 49, 50, 51, 52, 53, 54, 55, 56, 57, 97, 98, 99, 100, 101, 102, 103, 104, 105, 106, 107, 108, 109, 110, 111, 112, 113, 114, 115, 116, 117, 118, 119, 120, 121, 122, 46, 43, 95, 45]⟩
def L (s : ByteArray) : List UInt8 := s.data.toList
theorem L_inj {a b : ByteArray} (h : L a = L b) : a = b := ByteArray.ext (Array.ext' h)
theorem toL (s : ByteArray) : s.toList = L s := ByteArray.toList_eq s
theorem L_append (a b : ByteArray) : L (a ++ b) = L a ++ L b := by simp [L]
theorem L_extract (s : ByteArray) (a b : Nat) : L (s.extract a b) = ((L s).take b).drop a := by
  simp only [L, ByteArray.data_extract, Array.toList_extract, List.extract_eq_take_drop]
  rw [List.drop_take]
theorem size_L (s : ByteArray) : s.size = (L s).length := rfl
def okc (a : ByteArray) (c : UInt8) : Bool := !outB a c
/-- What stands behind the hash of a name. -/
def tailOk (r : List UInt8) : Bool := (r.head? == some 45) && ((r.drop 1).take 1).all (okc lets) && (r.drop 2).all (okc more)
def nm (l : List UInt8) : Bool := decide (10 ≤ l.length) && decide (l.length ≤ 30) && (l.take 8).all (okc signs) && tailOk (l.drop 8)
theorem all_f (a b : ByteArray) (h : a.size ≤ 9223372036854775807) : item_all.f a b = some ((L a).all (okc b)) := by
  unfold item_all.f
  rw [if_pos h, List.not_any_eq_all_not]; rfl
theorem at8 (s : ByteArray) (h : 8 < s.size) : ((bt s 8) != 45) = !((L s).drop 8).head?.any (· == 45) := by
  have h' : 8 < (L s).length := h
  have e : bt s 8 = (((L s)[8]'h').toNat : Int) := by
    unfold bt
    rw [dif_pos (show (8 : Int).toNat < s.size from h)]
    rfl
  rw [e, List.head?_drop, List.getElem?_eq_getElem h']
  simp only [Option.any_some]
  by_cases q : (L s)[8]'h' = 45
  · rw [q]; rfl
  · have q' : ¬ (((L s)[8]'h').toNat : Int) = 45 := fun e => q (UInt8.toNat.inj (by rw [show (45 : UInt8).toNat = 45 from rfl]; exact_mod_cast e))
    rw [beq_eq_false_iff_ne.2 q]
    exact bne_iff_ne.2 q'
theorem name_f (k : Nat) (hk : 1 ≤ k) (s : ByteArray) : item_Name.f k s = some (nm (L s)) := by
  obtain ⟨k, rfl⟩ : ∃ m, k = m + 1 := ⟨k - 1, by omega⟩
  unfold item_Name.f nm
  by_cases h1 : (s.size : Int) < 10
  · rw [if_pos h1, item_Name.j0, if_pos rfl, decide_eq_false (show ¬ 10 ≤ (L s).length by have := size_L s; omega)]; rfl
  rw [if_neg h1]
  have hl := size_L s
  by_cases h2 : (s.size : Int) > 30
  · rw [if_pos h2, item_Name.j0, if_pos rfl, decide_eq_false (show ¬ (L s).length ≤ 30 by omega)]; simp
  rw [if_neg h2, if_pos (by omega), at8 s (by omega), decide_eq_true (show 10 ≤ (L s).length by omega), decide_eq_true (show (L s).length ≤ 30 by omega)]
  unfold tailOk
  have h8 : 8 < (L s).length := by omega
  have e8 : (s.extract 0 8).size ≤ 9223372036854775807 := by rw [ByteArray.size_extract]; omega
  have e9 : (s.extract 9 10).size ≤ 9223372036854775807 := by rw [ByteArray.size_extract]; omega
  have e10 : (s.extract 10 s.size).size ≤ 9223372036854775807 := by rw [ByteArray.size_extract]; omega
  have f8 : L (s.extract 0 8) = (L s).take 8 := by rw [L_extract]; rfl
  have f9 : L (s.extract 9 10) = (((L s).drop 8).drop 1).take 1 := by rw [L_extract, List.drop_drop, List.drop_take]
  have f10 : L (s.extract 10 s.size) = ((L s).drop 8).drop 2 := by rw [L_extract, List.drop_drop, List.take_of_length_le (by omega)]
  rw [item_Name.j0]
  by_cases c : ((L s).drop 8).head? = some 45
  · rw [c]
    simp only [Option.any_some, beq_self_eq_true, Bool.not_true, Bool.true_and]
    rw [if_neg (by simp), if_pos (by omega), if_pos (by omega), all_f _ _ e8, some_bind, f8]
    cases c1 : ((L s).take 8).all (okc signs) with
    | false => rw [if_neg (by simp)]; rfl
    | true =>
      rw [if_pos rfl, if_pos (by omega), if_pos (by omega), all_f _ _ e9, some_bind, f9]
      cases c2 : ((((L s).drop 8).drop 1).take 1).all (okc lets) with
      | false => rw [if_neg (by simp)]; rfl
      | true => rw [if_pos rfl, all_f _ _ e10, some_bind, f10]; rfl
  · rw [beq_eq_false_iff_ne.2 c]
    have : ((L s).drop 8).head?.any (· == 45) = false := by
      cases q : ((L s).drop 8).head? with
      | none => rfl
      | some x => rw [q] at c; simp only [Option.any_some]; exact beq_eq_false_iff_ne.2 (fun e => c (by rw [e]))
    rw [this]
    simp
theorem hash_f (k : Nat) (hk : 1 ≤ k) (s : ByteArray) : item_Hash.f k s = some (if nm (L s) = true then s.extract 0 8 else ⟨#[]⟩) := by
  unfold item_Hash.f
  rw [name_f k hk, some_bind]
  by_cases h : nm (L s) = true
  · rw [if_pos h, if_pos h]
    have : 10 ≤ (L s).length := by
      unfold nm at h
      simp only [Bool.and_eq_true, decide_eq_true_eq] at h
      exact h.1.1.1
    have hl := size_L s
    rw [if_pos (by omega), if_pos (by omega)]
  · rw [if_neg h, if_neg h]
theorem awake_300 : hogsheadlaw7_awake.f 300 = some true := by decide +kernel
theorem awake_f (k : Nat) (hk : 300 ≤ k) : hogsheadlaw7_awake.f k = some true := at_rounds (g := fun k => hogsheadlaw7_awake.f k) hogsheadlaw7_awake.mono hk awake_300
theorem nm_len {l : List UInt8} (h : nm l = true) : 10 ≤ l.length ∧ l.length ≤ 30 ∧ (l.take 8).all (okc signs) = true ∧ tailOk (l.drop 8) = true := by
  unfold nm at h
  simp only [Bool.and_eq_true, decide_eq_true_eq] at h
  exact ⟨h.1.1.1, h.1.1.2, h.1.2, h.2⟩
end Go.Proofs.YtnbcmmgkdpekjaaDoor.ItTh
