/- Strings as lists of bytes: what is cut, joined, compared, there and back. -/
import Derived.Test.YthbdbgjggoobnaaDoorWWords
import Derived.Test.YthbdbgjggoobnaaDoorWLast
import Derived.Test.YthbdbgjggoobnaaDoorXMore
namespace Go.Proofs.YthbdbgjggoobnaaDoor.Bs
open Go.RowKit Go.Proofs.YthbdbgjggoobnaaDoorW.PrintWords

def Bytes (l : List Int) : Prop := ∀ x ∈ l, 0 ≤ x ∧ x ≤ 255
theorem Bytes.take {l : List Int} (h : Bytes l) (n : Nat) : Bytes (l.take n) := fun x hx => h x (List.mem_of_mem_take hx)
theorem Bytes.drop {l : List Int} (h : Bytes l) (n : Nat) : Bytes (l.drop n) := fun x hx => h x (List.mem_of_mem_drop hx)
theorem Bytes.append {a b : List Int} (h : Bytes a) (k : Bytes b) : Bytes (a ++ b) := fun x hx => (List.mem_append.1 hx).elim (h x) (k x)
theorem bytesOf_bytes (s : ByteArray) : Bytes (bytesOf s) := by
  intro x hx
  simp only [bytesOf, List.mem_map] at hx
  obtain ⟨b, _, rfl⟩ := hx
  have := b.toNat_lt
  omega
theorem bytesOf_append (a b : ByteArray) : bytesOf (a ++ b) = bytesOf a ++ bytesOf b := by simp [bytesOf]
theorem bytesOf_extract (s : ByteArray) (a b : Nat) : bytesOf (s.extract a b) = ((bytesOf s).take b).drop a := by
  simp only [bytesOf, ByteArray.data_extract, Array.toList_extract, List.extract_eq_take_drop, List.map_drop, List.map_take]
  rw [List.drop_take]
theorem bytesOf_lit (l : List UInt8) : bytesOf ⟨l.toArray⟩ = l.map fun b => (b.toNat : Int) := rfl
theorem bytesOf_inj {a b : ByteArray} (h : bytesOf a = bytesOf b) : a = b := by
  refine ByteArray.ext (Array.ext' ?_)
  unfold bytesOf at h
  exact (List.map_inj_right (fun x y e => by
    have e' : x.toNat = y.toNat := by exact_mod_cast e
    exact UInt8.toNat.inj e')).1 h
theorem toList_inj {a b : ByteArray} : a.toList = b.toList ↔ a = b := by
  rw [ByteArray.toList_eq, ByteArray.toList_eq]
  exact ⟨fun h => ByteArray.ext (Array.ext' h), fun h => by rw [h]⟩
theorem toList_nil {a : ByteArray} : a.toList = [] ↔ bytesOf a = [] := by
  rw [ByteArray.toList_eq]; simp [bytesOf]
theorem size_bytes (s : ByteArray) : s.size = (bytesOf s).length := (bytesOf_length s).symm
theorem bytesOf_strOfNums {l : List Int} (h : Bytes l) : bytesOf (strOfNums l) = l := by
  simp only [bytesOf, strOfNums, List.map_map]
  conv => rhs; rw [← List.map_id l]
  refine List.map_congr_left fun x hx => ?_
  have := h x hx
  simp only [Function.comp, id]
  rw [UInt8.toNat_ofNat']
  omega
theorem strOfNums_bytesOf (s : ByteArray) : strOfNums (bytesOf s) = s := bytesOf_inj (bytesOf_strOfNums (bytesOf_bytes s))
theorem bt_getD (s : ByteArray) (i : Int) : bt s i = (bytesOf s).getD i.toNat 0 := (rd_bytesOf s i).symm
theorem bt_byte (s : ByteArray) (i : Int) : 0 ≤ bt s i ∧ bt s i ≤ 255 := bt_range s i
theorem wrap_in {a : Int} (h : -9223372036854775808 ≤ a) (h' : a ≤ 9223372036854775807) : wrap64 a = a := by unfold wrap64; omega
theorem some_bind {α β : Type} (a : α) (f : α → Option β) : (some a).bind f = f a := rfl
theorem u64_wrap (n : Int) : IntKind.u64.wrap n = n % 18446744073709551616 := rfl
theorem low_expr (x n : Int) (h : 1 ≤ n) (h' : n ≤ 4611686018427387904) :
    (if (IntKind.u64.wrap n) = 0 then (none : Option Int) else (some (wrap64 (Int.tmod (IntKind.u64.wrap x) (IntKind.u64.wrap n))))) = some ((x % 18446744073709551616) % n) := by
  have e1 : IntKind.u64.wrap n = n := by rw [u64_wrap]; omega
  rw [e1, u64_wrap x, if_neg (by omega), Int.tmod_eq_emod_of_nonneg (by omega)]
  have h1 : 0 ≤ x % 18446744073709551616 % n := Int.emod_nonneg _ (by omega)
  have h2 : x % 18446744073709551616 % n < n := Int.emod_lt_of_pos _ (by omega)
  rw [wrap_in (by omega) (by omega)]
/-- A number from 0 to below n. -/
theorem low_range (x n : Int) (h : 1 ≤ n) : 0 ≤ (x % 18446744073709551616) % n ∧ (x % 18446744073709551616) % n < n := ⟨Int.emod_nonneg _ (by omega), Int.emod_lt_of_pos _ (by omega)⟩
end Go.Proofs.YthbdbgjggoobnaaDoor.Bs
