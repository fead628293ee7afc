/- Strings as lists of bytes: what is cut, joined, compared, there and back. -/
import Derived.Test.YthbdbgjggoobnaaDoorWWords
import Derived.Test.YthbdbgjggoobnaaDoorWLast
import Derived.Test.YthbdbgjggoobnaaDoorXMore
import Derived.Lib.SplitLaws
import Derived.Lib.Join
import Derived.Test.YthbdbgjggoobnaaDoorPx
import Derived.Laws.Bits64b
namespace Go.Proofs.YthbdbgjggoobnaaDoor.Bs
open Go.RowKit Go.Proofs.YthbdbgjggoobnaaDoorW.PrintWords

def Bytes (l : List Int) : Prop := ∀ x ∈ l, 0 ≤ x ∧ x ≤ 255
theorem Bytes.take {l : List Int} (h : Bytes l) (n : Nat) : Bytes (l.take n) := fun x hx => h x (List.mem_of_mem_take hx)
theorem Bytes.drop {l : List Int} (h : Bytes l) (n : Nat) : Bytes (l.drop n) := fun x hx => h x (List.mem_of_mem_drop hx)
theorem Bytes.append {a b : List Int} (h : Bytes a) (k : Bytes b) : Bytes (a ++ b) := fun x hx => (List.mem_append.1 hx).elim (h x) (k x)
theorem bytesOf_bytes (s : ByteArray) : Bytes (bytesOf s) := by
  intro x hx
  simp only [bytesOf, List.mem_map] at hx
  obtain ⟨b, _, rfl⟩ := hx
  have := b.toNat_lt
  omega
theorem bytesOf_append (a b : ByteArray) : bytesOf (a ++ b) = bytesOf a ++ bytesOf b := by simp [bytesOf]
theorem bytesOf_extract (s : ByteArray) (a b : Nat) : bytesOf (s.extract a b) = ((bytesOf s).take b).drop a := by
  simp only [bytesOf, ByteArray.data_extract, Array.toList_extract, List.extract_eq_take_drop, List.map_drop, List.map_take]
  rw [List.drop_take]
theorem bytesOf_lit (l : List UInt8) : bytesOf ⟨l.toArray⟩ = l.map fun b => (b.toNat : Int) := rfl
theorem bytesOf_inj {a b : ByteArray} (h : bytesOf a = bytesOf b) : a = b := by
  refine ByteArray.ext (Array.ext' ?_)
  unfold bytesOf at h
  exact (List.map_inj_right (fun x y e => by
    have e' : x.toNat = y.toNat := by exact_mod_cast e
    exact UInt8.toNat.inj e')).1 h
theorem toList_inj {a b : ByteArray} : a.toList = b.toList ↔ a = b := by
  rw [ByteArray.toList_eq, ByteArray.toList_eq]
  exact ⟨fun h => ByteArray.ext (Array.ext' h), fun h => by rw [h]⟩
theorem toList_nil {a : ByteArray} : a.toList = [] ↔ bytesOf a = [] := by
  rw [ByteArray.toList_eq]; simp [bytesOf]
theorem size_bytes (s : ByteArray) : s.size = (bytesOf s).length := (bytesOf_length s).symm
theorem bytesOf_strOfNums {l : List Int} (h : Bytes l) : bytesOf (strOfNums l) = l := by
  simp only [bytesOf, strOfNums, List.map_map]
  conv => rhs; rw [← List.map_id l]
  refine List.map_congr_left fun x hx => ?_
  have := h x hx
  simp only [Function.comp, id]
  rw [UInt8.toNat_ofNat']
  omega
theorem strOfNums_bytesOf (s : ByteArray) : strOfNums (bytesOf s) = s := bytesOf_inj (bytesOf_strOfNums (bytesOf_bytes s))
theorem bt_getD (s : ByteArray) (i : Int) : bt s i = (bytesOf s).getD i.toNat 0 := (rd_bytesOf s i).symm
theorem bt_byte (s : ByteArray) (i : Int) : 0 ≤ bt s i ∧ bt s i ≤ 255 := bt_range s i
theorem wrap_in {a : Int} (h : -9223372036854775808 ≤ a) (h' : a ≤ 9223372036854775807) : wrap64 a = a := by unfold wrap64; omega
theorem some_bind {α β : Type} (a : α) (f : α → Option β) : (some a).bind f = f a := rfl
theorem u64_wrap (n : Int) : IntKind.u64.wrap n = n % 18446744073709551616 := rfl
theorem low_expr (x n : Int) (h : 1 ≤ n) (h' : n ≤ 4611686018427387904) :
    (if (IntKind.u64.wrap n) = 0 then (none : Option Int) else (some (wrap64 (Int.tmod (IntKind.u64.wrap x) (IntKind.u64.wrap n))))) = some ((x % 18446744073709551616) % n) := by
  have e1 : IntKind.u64.wrap n = n := by rw [u64_wrap]; omega
  rw [e1, u64_wrap x, if_neg (by omega), Int.tmod_eq_emod_of_nonneg (by omega)]
  have h1 : 0 ≤ x % 18446744073709551616 % n := Int.emod_nonneg _ (by omega)
  have h2 : x % 18446744073709551616 % n < n := Int.emod_lt_of_pos _ (by omega)
  rw [wrap_in (by omega) (by omega)]
/-- A number from 0 to below n. -/
theorem low_range (x n : Int) (h : 1 ≤ n) : 0 ≤ (x % 18446744073709551616) % n ∧ (x % 18446744073709551616) % n < n := ⟨Int.emod_nonneg _ (by omega), Int.emod_lt_of_pos _ (by omega)⟩
end Go.Proofs.YthbdbgjggoobnaaDoor.Bs
/- Plain theory of paths: texts as lists of bytes, cut at the slash and joined again; what a part, a path, a parent, a base and a place under a path are. -/
namespace Go.Proofs.YthbdbgjggoobnaaDoor.Pa
set_option linter.unusedVariables false
set_option linter.unusedSimpArgs false

def L (s : ByteArray) : List UInt8 := s.data.toList
def mkB (l : List UInt8) : ByteArray := ⟨l.toArray⟩
theorem L_mkB (l : List UInt8) : L (mkB l) = l := rfl
theorem L_inj {a b : ByteArray} (h : L a = L b) : a = b := ByteArray.ext (Array.ext' h)
theorem mkB_L (s : ByteArray) : mkB (L s) = s := L_inj rfl
theorem toL (s : ByteArray) : s.toList = L s := ByteArray.toList_eq s
theorem L_append (a b : ByteArray) : L (a ++ b) = L a ++ L b := by simp [L]
theorem L_extract (s : ByteArray) (a b : Nat) : L (s.extract a b) = ((L s).take b).drop a := by
  simp only [L, ByteArray.data_extract, Array.toList_extract, List.extract_eq_take_drop]
  rw [List.drop_take]
theorem size_L (s : ByteArray) : s.size = (L s).length := rfl

def cutA : List UInt8 → List UInt8 → List (List UInt8)
  | p, [] => [p]
  | p, x :: l => if x = 47 then p :: cutA [] l else cutA (p ++ [x]) l
def cut (l : List UInt8) : List (List UInt8) := cutA [] l
theorem cutA_ne (l : List UInt8) : ∀ p, cutA p l ≠ [] := by
  induction l with
  | nil => intro p; simp [cutA]
  | cons x l ih => intro p; unfold cutA; split; simp; exact ih _
theorem cutA_slash (b : List UInt8) : ∀ (a p : List UInt8), cutA p (a ++ 47 :: b) = cutA p a ++ cut b := by
  intro a
  induction a with
  | nil => intro p; simp [cutA, cut]
  | cons x a ih =>
    intro p
    simp only [List.cons_append, cutA]
    split
    · rw [ih]; rfl
    · rw [ih]
theorem cutA_none : ∀ (l p : List UInt8), 47 ∉ l → cutA p l = [p ++ l] := by
  intro l
  induction l with
  | nil => intro p h; simp [cutA]
  | cons x l ih =>
    intro p h
    unfold cutA
    rw [if_neg (fun e => h (by simp [e])), ih _ (fun e => h (by simp [e]))]
    simp
theorem cut_slash (a b : List UInt8) : cut (a ++ 47 :: b) = cut a ++ cut b := cutA_slash b a []
theorem cut_none {l : List UInt8} (h : 47 ∉ l) : cut l = [l] := cutA_none l [] h
theorem cut_ne (l : List UInt8) : cut l ≠ [] := cutA_ne l []
theorem cutA_noslash : ∀ (l p : List UInt8), 47 ∉ p → ∀ x ∈ cutA p l, 47 ∉ x := by
  intro l
  induction l with
  | nil => intro p h x hx; simp [cutA] at hx; rw [hx]; exact h
  | cons y l ih =>
    intro p h x hx
    unfold cutA at hx
    split at hx
    · rcases List.mem_cons.1 hx with rfl | hx
      · exact h
      · exact ih [] (by simp) x hx
    · exact ih (p ++ [y]) (by simp only [List.mem_append, List.mem_singleton, not_or]; exact ⟨h, fun e => by simp_all⟩) x hx
/-- Parts, joined by slashes. -/
def T (r : List (List UInt8)) : List UInt8 := (r.map (47 :: ·)).flatten
def J : List (List UInt8) → List UInt8
  | [] => []
  | x :: r => x ++ T r
theorem T_cons (x : List UInt8) (r : List (List UInt8)) : T (x :: r) = 47 :: (x ++ T r) := by simp [T]
theorem T_append (a b : List (List UInt8)) : T (a ++ b) = T a ++ T b := by simp [T]
theorem T_J {r : List (List UInt8)} (h : r ≠ []) : T r = 47 :: J r := by
  cases r with
  | nil => exact absurd rfl h
  | cons x r => rw [T_cons]; rfl
theorem join_J (r : List (List UInt8)) : Lib.join r [47] = J r := by
  cases r with
  | nil => rfl
  | cons x r => rw [Lib.join_cons]; rfl
theorem J_append {a b : List (List UInt8)} (h : a ≠ []) : J (a ++ b) = J a ++ T b := by
  cases a with
  | nil => exact absurd rfl h
  | cons x a => simp [J, T_append]
theorem J_cutA : ∀ (l p : List UInt8), J (cutA p l) = p ++ l := by
  intro l
  induction l with
  | nil => intro p; simp [cutA, J, T]
  | cons x l ih =>
    intro p
    unfold cutA
    split
    · rename_i e
      simp only [J]
      rw [T_J (cutA_ne _ _), ih, e]; rfl
    · rw [ih]; simp
theorem J_cut (l : List UInt8) : J (cut l) = l := J_cutA l []
theorem cut_J : ∀ (r : List (List UInt8)), r ≠ [] → (∀ x ∈ r, 47 ∉ x) → cut (J r) = r := by
  intro r
  induction r with
  | nil => intro h; exact absurd rfl h
  | cons x r ih =>
    intro _ hx
    have h1 : 47 ∉ x := hx x (by simp)
    by_cases hr : r = []
    · subst hr
      simp only [J, T, List.map_nil, List.flatten_nil, List.append_nil]
      exact cut_none h1
    · simp only [J]
      rw [T_J hr, cut_slash, cut_none h1, ih hr (fun y hy => hx y (by simp [hy]))]; rfl
theorem T_length_one (r : List (List UInt8)) (x : List UInt8) (h : x ∈ r) : x.length ≤ (T r).length := by
  induction r with
  | nil => cases h
  | cons z r ih =>
    rw [T_cons]; simp only [List.length_cons, List.length_append]
    rcases List.mem_cons.1 h with rfl | h
    · omega
    · have := ih h; omega
theorem J_length_one (r : List (List UInt8)) (x : List UInt8) (h : x ∈ r) : x.length ≤ (J r).length := by
  cases r with
  | nil => cases h
  | cons y r =>
    simp only [J, List.length_append]
    rcases List.mem_cons.1 h with rfl | h
    · omega
    · have := T_length_one r x h
      omega

theorem cutA_len : ∀ (l p : List UInt8), (cutA p l).length ≤ l.length + 1 := by
  intro l
  induction l with
  | nil => intro p; simp [cutA]
  | cons x l ih =>
    intro p
    unfold cutA
    split
    · have := ih []; simp only [List.length_cons]; omega
    · have := ih (p ++ [x]); simp only [List.length_cons]; omega
theorem cut_len (l : List UInt8) : (cut l).length ≤ l.length + 1 := cutA_len l []
def isPart (l : List UInt8) : Bool := decide (l ≠ [] ∧ l.length ≤ 60 ∧ 47 ∉ l ∧ 0 ∉ l ∧ l ≠ [46] ∧ l ≠ [46, 46] ∧ l.take 4 ≠ [46, 119, 104, 46])
theorem part_ne {l : List UInt8} (h : isPart l = true) : l ≠ [] := (of_decide_eq_true h).1
theorem part_noslash {l : List UInt8} (h : isPart l = true) : 47 ∉ l := (of_decide_eq_true h).2.2.1
def may (l : List UInt8) : Bool := decide (l = [] ∨ (l.length ≤ 200 ∧ (cut l).all isPart = true ∧ (cut l).length ≤ 10))
theorem may_nil : may [] = true := by decide
def split (l : List UInt8) : List (List UInt8) := if l = [] then [] else if may l then cut l else []
def dir (l : List UInt8) : List UInt8 := J (cut l).dropLast
def base (l : List UInt8) : List UInt8 := (cut l).getLastD []
def U (a b : List UInt8) : Prop := a = b ∨ b = [] ∨ b ++ [47] <+: a
instance (a b) : Decidable (U a b) := by unfold U; infer_instance
def under (a b : List UInt8) : Bool := may a && may b && decide (U a b)
/-- Either no slash, or cut at the last one. -/
theorem last_cases (l : List UInt8) : 47 ∉ l ∨ ∃ a b, l = a ++ 47 :: b ∧ 47 ∉ b := by
  induction l with
  | nil => exact .inl (by simp)
  | cons x l ih =>
    rcases ih with h | ⟨a, b, rfl, hb⟩
    · by_cases hx : x = 47
      · exact .inr ⟨[], l, by rw [hx]; rfl, h⟩
      · exact .inl (by simp only [List.mem_cons, not_or]; exact ⟨fun e => hx e.symm, h⟩)
    · exact .inr ⟨x :: a, b, rfl, hb⟩
theorem dir_none {l : List UInt8} (h : 47 ∉ l) : dir l = [] := by unfold dir; rw [cut_none h]; rfl
theorem base_none {l : List UInt8} (h : 47 ∉ l) : base l = l := by unfold base; rw [cut_none h]; rfl
theorem dir_slash {a b : List UInt8} (h : 47 ∉ b) : dir (a ++ 47 :: b) = a := by unfold dir; rw [cut_slash, cut_none h, List.dropLast_concat, J_cut]
theorem base_slash {a b : List UInt8} (h : 47 ∉ b) : base (a ++ 47 :: b) = b := by unfold base; rw [cut_slash, cut_none h]; simp [List.getLastD_eq_getLast?]
theorem may_parts {l : List UInt8} (h : may l = true) (hl : l ≠ []) : l.length ≤ 200 ∧ (∀ x ∈ cut l, isPart x = true) ∧ (cut l).length ≤ 10 := by
  rcases of_decide_eq_true h with h | ⟨h1, h2, h3⟩
  · exact absurd h hl
  · exact ⟨h1, List.all_eq_true.1 h2, h3⟩
theorem may_mk {l : List UInt8} (h1 : l.length ≤ 200) (h2 : ∀ x ∈ cut l, isPart x = true) (h3 : (cut l).length ≤ 10) : may l = true :=
  decide_eq_true (.inr ⟨h1, List.all_eq_true.2 h2, h3⟩)
theorem may_ne_split {l : List UInt8} (h : may l = true) (hl : l ≠ []) : split l = cut l := by unfold split; rw [if_neg hl, if_pos h]
/-- The parent of a path: a path, of one part less, and shorter. -/
theorem dir_spec {l : List UInt8} (h : may l = true) (hl : l ≠ []) :
    may (dir l) = true ∧ split (dir l) = (cut l).dropLast ∧ (dir l).length < l.length ∧ (dir l = [] ∨ dir l ++ [47] <+: l) ∧ split l = split (dir l) ++ [base l] ∧ isPart (base l) = true := by
  obtain ⟨h1, h2, h3⟩ := may_parts h hl
  rcases last_cases l with hn | ⟨a, b, rfl, hb⟩
  · have hc := cut_none hn
    rw [dir_none hn, base_none hn, may_ne_split h hl, hc]
    refine ⟨rfl, rfl, ?_, .inl rfl, rfl, ?_⟩
    · cases l with
      | nil => exact absurd rfl hl
      | cons x l => simp
    · exact h2 l (by rw [hc]; simp)
  · have hc : cut (a ++ 47 :: b) = cut a ++ [b] := by rw [cut_slash, cut_none hb]
    rw [dir_slash hb, base_slash hb, may_ne_split h hl, hc]
    rw [hc] at h2 h3
    have ha : a ≠ [] := by
      rintro rfl
      exact part_ne (h2 [] (by simp [cut, cutA])) rfl
    have hma : may a = true := may_mk (by simp at h1; omega) (fun x hx => h2 x (by simp [hx])) (by simp at h3; omega)
    rw [may_ne_split hma ha, List.dropLast_concat]
    refine ⟨hma, rfl, by simp, .inr ?_, rfl, h2 b (by simp)⟩
    exact ⟨b, by simp⟩
theorem U_self (a : List UInt8) : U a a := .inl rfl
theorem U_nil (a : List UInt8) : U a [] := .inr (.inl rfl)
theorem U_len {a b : List UInt8} (h : U a b) : b.length ≤ a.length := by
  rcases h with rfl | rfl | h
  · exact Nat.le_refl _
  · exact Nat.zero_le _
  · have := h.length_le; simp at this; omega
theorem U_pre {a b : List UInt8} (h : U a b) : b <+: a := by
  rcases h with rfl | rfl | h
  · exact List.prefix_refl _
  · exact List.nil_prefix
  · exact (List.prefix_append b [47]).trans h
theorem U_anti {a b : List UInt8} (h : U a b) (k : U b a) : a = b :=
  ((U_pre k).eq_of_length (Nat.le_antisymm (U_len k) (U_len h)))
theorem U_trans {a b c : List UInt8} (h : U a b) (k : U b c) : U a c := by
  rcases k with rfl | rfl | k
  · exact h
  · exact U_nil _
  · exact .inr (.inr (k.trans (U_pre h)))
theorem U_or {a b c : List UInt8} (h : U a b) (k : U a c) : U b c ∨ U c b := by
  rcases h with rfl | rfl | h
  · exact .inl k
  · exact .inr (U_nil _)
  · rcases k with rfl | rfl | k
    · exact .inr (.inr (.inr h))
    · exact .inl (U_nil _)
    · rcases Nat.lt_trichotomy b.length c.length with hlt | he | hlt
      · refine .inr (.inr (.inr ?_))
        exact List.prefix_of_prefix_length_le h ((List.prefix_append c [47]).trans k) (by simp; omega)
      · refine .inl (.inl ?_)
        have := List.prefix_of_prefix_length_le h k (by simp; omega)
        exact List.append_cancel_right (this.eq_of_length (by simp; omega))
      · refine .inl (.inr (.inr ?_))
        exact List.prefix_of_prefix_length_le k ((List.prefix_append b [47]).trans h) (by simp; omega)
theorem less_prefix : ∀ (b a : List UInt8), b <+: a → Op.bytesLess a b = false := by
  intro b
  induction b with
  | nil => intro a _; cases a <;> rfl
  | cons x b ih =>
    rintro _ ⟨t, rfl⟩
    simp only [List.cons_append, Op.bytesLess]
    rw [ih _ ⟨t, rfl⟩]
    simp [UInt8.lt_irrefl]
end Go.Proofs.YthbdbgjggoobnaaDoor.Pa
/- The printed functions of package path are the plain ones: those that a seat's print has. -/
namespace Go.Proofs.YthbdbgjggoobnaaDoor.PaTh
open Go.RowKit Go.Proofs.YthbdbgjggoobnaaDoorX Go.Proofs.YthbdbgjggoobnaaDoorW.PrintWords Go.Proofs.YthbdbgjggoobnaaDoorW.PrintLast Go.Proofs.YthbdbgjggoobnaaDoorW.PrintMore Go.Proofs.YthbdbgjggoobnaaDoor.P Go.Proofs.YthbdbgjggoobnaaDoor.Pa
set_option linter.unusedVariables false
set_option linter.unusedSimpArgs false

theorem wrap_in {a : Int} (h : -9223372036854775808 ≤ a) (h' : a ≤ 9223372036854775807) : wrap64 a = a := by unfold wrap64; omega
theorem some_bind {α β : Type} (a : α) (f : α → Option β) : (some a).bind f = f a := rfl
theorem w_one (i : Nat) (h : i ≤ 1000000000000) : wrap64 ((i : Int) + 1) = ((i + 1 : Nat) : Int) := by rw [wrap_in (by omega) (by omega)]; omega
theorem lit_e (l : List UInt8) : (⟨l.toArray⟩ : ByteArray) = mkB l := rfl
theorem nil_e : (⟨#[]⟩ : ByteArray) = mkB [] := rfl
theorem bt_L (s : ByteArray) (i : Nat) (h : i < s.size) : bt s (i : Int) = (((L s)[i]'h).toNat : Int) := by
  rw [← bt_at s (i : Int) h]; rfl
theorem bt_is (s : ByteArray) (i : Nat) (h : i < s.size) (c : UInt8) : bt s (i : Int) = (c.toNat : Int) ↔ (L s)[i]'h = c := by
  rw [bt_L s i h]
  refine ⟨fun e => UInt8.toNat.inj (by exact_mod_cast e), fun e => by rw [e]⟩
theorem rd_L (xs : List ByteArray) (i : Nat) (h : i < xs.length) : rdOf ByteArray.empty xs (i : Int) = xs[i] := by
  unfold rdOf
  rw [Int.toNat_natCast, List.getD_eq_getElem?_getD, List.getElem?_eq_getElem h]; rfl

theorem hasPrefix_f (a b : ByteArray) : strings_HasPrefix.f a b = some (decide (L b <+: L a)) := by
  unfold strings_HasPrefix.f stringslite_HasPrefix.f
  by_cases h : (b.size : Int) ≤ (a.size : Int)
  · rw [if_pos (by omega), if_pos (by omega), if_pos h, some_bind, toL, toL, Int.toNat_natCast, L_extract, List.drop_zero, size_L b]
    refine congrArg some ?_
    rw [Bool.eq_iff_iff, beq_iff_eq, decide_eq_true_iff, List.prefix_iff_eq_take]
    exact eq_comm
  · rw [if_neg (by omega), some_bind]
    refine congrArg some (Eq.symm (decide_eq_false fun e => ?_))
    have := e.length_le
    rw [← size_L, ← size_L] at this
    omega
theorem idx_neg (l : List UInt8) (c : UInt8) : Lib.indexByte l c < 0 ↔ c ∉ l := by
  induction l with
  | nil => simp [Lib.indexByte]
  | cons x l ih =>
    have h0 := Lib.indexByte_ge l c
    unfold Lib.indexByte
    by_cases hx : x = c
    · rw [if_pos (by simp [hx])]; simp [hx]
    · rw [if_neg (by simp [hx])]
      rw [List.mem_cons, not_or, ← ih]
      by_cases hm : Lib.indexByte l c = -1
      · rw [if_pos (by simp [hm]), hm]; simp [Ne.symm hx]
      · rw [if_neg (by simp [hm])]
        refine ⟨fun h => by omega, fun h => by omega⟩
theorem part_f (a : ByteArray) : path_Part.f a = some (isPart (L a)) := by
  have ix : ∀ c, strings_IndexByte.f a c = some (Lib.indexByte (L a) c.toNat.toUInt8) := fun _ => rfl
  unfold path_Part.f
  rw [toL, ix, ix, show ((47 : Int).toNat.toUInt8) = 47 from rfl, show ((0 : Int).toNat.toUInt8) = 0 from rfl, some_bind, some_bind, hasPrefix_f, some_bind, size_L]
  have e : (decide (L (⟨#[46, 119, 104, 46]⟩ : ByteArray) <+: L a)) = decide ((L a).take 4 = [46, 119, 104, 46]) := by
    rw [decide_eq_decide, List.prefix_iff_eq_take]
    exact eq_comm
  rw [e]
  have i1 := idx_neg (L a) 47
  have i2 := idx_neg (L a) 0
  generalize Lib.indexByte (L a) 47 = j1 at *
  generalize Lib.indexByte (L a) 0 = j2 at *
  unfold isPart
  generalize L a = l at *
  by_cases h1 : l = []
  · rw [if_pos h1]; simp [h1]
  rw [if_neg h1]
  by_cases h2 : l.length ≤ 60
  case neg => rw [if_neg (show ¬ (l.length : Int) ≤ 60 by omega), decide_eq_false (fun h => h2 h.2.1)]
  rw [if_pos (show (l.length : Int) ≤ 60 by omega)]
  by_cases h3 : 47 ∈ l
  · rw [if_neg (fun h => i1.1 h h3), decide_eq_false (fun h => h.2.2.1 h3)]
  rw [if_pos (i1.2 h3)]
  by_cases h4 : 0 ∈ l
  · rw [if_neg (fun h => i2.1 h h4), decide_eq_false (fun h => h.2.2.2.1 h4)]
  rw [if_pos (i2.2 h4)]
  by_cases h5 : l = [46]
  · rw [if_pos h5, decide_eq_false (fun h => h.2.2.2.2.1 h5)]
  rw [if_neg h5]
  by_cases h6 : l = [46, 46]
  · rw [if_pos h6, decide_eq_false (fun h => h.2.2.2.2.2.1 h6)]
  rw [if_neg h6]
  refine congrArg some ?_
  by_cases h7 : l.take 4 = [46, 119, 104, 46]
  · rw [decide_eq_true h7, decide_eq_false (fun h => h.2.2.2.2.2.2 h7)]; rfl
  · rw [decide_eq_false h7, decide_eq_true ⟨h1, h2, h3, h4, h5, h6, h7⟩]; rfl

theorem cutA_first : ∀ (l : List UInt8) (p : List UInt8) (i : Nat), Lib.indexByte l 47 = i → cutA p l = (p ++ l.take i) :: cut (l.drop (i + 1)) := by
  intro l
  induction l with
  | nil => intro p i h; simp [Lib.indexByte] at h
  | cons x l ih =>
    intro p i h
    have h0 := Lib.indexByte_ge l 47
    unfold Lib.indexByte at h
    unfold cutA
    by_cases hx : x = 47
    · rw [if_pos (by simp [hx])] at h
      obtain rfl : i = 0 := by omega
      rw [if_pos hx]; simp [cut]
    · rw [if_neg (by simp [hx])] at h
      rw [if_neg hx]
      by_cases hm : Lib.indexByte l 47 = -1
      · rw [if_pos (by simp [hm])] at h; omega
      · rw [if_neg (by simp [hm])] at h
        obtain ⟨j, rfl⟩ : ∃ j, i = j + 1 := ⟨i - 1, by omega⟩
        rw [ih (p ++ [x]) j (by omega)]
        simp
theorem splitK_cut : ∀ (n : Nat) (l : List UInt8), l.length ≤ n → Lib.splitK [47] 0 (l.count 47) l = cut l := by
  intro n
  induction n with
  | zero =>
    intro l h
    have : l = [] := List.eq_nil_of_length_eq_zero (by omega)
    subst this
    rfl
  | succ n ih =>
    intro l h
    by_cases hm : 47 ∈ l
    · obtain ⟨i, hi⟩ := Int.eq_ofNat_of_zero_le (show 0 ≤ Lib.indexByte l 47 by
        have := idx_neg l 47
        exact Int.not_lt.1 (fun e => this.1 e hm))
      have hs := Lib.indexByte_some hi
      have hlt : i < l.length := by
        have := hs.1
        exact (List.getElem?_eq_some_iff.1 this).1
      have hl : l = l.take i ++ 47 :: l.drop (i + 1) := by
        conv => lhs; rw [← List.take_append_drop i l, List.drop_eq_getElem_cons hlt]
        rw [(List.getElem?_eq_some_iff.1 hs.1).2]
      have hc : l.count 47 = (l.drop (i + 1)).count 47 + 1 := by
        conv => lhs; rw [hl]
        rw [List.count_append, List.count_cons, List.count_eq_zero_of_not_mem (a := 47) (l := l.take i)]
        · simp
        · intro hmem
          obtain ⟨k, hk, he⟩ := List.getElem_of_mem hmem
          rw [List.length_take] at hk
          rw [List.getElem_take] at he
          exact hs.2 k (by omega) (by rw [List.getElem?_eq_getElem (by omega), he])
      rw [hc, Lib.splitK, Lib.index_one, hi, if_neg (by simp)]
      have hr := ih (l.drop (i + 1)) (by rw [List.length_drop]; omega)
      unfold cut
      rw [cutA_first l [] i hi]
      simp only [Int.toNat_natCast, Nat.add_zero, List.nil_append, List.length_cons, List.length_nil, Nat.zero_add]
      rw [hr]
    · rw [List.count_eq_zero_of_not_mem hm, cut_none hm]; rfl
theorem split_e (a : ByteArray) (h : a.size ≤ 1000000) : strings_Split.f a (⟨#[47]⟩ : ByteArray) = some ((cut (L a)).map mkB) := by
  unfold strings_Split.f
  rw [if_pos (show (⟨#[47]⟩ : ByteArray).size = 1 from rfl), if_pos (by omega)]
  refine congrArg some ?_
  have h1 := Lib.splitB_data ⟨#[47]⟩ 0 (Lib.countB a ⟨#[47]⟩) a
  have h2 : Lib.countB a ⟨#[47]⟩ = (L a).count 47 := by
    show Lib.count (L a) [47] = _
    rw [Lib.count_one]
  rw [h2] at h1 ⊢
  have h3 : (Lib.splitB ⟨#[47]⟩ 0 ((L a).count 47) a).map (·.data.toList) = cut (L a) := h1.trans (splitK_cut _ _ (Nat.le_refl _))
  rw [← h3, List.map_map]
  conv => lhs; rw [← List.map_id (Lib.splitB _ _ _ _)]
  exact List.map_congr_left fun x _ => (mkB_L x).symm
theorem parts_l0 (x4 c : List ByteArray) (hc : c.length ≤ 1000000) : ∀ (f j k : Nat), j + f = c.length → f < k →
    path_parts.l0 k x4 c (c.length : Int) (j : Int) = some (if (c.drop j).all (fun x => isPart (L x)) then (x4, decide (x4.length ≤ 10)) else ([], false)) := by
  intro f
  induction f with
  | zero =>
    intro j k hj hk
    obtain ⟨k, rfl⟩ : ∃ m, k = m + 1 := ⟨k - 1, by omega⟩
    rw [path_parts.l0, if_neg (by omega), List.drop_of_length_le (by omega)]
    simp only [List.all_nil, if_true]
    refine congrArg some (congrArg (Prod.mk x4) ?_)
    rw [decide_eq_decide]; omega
  | succ f ih =>
    intro j k hj hk
    obtain ⟨k, rfl⟩ : ∃ m, k = m + 1 := ⟨k - 1, by omega⟩
    rw [path_parts.l0, if_pos (by omega), if_pos (by omega), if_pos (by omega), part_f, some_bind, rd_L _ _ (by omega), w_one j (by omega), ih (j + 1) k (by omega) (by omega), List.drop_eq_getElem_cons (show j < c.length by omega), List.all_cons]
    cases isPart (L c[j]) <;> rfl
theorem parts_f (a : ByteArray) (k : Nat) (hk : 300 ≤ k) : path_parts.f k a =
    some (if L a = [] then ([], true) else if 200 < (L a).length then ([], false) else if (cut (L a)).all isPart then ((cut (L a)).map mkB, decide ((cut (L a)).length ≤ 10)) else ([], false)) := by
  unfold path_parts.f
  rw [toL]
  by_cases h1 : L a = []
  · rw [if_pos h1, if_pos h1]
  rw [if_neg h1, if_neg h1]
  by_cases h2 : 200 < (L a).length
  · rw [if_pos (show (a.size : Int) > 200 by rw [size_L]; omega), if_pos h2]
  rw [if_neg (show ¬ (a.size : Int) > 200 by rw [size_L]; omega), if_neg h2, split_e a (by rw [size_L]; omega), some_bind]
  have hl := cut_len (L a)
  have := parts_l0 ((cut (L a)).map mkB) ((cut (L a)).map mkB) (by rw [List.length_map]; omega) (cut (L a)).length 0 k (by rw [List.length_map]; omega) (by omega)
  rw [show ((0 : Nat) : Int) = 0 from rfl] at this
  rw [this, List.drop_zero, List.all_map, List.length_map]
  rfl
theorem may_f (a : ByteArray) (k : Nat) (hk : 300 ≤ k) : path_May.f k a = some (may (L a)) := by
  unfold path_May.f
  rw [parts_f a k hk, some_bind]
  refine congrArg some ?_
  unfold may
  by_cases h1 : L a = []
  · rw [if_pos h1]; simp [h1]
  rw [if_neg h1]
  by_cases h2 : 200 < (L a).length
  · rw [if_pos h2]; simp [h1]; omega
  rw [if_neg h2]
  by_cases h3 : (cut (L a)).all isPart = true
  · rw [if_pos h3, decide_eq_decide]
    exact ⟨fun h => .inr ⟨by omega, h3, h⟩, fun h => h.elim (fun e => absurd e h1) (fun e => e.2.2)⟩
  · rw [if_neg h3]
    exact (decide_eq_false fun h => h.elim (fun e => h1 e) (fun e => h3 e.2.1)).symm
theorem last_l0 (s : ByteArray) (hs : s.size ≤ 1000000) : ∀ (n k : Nat), n ≤ s.size → n < k →
    ∃ r, bytealg_LastIndexByteString.l0 k s 47 ((n : Int) - 1) = some r ∧ ((47 ∉ (L s).take n ∧ r = -1) ∨ ∃ a b, (L s).take n = a ++ 47 :: b ∧ 47 ∉ b ∧ r = (a.length : Int)) := by
  intro n
  induction n with
  | zero =>
    intro k hn hk
    obtain ⟨k, rfl⟩ : ∃ m, k = m + 1 := ⟨k - 1, by omega⟩
    refine ⟨-1, ?_, .inl ⟨by simp, rfl⟩⟩
    rw [bytealg_LastIndexByteString.l0, if_neg (by omega)]
  | succ n ih =>
    intro k hn hk
    obtain ⟨k, rfl⟩ : ∃ m, k = m + 1 := ⟨k - 1, by omega⟩
    rw [bytealg_LastIndexByteString.l0, if_pos (by omega), if_pos (by omega), if_pos (by omega), show (((n + 1 : Nat) : Int) - 1) = (n : Int) by omega]
    have ht : (L s).take (n + 1) = (L s).take n ++ [(L s)[n]'(by rw [← size_L]; omega)] := by rw [List.take_add_one, List.getElem?_eq_getElem (by rw [← size_L]; omega)]; rfl
    by_cases hb : (L s)[n]'(by rw [← size_L]; omega) = 47
    · rw [if_pos (show bt s (n : Int) = 47 from (bt_is s n (by omega) 47).2 hb)]
      refine ⟨n, rfl, .inr ⟨(L s).take n, [], by rw [ht, hb], by simp, ?_⟩⟩
      rw [List.length_take, ← size_L, Nat.min_eq_left (by omega)]
    · rw [if_neg (show ¬ bt s (n : Int) = 47 from fun e => hb ((bt_is s n (by omega) 47).1 e)), wrap_in (by omega) (by omega)]
      obtain ⟨r, hr, hh⟩ := ih k (by omega) (by omega)
      refine ⟨r, hr, ?_⟩
      rw [ht]
      rcases hh with ⟨h1, h2⟩ | ⟨a, b, h1, h2, h3⟩
      · exact .inl ⟨by simp only [List.mem_append, List.mem_singleton, not_or]; exact ⟨h1, fun e => hb e.symm⟩, h2⟩
      · refine .inr ⟨a, b ++ [(L s)[n]'(by rw [← size_L]; omega)], by rw [h1]; simp, ?_, h3⟩
        simp only [List.mem_append, List.mem_singleton, not_or]; exact ⟨h2, fun e => hb e.symm⟩
theorem last_f (s : ByteArray) (hs : s.size ≤ 1000) (k : Nat) (hk : 1100 ≤ k) :
    ∃ r, strings_LastIndexByte.f k s 47 = some r ∧ ((47 ∉ L s ∧ r = -1) ∨ ∃ a b, L s = a ++ 47 :: b ∧ 47 ∉ b ∧ r = (a.length : Int)) := by
  obtain ⟨r, hr, hh⟩ := last_l0 s (by omega) s.size k (Nat.le_refl _) (by omega)
  refine ⟨r, ?_, ?_⟩
  · unfold strings_LastIndexByte.f bytealg_LastIndexByteString.f
    rw [wrap_in (by omega) (by omega), hr]; rfl
  · rw [size_L, List.take_length] at hh
    exact hh
theorem may_size {l : List UInt8} (h : may l = true) : l.length ≤ 200 := by
  rcases of_decide_eq_true h with h | h
  · rw [h]; exact Nat.zero_le _
  · exact h.1
theorem parent_f (a : ByteArray) (k : Nat) (hk : 1100 ≤ k) : path_Parent.f k a = some (if L a = [] then (mkB [], false) else if may (L a) then (mkB (dir (L a)), true) else (mkB [], false)) := by
  unfold path_Parent.f
  rw [toL]
  by_cases h1 : L a = []
  · rw [if_pos h1, if_pos h1]; rfl
  rw [if_neg h1, if_neg h1, may_f a k (by omega), some_bind]
  cases hm : may (L a)
  · rfl
  · have hz := may_size hm
    obtain ⟨r, hr, hh⟩ := last_f a (by rw [size_L]; omega) k hk
    rw [if_pos rfl, if_pos rfl, hr, some_bind]
    rcases hh with ⟨h2, rfl⟩ | ⟨x, y, h2, h3, rfl⟩
    · rw [show mx (-1) 0 = 0 by decide, if_pos (by omega), if_pos (by omega), dir_none h2]
      refine congrArg some (congrArg (·, true) (L_inj ?_))
      rw [L_extract]; simp [L_mkB]
    · have hl := congrArg List.length h2
      rw [← size_L] at hl
      simp only [List.length_append, List.length_cons] at hl
      rw [show mx (x.length : Int) 0 = (x.length : Int) by unfold mx; split <;> omega, if_pos (by omega), if_pos (by omega), h2, dir_slash h3]
      refine congrArg some (congrArg (·, true) (L_inj ?_))
      rw [L_extract, h2, L_mkB, Int.toNat_natCast]; simp
theorem base_f (a : ByteArray) (k : Nat) (hk : 1100 ≤ k) : path_Base.f k a = some (mkB (if may (L a) then base (L a) else [])) := by
  unfold path_Base.f
  rw [may_f a k (by omega), some_bind]
  cases hm : may (L a)
  · rfl
  · have hz := may_size hm
    obtain ⟨r, hr, hh⟩ := last_f a (by rw [size_L]; omega) k hk
    rw [if_pos rfl, if_pos rfl, hr, some_bind]
    rcases hh with ⟨h2, rfl⟩ | ⟨x, y, h2, h3, rfl⟩
    · rw [show wrap64 (-1 + 1) = 0 by rw [wrap_in (by omega) (by omega)]; rfl, if_pos (by omega), if_pos (by omega), base_none h2]
      refine congrArg some (L_inj ?_)
      rw [L_extract, L_mkB, size_L, List.take_length]; rfl
    · have hl := congrArg List.length h2
      rw [← size_L] at hl
      simp only [List.length_append, List.length_cons] at hl
      have hz' := hz
      rw [← size_L] at hz'
      rw [w_one x.length (by omega), if_pos (by omega), if_pos (by omega), h2, base_slash h3]
      refine congrArg some (L_inj ?_)
      rw [L_extract, size_L, List.take_length, h2, L_mkB, Int.toNat_natCast]; simp
theorem all_map_mkB (r : List (List UInt8)) : (r.map mkB).map L = r := by
  rw [List.map_map]; conv => rhs; rw [← List.map_id r]
  exact List.map_congr_left fun x _ => rfl
def fin (x : List UInt8) : ByteArray × Bool := if may x then (mkB x, true) else (mkB [], false)
end Go.Proofs.YthbdbgjggoobnaaDoor.PaTh
/- Trees in plain words: which nodes are good, which lists are trees; that the printed functions come to that; lists compared. -/
namespace Go.Proofs.YthbdbgjggoobnaaDoor.TreeTh
open Go.RowKit Go.Proofs.YthbdbgjggoobnaaDoorX Go.Proofs.YthbdbgjggoobnaaDoorW.PrintWords Go.Proofs.YthbdbgjggoobnaaDoorW.PrintLast Go.Proofs.YthbdbgjggoobnaaDoorW.PrintMore Go.Proofs.YthbdbgjggoobnaaDoor.P Go.Proofs.YthbdbgjggoobnaaDoor.Pa Go.Proofs.YthbdbgjggoobnaaDoor.PaTh
set_option linter.unusedVariables false
set_option linter.unusedSimpArgs false
abbrev Nd := S35
def z0 : Nd := z35
def at_ (t : List Nd) (j : Nat) : Nd := t.getD j z0
theorem rdN (t : List Nd) (j : Nat) : rd_T35 t (j : Int) = at_ t j := by unfold rd_T35 at_; rw [Int.toNat_natCast]; rfl
theorem at_lt (t : List Nd) (j : Nat) (h : j < t.length) : at_ t j = t[j] := by unfold at_; rw [List.getD_eq_getElem?_getD, List.getElem?_eq_getElem h]; rfl
theorem Nd_ext {a b : Nd} (h0 : a.f0 = b.f0) (h1 : a.f1 = b.f1) (h2 : a.f2 = b.f2) : a = b := by cases a; cases b; simp_all
theorem beqD {α : Type} [BEq α] [LawfulBEq α] [DecidableEq α] (a b : α) : (a == b) = decide (a = b) := by rw [Bool.eq_iff_iff]; simp
theorem Nd_eta (a : Nd) : (⟨a.f0, a.f1, a.f2⟩ : Nd) = a := rfl
/-- May a node be? -/
def good (p : List UInt8) (kd : Int) (d : List UInt8) : Bool := may p && (decide (d.length ≤ 400) && (if kd = 1 then decide (d = []) else if kd = 2 then true else if kd = 3 then true else if kd = 4 then decide (d ≠ [] ∧ 0 ∉ d) else false))
def goodN (n : Nd) : Bool := good (L n.f0) n.f1 (L n.f2)
theorem good_f (a c : ByteArray) (b : Int) (k : Nat) (hk : 302 ≤ k) : tree_Good.f k a b c = some (good (L a) b (L c)) := by
  obtain ⟨k, rfl⟩ : ∃ m, k = m + 2 := ⟨k - 2, by omega⟩
  have ix : strings_IndexByte.f c 0 = some (Lib.indexByte (L c) 0) := rfl
  unfold tree_Good.f good
  rw [may_f a _ (by omega), some_bind]
  cases may (L a)
  · rw [if_neg (by simp), tree_Good.j0, if_pos rfl]; rfl
  · rw [if_pos rfl, tree_Good.j0]
    by_cases h : (L c).length ≤ 400
    · rw [decide_eq_false (show ¬ (c.size : Int) > 400 by rw [size_L]; omega), if_neg (by simp), decide_eq_true h]
      by_cases h1 : b = 1
      · rw [if_pos h1, if_pos h1, toL, beqD]; rfl
      rw [if_neg h1, if_neg h1]
      by_cases h2 : b = 2
      · rw [if_pos h2, if_pos h2, tree_Good.j1, if_pos (by rw [h2]; rfl)]; rfl
      rw [if_neg h2, if_neg h2, tree_Good.j1]
      by_cases h3 : b = 3
      · rw [if_pos (by rw [h3]; rfl), if_pos h3]; rfl
      rw [if_neg (by simpa using h3), if_neg h3]
      by_cases h4 : b = 4
      · rw [if_pos h4, if_pos h4, toL]
        by_cases h5 : L c = []
        · rw [if_pos h5]; simp [h5]
        · rw [if_neg h5, ix, some_bind]
          refine congrArg some ?_
          rw [Bool.true_and, Bool.true_and, decide_eq_decide, idx_neg]
          exact ⟨fun e => ⟨h5, e⟩, fun e => e.2⟩
      · rw [if_neg h4, if_neg h4]; rfl
    · rw [decide_eq_true (show (c.size : Int) > 400 by rw [size_L]; omega), if_pos rfl, decide_eq_false h]; rfl
/-- May a node's path stand behind others? -/
def fol (n : List UInt8) (l : List Nd) : Bool := if l.length = 0 then decide (n = []) else decide (n ≠ []) && may n && (Op.bytesLess (L (at_ l (l.length - 1)).f0) n && dirOf l (mkB (dir n)))
theorem fol_f (n : ByteArray) (l : List Nd) (hl : l.length ≤ 1000000) (k : Nat) (hk : 1100 ≤ k) : tree_follows.f k n l = some (fol (L n) l) := by
  unfold tree_follows.f fol
  by_cases h : l.length = 0
  · rw [if_pos h, if_pos h, toL, beqD]
  rw [if_neg h, if_neg h, parent_f n k hk, some_bind, show wrap64 ((l.length : Int) - 1) = ((l.length - 1 : Nat) : Int) by rw [wrap_in (by omega) (by omega)]; omega, rdN, toL, toL]
  by_cases h1 : L n = []
  · rw [if_pos h1, if_pos (by unfold maxLen; decide)]; simp [h1]
  rw [if_neg h1]
  cases hm : may (L n)
  · simp only [Bool.false_eq_true, if_false]
    rw [if_pos (show (mkB []).size ≤ maxLen by unfold maxLen; decide)]; simp
  · rw [if_pos rfl]
    have hd : (mkB (dir (L n))).size ≤ maxLen := by
      have := may_size hm
      obtain h' | ⟨a, b, h', hb⟩ := last_cases (L n)
      · rw [dir_none h']; unfold maxLen; decide
      · rw [h'] at this ⊢
        rw [dir_slash hb, size_L, L_mkB]
        simp only [List.length_append, List.length_cons] at this
        unfold maxLen; omega
    rw [if_pos hd]; simp [h1]
def badGo (t : List Nd) : Nat → Nat → Int
  | 0, _ => -1
  | f + 1, j => if 400 ≤ j then (j : Int) else if goodN (at_ t j) = true then (if fol (L (at_ t j).f0) (t.take j) = true then badGo t f (j + 1) else (j : Int)) else (j : Int)
def bad (t : List Nd) : Int := if t.length = 0 then 0 else badGo t t.length 0
def mayT (t : List Nd) : Bool := decide (bad t < 0)
theorem badGo_f (t : List Nd) (hl : t.length ≤ 1000000) (k : Nat) (hk : 1100 ≤ k) : ∀ f j, j + f ≤ 1000000 → tree_Bad.go k t f j = some (badGo t f j) := by
  intro f
  induction f with
  | zero => intro j _; rfl
  | succ f ih =>
    intro j hj
    rw [tree_Bad.go, badGo]
    by_cases h4 : 400 ≤ j
    · rw [if_pos h4, if_pos h4]
    rw [if_neg h4, if_neg h4, rdN, good_f _ _ _ k (by omega), some_bind]
    show (if goodN (at_ t j) = true then _ else _) = _
    cases hg : goodN (at_ t j)
    · rfl
    rw [if_pos rfl, if_pos rfl, fol_f _ _ (by rw [List.length_take]; omega) k hk, some_bind]
    cases fol (L (at_ t j).f0) (t.take j)
    · rfl
    rw [if_pos rfl, if_pos rfl]
    have hs : (at_ t j).f0.size ≤ maxLen := by
      unfold goodN good at hg
      rw [Bool.and_eq_true] at hg
      have := may_size hg.1
      rw [size_L]; unfold maxLen; omega
    rw [if_pos hs]
    exact ih (j + 1) (by omega)
theorem bad_f (t : List Nd) (hl : t.length ≤ 1000000) (k : Nat) (hk : 1100 ≤ k) : tree_Bad.f k t = some (bad t) := by
  unfold tree_Bad.f bad
  by_cases h : t.length = 0
  · rw [if_pos h, if_pos h]
  · rw [if_neg h, if_neg h, if_pos hl]
    exact badGo_f t hl k hk _ _ (by omega)
theorem mayT_f (t : List Nd) (hl : t.length ≤ 1000000) (k : Nat) (hk : 1100 ≤ k) : tree_May.f k t = some (mayT t) := by
  unfold tree_May.f mayT
  rw [bad_f t hl k hk, some_bind]
/-- What is asked of each place of a tree. -/
def okAt (t : List Nd) (j : Nat) : Bool := decide (j < 400) && (goodN (at_ t j) && fol (L (at_ t j).f0) (t.take j))
theorem badGo_neg (t : List Nd) : ∀ f j, (badGo t f j < 0 ↔ ∀ i, j ≤ i → i < j + f → okAt t i = true) := by
  intro f
  induction f with
  | zero => intro j; rw [badGo]; exact ⟨fun _ i h1 h2 => by omega, fun _ => by omega⟩
  | succ f ih =>
    intro j
    rw [badGo]
    have hj : okAt t j = (decide (j < 400) && (goodN (at_ t j) && fol (L (at_ t j).f0) (t.take j))) := rfl
    by_cases h4 : 400 ≤ j
    · rw [if_pos h4]
      refine ⟨fun h => by omega, fun h => ?_⟩
      have := h j (Nat.le_refl _) (by omega)
      rw [hj, decide_eq_false (by omega)] at this
      simp at this
    rw [if_neg h4]
    rw [decide_eq_true (show j < 400 by omega), Bool.true_and] at hj
    cases hg : goodN (at_ t j)
    · rw [if_neg (by simp)]
      refine ⟨fun h => by omega, fun h => ?_⟩
      have := h j (Nat.le_refl _) (by omega)
      rw [hj, hg] at this
      simp at this
    rw [if_pos rfl]
    cases hf : fol (L (at_ t j).f0) (t.take j)
    · rw [if_neg (by simp)]
      refine ⟨fun h => by omega, fun h => ?_⟩
      have := h j (Nat.le_refl _) (by omega)
      rw [hj, hg, hf] at this
      simp at this
    rw [if_pos rfl, ih (j + 1)]
    rw [hg, hf] at hj
    refine ⟨fun h i h1 h2 => ?_, fun h i h1 h2 => h i (by omega) (by omega)⟩
    by_cases e : i = j
    · subst e; exact hj
    · exact h i (by omega) (by omega)
theorem mayT_iff (t : List Nd) : mayT t = true ↔ t.length ≠ 0 ∧ ∀ i, i < t.length → okAt t i = true := by
  unfold mayT bad
  rw [decide_eq_true_iff]
  by_cases h : t.length = 0
  · rw [if_pos h]; exact ⟨fun e => by omega, fun e => absurd h e.1⟩
  · rw [if_neg h, badGo_neg]
    exact ⟨fun e => ⟨h, fun i hi => e i (Nat.zero_le _) (by omega)⟩, fun e i _ hi => e.2 i (by omega)⟩
theorem mayT_good {t : List Nd} (h : mayT t = true) : t ≠ [] ∧ t.length ≤ 400 ∧ ∀ n ∈ t, goodN n = true := by
  obtain ⟨h0, h1⟩ := (mayT_iff t).1 h
  refine ⟨fun e => h0 (by rw [e]; rfl), ?_, fun n hn => ?_⟩
  · have := h1 (t.length - 1) (by omega)
    unfold okAt at this
    rw [Bool.and_eq_true, decide_eq_true_iff] at this
    omega
  · obtain ⟨i, hi, rfl⟩ := List.mem_iff_getElem.1 hn
    have := h1 i hi
    unfold okAt at this
    rw [Bool.and_eq_true, Bool.and_eq_true, at_lt t i hi] at this
    exact this.2.1
theorem goodN_size {n : Nd} (h : goodN n = true) : (L n.f0).length ≤ 200 ∧ (L n.f2).length ≤ 400 ∧ 1 ≤ n.f1 ∧ n.f1 ≤ 4 := by
  unfold goodN good at h
  rw [Bool.and_eq_true, Bool.and_eq_true, decide_eq_true_iff] at h
  obtain ⟨h1, h2, h3⟩ := h
  refine ⟨may_size h1, h2, ?_⟩
  by_cases e1 : n.f1 = 1
  · omega
  rw [if_neg e1] at h3
  by_cases e2 : n.f1 = 2
  · omega
  rw [if_neg e2] at h3
  by_cases e3 : n.f1 = 3
  · omega
  rw [if_neg e3] at h3
  by_cases e4 : n.f1 = 4
  · omega
  rw [if_neg e4] at h3
  cases h3
/-- Are nodes more than is gone through? -/
def great (t : List Nd) (m : Nat) : Bool := decide (m < t.length) || t.any (fun x => decide (300 < (L x.f0).length) || decide (500 < (L x.f2).length))
theorem great_l0 (t : List Nd) (m : Nat) (hm : t.length ≤ m) (hm' : m ≤ 1000000) : ∀ (f j k : Nat), j + f = t.length → 2 * f + 1 < k → hogsheadlaw0_GreatNodes.l0 k t (m : Int) (j : Int) = some ((t.drop j).any (fun x => decide (300 < (L x.f0).length) || decide (500 < (L x.f2).length))) := by
  intro f
  induction f with
  | zero =>
    intro j k hj hk
    obtain ⟨k, rfl⟩ : ∃ m, k = m + 2 := ⟨k - 2, by omega⟩
    rw [hogsheadlaw0_GreatNodes.l0, if_neg (by omega), hogsheadlaw0_GreatNodes.j1, if_neg (by simp), List.drop_of_length_le (by omega)]
    rw [decide_eq_false (by omega)]; rfl
  | succ f ih =>
    intro j k hj hk
    obtain ⟨k, rfl⟩ : ∃ m, k = m + 2 := ⟨k - 2, by omega⟩
    rw [hogsheadlaw0_GreatNodes.l0, if_pos (by omega), hogsheadlaw0_GreatNodes.j1, if_pos (decide_eq_true (by omega)), if_pos (by omega), if_pos (by omega), rdN, w_one j (by omega), List.drop_eq_getElem_cons (show j < t.length by omega), List.any_cons, ← at_lt t j (by omega)]
    by_cases h1 : ((at_ t j).f0.size : Int) > 300
    · rw [if_pos h1, decide_eq_true (show 300 < (L (at_ t j).f0).length by rw [← size_L]; omega)]; rfl
    rw [if_neg h1, decide_eq_false (show ¬ 300 < (L (at_ t j).f0).length by rw [← size_L]; omega)]
    by_cases h2 : ((at_ t j).f2.size : Int) > 500
    · rw [if_pos h2, decide_eq_true (show 500 < (L (at_ t j).f2).length by rw [← size_L]; omega)]; rfl
    rw [if_neg h2, decide_eq_false (show ¬ 500 < (L (at_ t j).f2).length by rw [← size_L]; omega), ih (j + 1) k (by omega) (by omega)]
    rfl
theorem great_f (t : List Nd) (m : Nat) (hm' : m ≤ 1000) (ht : t.length ≤ 9223372036854775807) (k : Nat) (hk : 2100 ≤ k) : hogsheadlaw0_GreatNodes.f k t (m : Int) = some (great t m) := by
  unfold hogsheadlaw0_GreatNodes.f great
  by_cases h : t.length ≤ m
  · rw [show (0 : Int) = ((0 : Nat) : Int) from rfl, great_l0 t m h (by omega) t.length 0 k (by omega) (by omega), decide_eq_false (by omega)]; rfl
  · obtain ⟨k, rfl⟩ : ∃ m, k = m + 2 := ⟨k - 2, by omega⟩
    rw [hogsheadlaw0_GreatNodes.l0, if_pos (by omega), hogsheadlaw0_GreatNodes.j1, if_neg (by rw [decide_eq_false (by omega)]; simp), decide_eq_true (by omega), decide_eq_true (show m < t.length by omega)]; rfl
theorem great_not {t : List Nd} {m : Nat} (h : ¬ great t m = true) : t.length ≤ m ∧ ∀ x ∈ t, (L x.f0).length ≤ 300 ∧ (L x.f2).length ≤ 500 := by
  unfold great at h
  rw [Bool.or_eq_true, not_or, decide_eq_true_iff] at h
  refine ⟨by omega, fun x hx => ?_⟩
  have := h.2
  rw [Bool.not_eq_true, List.any_eq_false] at this
  have := this x hx
  rw [Bool.or_eq_true, not_or, decide_eq_true_iff, decide_eq_true_iff] at this
  omega
/-- Are two lists the same? -/
def eqN (a b : Nd) : Bool := decide (L a.f0 = L b.f0) && (decide (a.f1 = b.f1) && decide (L a.f2 = L b.f2))
theorem eqN_iff (a b : Nd) : eqN a b = true ↔ a = b := by
  unfold eqN
  rw [Bool.and_eq_true, Bool.and_eq_true, decide_eq_true_iff, decide_eq_true_iff, decide_eq_true_iff]
  exact ⟨fun h => Nd_ext (L_inj h.1) h.2.1 (L_inj h.2.2), fun h => by rw [h]; exact ⟨rfl, rfl, rfl⟩⟩
def sameN : List Nd → List Nd → Bool
  | [], [] => true
  | x :: a, y :: b => eqN x y && sameN a b
  | _, _ => false
theorem sameN_iff : ∀ (a b : List Nd), sameN a b = true ↔ a = b
  | [], [] => by simp [sameN]
  | [], y :: b => by simp [sameN]
  | x :: a, [] => by simp [sameN]
  | x :: a, y :: b => by rw [sameN, Bool.and_eq_true, eqN_iff, sameN_iff a b]; simp
theorem sameN_self (a : List Nd) : sameN a a = true := (sameN_iff a a).2 rfl
end Go.Proofs.YthbdbgjggoobnaaDoor.TreeTh
/- A tree's paths: each one behind the one ahead of it; where a path stands. -/
namespace Go.Proofs.YthbdbgjggoobnaaDoor.TreeUp
open Go.RowKit Go.Proofs.YthbdbgjggoobnaaDoorX Go.Proofs.YthbdbgjggoobnaaDoorW.PrintWords Go.Proofs.YthbdbgjggoobnaaDoorW.PrintLast Go.Proofs.YthbdbgjggoobnaaDoorW.PrintMore Go.Proofs.YthbdbgjggoobnaaDoor.P Go.Proofs.YthbdbgjggoobnaaDoor.Pa Go.Proofs.YthbdbgjggoobnaaDoor.PaTh Go.Proofs.YthbdbgjggoobnaaDoor.TreeTh
set_option linter.unusedVariables false
set_option linter.unusedSimpArgs false
/-- Strictly in order. -/
def up (t : List Nd) : Prop := ∀ i j, i < j → j < t.length → Op.bytesLess (L (at_ t i).f0) (L (at_ t j).f0) = true
theorem less_not {a b : List UInt8} (h : Op.bytesLess a b = true) : Op.bytesLess b a = false := by
  have := less_tri a b
  rw [h] at this
  rw [← this]
  rfl
theorem less_irr (a : List UInt8) : Op.bytesLess a a = false := by
  rw [← less_tri a a]; simp
theorem less_trans : ∀ {a b c : List UInt8}, Op.bytesLess a b = true → Op.bytesLess b c = true → Op.bytesLess a c = true := by
  intro a
  induction a with
  | nil =>
    intro b c h1 h2
    cases b with
    | nil => simp [Op.bytesLess] at h1
    | cons y b => cases c with
      | nil => simp [Op.bytesLess] at h2
      | cons z c => rfl
  | cons x a ih =>
    intro b c h1 h2
    cases b with
    | nil => simp [Op.bytesLess] at h1
    | cons y b =>
      cases c with
      | nil => simp [Op.bytesLess] at h2
      | cons z c =>
        simp only [Op.bytesLess, Bool.or_eq_true, Bool.and_eq_true, decide_eq_true_iff, beq_iff_eq, UInt8.lt_iff_toNat_lt] at h1 h2 ⊢
        rcases h1 with h1 | ⟨rfl, h1⟩
        · rcases h2 with h2 | ⟨rfl, h2⟩
          · exact .inl (by omega)
          · exact .inl h1
        · rcases h2 with h2 | ⟨rfl, h2⟩
          · exact .inl h2
          · exact .inr ⟨rfl, ih h1 h2⟩
theorem at_take (t : List Nd) (i j : Nat) (h : i < j) : at_ (t.take j) i = at_ t i := by
  unfold at_; rw [List.getD_eq_getElem?_getD, List.getD_eq_getElem?_getD, List.getElem?_take_of_lt h]
/-- What each node behind the first is. -/
theorem ok_fol {t : List Nd} {i : Nat} (h : okAt t i = true) (hi : 1 ≤ i) (hl : i < t.length) : i < 400 ∧ goodN (at_ t i) = true ∧ L (at_ t i).f0 ≠ [] ∧ may (L (at_ t i).f0) = true ∧ Op.bytesLess (L (at_ t (i - 1)).f0) (L (at_ t i).f0) = true ∧ dirOf (t.take i) (mkB (dir (L (at_ t i).f0))) = true := by
  unfold okAt at h
  rw [Bool.and_eq_true, Bool.and_eq_true, decide_eq_true_iff] at h
  obtain ⟨h1, h2, h3⟩ := h
  unfold fol at h3
  have hlen : (t.take i).length = i := by rw [List.length_take]; omega
  rw [hlen, if_neg (by omega), at_take t (i - 1) i (by omega), Bool.and_eq_true, Bool.and_eq_true, Bool.and_eq_true, decide_eq_true_iff] at h3
  exact ⟨h1, h2, h3.1.1, h3.1.2, h3.2.1, h3.2.2⟩
theorem up_may {t : List Nd} (h : mayT t = true) : up t := by
  obtain ⟨h0, h1⟩ := (mayT_iff t).1 h
  have hs : ∀ i d, i + d + 1 < t.length → Op.bytesLess (L (at_ t i).f0) (L (at_ t (i + d + 1)).f0) = true := by
    intro i d
    induction d with
    | zero =>
      intro hi
      exact (ok_fol (h1 (i + 0 + 1) hi) (by omega) hi).2.2.2.2.1
    | succ d ih =>
      intro hi
      exact less_trans (ih (by omega)) (ok_fol (h1 (i + (d + 1) + 1) hi) (by omega) hi).2.2.2.2.1
  intro i j hij hj
  obtain ⟨d, rfl⟩ : ∃ d, j = i + d + 1 := ⟨j - i - 1, by omega⟩
  exact hs i d hj
/-- No two nodes of a tree have one path. -/
theorem up_inj {t : List Nd} (hu : up t) {i j : Nat} (hi : i < t.length) (hj : j < t.length) (h : L (at_ t i).f0 = L (at_ t j).f0) : i = j := by
  rcases Nat.lt_trichotomy i j with e | e | e
  · have := hu i j e hj; rw [h, less_irr] at this; cases this
  · exact e
  · have := hu j i e hi; rw [h, less_irr] at this; cases this
theorem less_pre : ∀ (p a b : List UInt8), Op.bytesLess (p ++ a) (p ++ b) = Op.bytesLess a b
  | [], a, b => rfl
  | x :: p, a, b => by
    rw [List.cons_append, List.cons_append, Op.bytesLess, less_pre p a b]
    have : ¬ x < x := by simp only [UInt8.lt_iff_toNat_lt]; omega
    simp [this]
end Go.Proofs.YthbdbgjggoobnaaDoor.TreeUp
/- A tree's bytes in plain words: how they are laid, how they are read, and that the one undoes the other. -/
namespace Go.Proofs.YthbdbgjggoobnaaDoor.NarTh
open Go.RowKit Go.Proofs.YthbdbgjggoobnaaDoorX Go.Proofs.YthbdbgjggoobnaaDoorW.PrintWords Go.Proofs.YthbdbgjggoobnaaDoorW.PrintLast Go.Proofs.YthbdbgjggoobnaaDoorW.PrintMore Go.Proofs.YthbdbgjggoobnaaDoor.P Go.Proofs.YthbdbgjggoobnaaDoor.Pa Go.Proofs.YthbdbgjggoobnaaDoor.PaTh Go.Proofs.YthbdbgjggoobnaaDoor.TreeTh
open Go.Proofs.YthbdbgjggoobnaaDoor.Bs (strOfNums_bytesOf)
set_option linter.unusedVariables false
set_option linter.unusedSimpArgs false
/-! ### numbers -/
def byteAt (n : Int) (i : Nat) : Int := (shr .u64 (IntKind.u64.wrap (n)) (IntKind.u64.wrap (wrap64 (8 * (wrap64 (7 - (i : Int))))))) % 256
def enc8 (n : Int) : List Int := (List.range 8).map (byteAt n)
theorem enc8_len (n : Int) : (enc8 n).length = 8 := by simp [enc8]
theorem clone_f (l : List Int) (h : l.length < 140737488355328) : slices_Clone_byte_byte.f l = some l := by
  unfold slices_Clone_byte_byte.f
  rw [some_bind, if_pos (by simpa using h)]; rfl
theorem u64_nonneg (x : Int) : 0 ≤ IntKind.u64.wrap x := by rw [Bs.u64_wrap]; omega
theorem num_l0 (n : Int) (l : List Int) (hl : l.length ≤ 1000000000000) : ∀ (f j k : Nat), j + f = 8 → f < k → nar_Num.l0 k n (l ++ ((List.range 8).take j).map (byteAt n)) (j : Int) = some (l ++ enc8 n) := by
  intro f
  induction f with
  | zero =>
    intro j k hj hk
    obtain ⟨k, rfl⟩ : ∃ m, k = m + 1 := ⟨k - 1, by omega⟩
    obtain rfl : j = 8 := by omega
    rw [nar_Num.l0, if_neg (by omega)]; rfl
  | succ f ih =>
    intro j k hj hk
    obtain ⟨k, rfl⟩ : ∃ m, k = m + 1 := ⟨k - 1, by omega⟩
    have hlen : (l ++ ((List.range 8).take j).map (byteAt n)).length < 140737488355328 := by simp; omega
    rw [nar_Num.l0, if_pos (by omega), if_pos (u64_nonneg _), if_pos hlen, w_one j (by omega)]
    have ht : ((List.range 8).take (j + 1)).map (byteAt n) = ((List.range 8).take j).map (byteAt n) ++ [byteAt n j] := by
      rw [List.take_add_one, List.getElem?_range (by omega)]; simp
    have := ih (j + 1) k (by omega) (by omega)
    rw [ht, ← List.append_assoc] at this
    exact this
theorem num_f (l : List Int) (hl : l.length ≤ 1000000000000) (n : Int) (k : Nat) (hk : 9 ≤ k) : nar_Num.f k l n = some (l ++ enc8 n) := by
  unfold nar_Num.f
  rw [clone_f l (by omega), some_bind]
  have := num_l0 n l hl 8 0 k (by omega) (by omega)
  simpa using this
theorem enc8_list (n : Int) (h0 : 0 ≤ n) (h1 : n < 4611686018427387904) : enc8 n = [n / 72057594037927936 % 256, n / 281474976710656 % 256, n / 1099511627776 % 256, n / 4294967296 % 256, n / 16777216 % 256, n / 65536 % 256, n / 256 % 256, n / 1 % 256] := by
  have e : IntKind.u64.wrap n = n := by rw [Bs.u64_wrap]; omega
  unfold enc8 byteAt
  rw [e]
  clear e h0 h1
  have w : ∀ i : Nat, i < 8 → IntKind.u64.wrap (wrap64 (8 * wrap64 (7 - (i : Int)))) = 8 * (7 - (i : Int)) := by decide +kernel
  have s : ∀ (y : Int) (p : Int), (2 : Int) ^ min y.toNat (IntKind.bits .u64) = p → shr .u64 n y = n / p := fun y p h => by unfold shr; rw [h]
  rw [show List.range 8 = [0, 1, 2, 3, 4, 5, 6, 7] from rfl]
  simp only [List.map_cons, List.map_nil]
  rw [w 0 (by omega), w 1 (by omega), w 2 (by omega), w 3 (by omega), w 4 (by omega), w 5 (by omega), w 6 (by omega), w 7 (by omega)]
  rw [s (8 * (7 - ((0 : Nat) : Int))) 72057594037927936 (by decide), s (8 * (7 - ((1 : Nat) : Int))) 281474976710656 (by decide), s (8 * (7 - ((2 : Nat) : Int))) 1099511627776 (by decide), s (8 * (7 - ((3 : Nat) : Int))) 4294967296 (by decide), s (8 * (7 - ((4 : Nat) : Int))) 16777216 (by decide), s (8 * (7 - ((5 : Nat) : Int))) 65536 (by decide), s (8 * (7 - ((6 : Nat) : Int))) 256 (by decide), s (8 * (7 - ((7 : Nat) : Int))) 1 (by decide)]
/-! ### texts -/
def padN (s : ByteArray) : List Int := List.replicate (((8 - ((s.size : Int) % 8)) % 8 : Int)).toNat 0
def encT (s : ByteArray) : List Int := enc8 (s.size : Int) ++ (bytesOf s ++ padN s)
theorem padN_len (s : ByteArray) : ((padN s).length : Int) = (8 - (s.size : Int) % 8) % 8 := by unfold padN; rw [List.length_replicate]; omega
theorem encT_len (s : ByteArray) : ((encT s).length : Int) = 8 + s.size + (8 - (s.size : Int) % 8) % 8 := by
  unfold encT
  rw [List.length_append, List.length_append, enc8_len, bytesOf_length]
  have := padN_len s
  push_cast
  omega
theorem text_f (l : List Int) (hl : l.length ≤ 100000000000) (s : ByteArray) (hs : s.size ≤ 1000000000) (k : Nat) (hk : 9 ≤ k) : nar_Text.f k l s = some (l ++ encT s) := by
  unfold nar_Text.f
  rw [num_f l (by omega) _ k hk, some_bind, if_pos (by rw [List.length_append, enc8_len]; omega), some_bind, if_pos (by omega), if_pos (by rw [List.length_append, List.length_append, enc8_len, bytesOf_length]; omega)]
  refine congrArg some ?_
  unfold encT padN
  rw [List.append_assoc, List.append_assoc]
end Go.Proofs.YthbdbgjggoobnaaDoor.NarTh
