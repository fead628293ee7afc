/- Strings as lists of bytes: what is cut, joined, compared, there and back. -/
import Derived.Test.YtcijimdogddbeaaDoorWWords
import Derived.Test.YtcijimdogddbeaaDoorWLast
import Derived.Test.YtcijimdogddbeaaDoorXMore
import Derived.Lib.SplitLaws
import Derived.Lib.Join
import Derived.Test.YtcijimdogddbeaaDoorPx
namespace Go.Proofs.YtcijimdogddbeaaDoor.Bs
open Go.RowKit Go.Proofs.YtcijimdogddbeaaDoorW.PrintWords

def Bytes (l : List Int) : Prop := ∀ x ∈ l, 0 ≤ x ∧ x ≤ 255
theorem Bytes.take {l : List Int} (h : Bytes l) (n : Nat) : Bytes (l.take n) := fun x hx => h x (List.mem_of_mem_take hx)
theorem Bytes.drop {l : List Int} (h : Bytes l) (n : Nat) : Bytes (l.drop n) := fun x hx => h x (List.mem_of_mem_drop hx)
theorem Bytes.append {a b : List Int} (h : Bytes a) (k : Bytes b) : Bytes (a ++ b) := fun x hx => (List.mem_append.1 hx).elim (h x) (k x)
theorem bytesOf_bytes (s : ByteArray) : Bytes (bytesOf s) := by
  intro x hx
  simp only [bytesOf, List.mem_map] at hx
  obtain ⟨b, _, rfl⟩ := hx
  have := b.toNat_lt
  omega
theorem bytesOf_append (a b : ByteArray) : bytesOf (a ++ b) = bytesOf a ++ bytesOf b := by simp [bytesOf]
theorem bytesOf_extract (s : ByteArray) (a b : Nat) : bytesOf (s.extract a b) = ((bytesOf s).take b).drop a := by
  simp only [bytesOf, ByteArray.data_extract, Array.toList_extract, List.extract_eq_take_drop, List.map_drop, List.map_take]
  rw [List.drop_take]
theorem bytesOf_lit (l : List UInt8) : bytesOf ⟨l.toArray⟩ = l.map fun b => (b.toNat : Int) := rfl
theorem bytesOf_inj {a b : ByteArray} (h : bytesOf a = bytesOf b) : a = b := by
  refine ByteArray.ext (Array.ext' ?_)
  unfold bytesOf at h
  exact (List.map_inj_right (fun x y e => by
    have e' : x.toNat = y.toNat := by exact_mod_cast e
    exact UInt8.toNat.inj e')).1 h
theorem toList_inj {a b : ByteArray} : a.toList = b.toList ↔ a = b := by
  rw [ByteArray.toList_eq, ByteArray.toList_eq]
  exact ⟨fun h => ByteArray.ext (Array.ext' h), fun h => by rw [h]⟩
theorem toList_nil {a : ByteArray} : a.toList = [] ↔ bytesOf a = [] := by
  rw [ByteArray.toList_eq]; simp [bytesOf]
theorem size_bytes (s : ByteArray) : s.size = (bytesOf s).length := (bytesOf_length s).symm
theorem bytesOf_strOfNums {l : List Int} (h : Bytes l) : bytesOf (strOfNums l) = l := by
  simp only [bytesOf, strOfNums, List.map_map]
  conv => rhs; rw [← List.map_id l]
  refine List.map_congr_left fun x hx => ?_
  have := h x hx
  simp only [Function.comp, id]
  rw [UInt8.toNat_ofNat']
  omega
theorem strOfNums_bytesOf (s : ByteArray) : strOfNums (bytesOf s) = s := bytesOf_inj (bytesOf_strOfNums (bytesOf_bytes s))
theorem bt_getD (s : ByteArray) (i : Int) : bt s i = (bytesOf s).getD i.toNat 0 := (rd_bytesOf s i).symm
theorem bt_byte (s : ByteArray) (i : Int) : 0 ≤ bt s i ∧ bt s i ≤ 255 := bt_range s i
theorem wrap_in {a : Int} (h : -9223372036854775808 ≤ a) (h' : a ≤ 9223372036854775807) : wrap64 a = a := by unfold wrap64; omega
theorem some_bind {α β : Type} (a : α) (f : α → Option β) : (some a).bind f = f a := rfl
theorem u64_wrap (n : Int) : IntKind.u64.wrap n = n % 18446744073709551616 := rfl
theorem low_expr (x n : Int) (h : 1 ≤ n) (h' : n ≤ 4611686018427387904) :
    (if (IntKind.u64.wrap n) = 0 then (none : Option Int) else (some (wrap64 (Int.tmod (IntKind.u64.wrap x) (IntKind.u64.wrap n))))) = some ((x % 18446744073709551616) % n) := by
  have e1 : IntKind.u64.wrap n = n := by rw [u64_wrap]; omega
  rw [e1, u64_wrap x, if_neg (by omega), Int.tmod_eq_emod_of_nonneg (by omega)]
  have h1 : 0 ≤ x % 18446744073709551616 % n := Int.emod_nonneg _ (by omega)
  have h2 : x % 18446744073709551616 % n < n := Int.emod_lt_of_pos _ (by omega)
  rw [wrap_in (by omega) (by omega)]
/-- A number from 0 to below n. -/
theorem low_range (x n : Int) (h : 1 ≤ n) : 0 ≤ (x % 18446744073709551616) % n ∧ (x % 18446744073709551616) % n < n := ⟨Int.emod_nonneg _ (by omega), Int.emod_lt_of_pos _ (by omega)⟩
end Go.Proofs.YtcijimdogddbeaaDoor.Bs
/- Plain theory of paths: texts as lists of bytes, cut at the slash and joined again; what a part, a path, a parent, a base and a place under a path are. -/
namespace Go.Proofs.YtcijimdogddbeaaDoor.Pa
set_option linter.unusedVariables false
set_option linter.unusedSimpArgs false

def L (s : ByteArray) : List UInt8 := s.data.toList
def mkB (l : List UInt8) : ByteArray := ⟨l.toArray⟩
theorem L_mkB (l : List UInt8) : L (mkB l) = l := rfl
theorem L_inj {a b : ByteArray} (h : L a = L b) : a = b := ByteArray.ext (Array.ext' h)
theorem mkB_L (s : ByteArray) : mkB (L s) = s := L_inj rfl
theorem toL (s : ByteArray) : s.toList = L s := ByteArray.toList_eq s
theorem L_append (a b : ByteArray) : L (a ++ b) = L a ++ L b := by simp [L]
theorem L_extract (s : ByteArray) (a b : Nat) : L (s.extract a b) = ((L s).take b).drop a := by
  simp only [L, ByteArray.data_extract, Array.toList_extract, List.extract_eq_take_drop]
  rw [List.drop_take]
theorem size_L (s : ByteArray) : s.size = (L s).length := rfl

def cutA : List UInt8 → List UInt8 → List (List UInt8)
  | p, [] => [p]
  | p, x :: l => if x = 47 then p :: cutA [] l else cutA (p ++ [x]) l
def cut (l : List UInt8) : List (List UInt8) := cutA [] l
theorem cutA_ne (l : List UInt8) : ∀ p, cutA p l ≠ [] := by
  induction l with
  | nil => intro p; simp [cutA]
  | cons x l ih => intro p; unfold cutA; split; simp; exact ih _
theorem cutA_slash (b : List UInt8) : ∀ (a p : List UInt8), cutA p (a ++ 47 :: b) = cutA p a ++ cut b := by
  intro a
  induction a with
  | nil => intro p; simp [cutA, cut]
  | cons x a ih =>
    intro p
    simp only [List.cons_append, cutA]
    split
    · rw [ih]; rfl
    · rw [ih]
theorem cutA_none : ∀ (l p : List UInt8), 47 ∉ l → cutA p l = [p ++ l] := by
  intro l
  induction l with
  | nil => intro p h; simp [cutA]
  | cons x l ih =>
    intro p h
    unfold cutA
    rw [if_neg (fun e => h (by simp [e])), ih _ (fun e => h (by simp [e]))]
    simp
theorem cut_slash (a b : List UInt8) : cut (a ++ 47 :: b) = cut a ++ cut b := cutA_slash b a []
theorem cut_none {l : List UInt8} (h : 47 ∉ l) : cut l = [l] := cutA_none l [] h
theorem cut_ne (l : List UInt8) : cut l ≠ [] := cutA_ne l []
theorem cutA_noslash : ∀ (l p : List UInt8), 47 ∉ p → ∀ x ∈ cutA p l, 47 ∉ x := by
  intro l
  induction l with
  | nil => intro p h x hx; simp [cutA] at hx; rw [hx]; exact h
  | cons y l ih =>
    intro p h x hx
    unfold cutA at hx
    split at hx
    · rcases List.mem_cons.1 hx with rfl | hx
      · exact h
      · exact ih [] (by simp) x hx
    · exact ih (p ++ [y]) (by simp only [List.mem_append, List.mem_singleton, not_or]; exact ⟨h, fun e => by simp_all⟩) x hx
/-- Parts, joined by slashes. -/
def T (r : List (List UInt8)) : List UInt8 := (r.map (47 :: ·)).flatten
def J : List (List UInt8) → List UInt8
  | [] => []
  | x :: r => x ++ T r
theorem T_cons (x : List UInt8) (r : List (List UInt8)) : T (x :: r) = 47 :: (x ++ T r) := by simp [T]
theorem T_append (a b : List (List UInt8)) : T (a ++ b) = T a ++ T b := by simp [T]
theorem T_J {r : List (List UInt8)} (h : r ≠ []) : T r = 47 :: J r := by
  cases r with
  | nil => exact absurd rfl h
  | cons x r => rw [T_cons]; rfl
theorem join_J (r : List (List UInt8)) : Lib.join r [47] = J r := by
  cases r with
  | nil => rfl
  | cons x r => rw [Lib.join_cons]; rfl
theorem J_append {a b : List (List UInt8)} (h : a ≠ []) : J (a ++ b) = J a ++ T b := by
  cases a with
  | nil => exact absurd rfl h
  | cons x a => simp [J, T_append]
theorem J_cutA : ∀ (l p : List UInt8), J (cutA p l) = p ++ l := by
  intro l
  induction l with
  | nil => intro p; simp [cutA, J, T]
  | cons x l ih =>
    intro p
    unfold cutA
    split
    · rename_i e
      simp only [J]
      rw [T_J (cutA_ne _ _), ih, e]; rfl
    · rw [ih]; simp
theorem J_cut (l : List UInt8) : J (cut l) = l := J_cutA l []
theorem cut_J : ∀ (r : List (List UInt8)), r ≠ [] → (∀ x ∈ r, 47 ∉ x) → cut (J r) = r := by
  intro r
  induction r with
  | nil => intro h; exact absurd rfl h
  | cons x r ih =>
    intro _ hx
    have h1 : 47 ∉ x := hx x (by simp)
    by_cases hr : r = []
    · subst hr
      simp only [J, T, List.map_nil, List.flatten_nil, List.append_nil]
      exact cut_none h1
    · simp only [J]
      rw [T_J hr, cut_slash, cut_none h1, ih hr (fun y hy => hx y (by simp [hy]))]; rfl
theorem T_length_one (r : List (List UInt8)) (x : List UInt8) (h : x ∈ r) : x.length ≤ (T r).length := by
  induction r with
  | nil => cases h
  | cons z r ih =>
    rw [T_cons]; simp only [List.length_cons, List.length_append]
    rcases List.mem_cons.1 h with rfl | h
    · omega
    · have := ih h; omega
theorem J_length_one (r : List (List UInt8)) (x : List UInt8) (h : x ∈ r) : x.length ≤ (J r).length := by
  cases r with
  | nil => cases h
  | cons y r =>
    simp only [J, List.length_append]
    rcases List.mem_cons.1 h with rfl | h
    · omega
    · have := T_length_one r x h
      omega

theorem cutA_len : ∀ (l p : List UInt8), (cutA p l).length ≤ l.length + 1 := by
  intro l
  induction l with
  | nil => intro p; simp [cutA]
  | cons x l ih =>
    intro p
    unfold cutA
    split
    · have := ih []; simp only [List.length_cons]; omega
    · have := ih (p ++ [x]); simp only [List.length_cons]; omega
theorem cut_len (l : List UInt8) : (cut l).length ≤ l.length + 1 := cutA_len l []
def isPart (l : List UInt8) : Bool := decide (l ≠ [] ∧ l.length ≤ 60 ∧ 47 ∉ l ∧ 0 ∉ l ∧ l ≠ [46] ∧ l ≠ [46, 46] ∧ l.take 4 ≠ [46, 119, 104, 46])
theorem part_ne {l : List UInt8} (h : isPart l = true) : l ≠ [] := (of_decide_eq_true h).1
theorem part_noslash {l : List UInt8} (h : isPart l = true) : 47 ∉ l := (of_decide_eq_true h).2.2.1
def may (l : List UInt8) : Bool := decide (l = [] ∨ (l.length ≤ 200 ∧ (cut l).all isPart = true ∧ (cut l).length ≤ 10))
theorem may_nil : may [] = true := by decide
def split (l : List UInt8) : List (List UInt8) := if l = [] then [] else if may l then cut l else []
def dir (l : List UInt8) : List UInt8 := J (cut l).dropLast
def base (l : List UInt8) : List UInt8 := (cut l).getLastD []
def U (a b : List UInt8) : Prop := a = b ∨ b = [] ∨ b ++ [47] <+: a
instance (a b) : Decidable (U a b) := by unfold U; infer_instance
def under (a b : List UInt8) : Bool := may a && may b && decide (U a b)
/-- Either no slash, or cut at the last one. -/
theorem last_cases (l : List UInt8) : 47 ∉ l ∨ ∃ a b, l = a ++ 47 :: b ∧ 47 ∉ b := by
  induction l with
  | nil => exact .inl (by simp)
  | cons x l ih =>
    rcases ih with h | ⟨a, b, rfl, hb⟩
    · by_cases hx : x = 47
      · exact .inr ⟨[], l, by rw [hx]; rfl, h⟩
      · exact .inl (by simp only [List.mem_cons, not_or]; exact ⟨fun e => hx e.symm, h⟩)
    · exact .inr ⟨x :: a, b, rfl, hb⟩
theorem dir_none {l : List UInt8} (h : 47 ∉ l) : dir l = [] := by unfold dir; rw [cut_none h]; rfl
theorem base_none {l : List UInt8} (h : 47 ∉ l) : base l = l := by unfold base; rw [cut_none h]; rfl
theorem dir_slash {a b : List UInt8} (h : 47 ∉ b) : dir (a ++ 47 :: b) = a := by unfold dir; rw [cut_slash, cut_none h, List.dropLast_concat, J_cut]
theorem base_slash {a b : List UInt8} (h : 47 ∉ b) : base (a ++ 47 :: b) = b := by unfold base; rw [cut_slash, cut_none h]; simp [List.getLastD_eq_getLast?]
theorem may_parts {l : List UInt8} (h : may l = true) (hl : l ≠ []) : l.length ≤ 200 ∧ (∀ x ∈ cut l, isPart x = true) ∧ (cut l).length ≤ 10 := by
  rcases of_decide_eq_true h with h | ⟨h1, h2, h3⟩
  · exact absurd h hl
  · exact ⟨h1, List.all_eq_true.1 h2, h3⟩
theorem may_mk {l : List UInt8} (h1 : l.length ≤ 200) (h2 : ∀ x ∈ cut l, isPart x = true) (h3 : (cut l).length ≤ 10) : may l = true :=
  decide_eq_true (.inr ⟨h1, List.all_eq_true.2 h2, h3⟩)
theorem may_ne_split {l : List UInt8} (h : may l = true) (hl : l ≠ []) : split l = cut l := by unfold split; rw [if_neg hl, if_pos h]
/-- The parent of a path: a path, of one part less, and shorter. -/
theorem dir_spec {l : List UInt8} (h : may l = true) (hl : l ≠ []) :
    may (dir l) = true ∧ split (dir l) = (cut l).dropLast ∧ (dir l).length < l.length ∧ (dir l = [] ∨ dir l ++ [47] <+: l) ∧ split l = split (dir l) ++ [base l] ∧ isPart (base l) = true := by
  obtain ⟨h1, h2, h3⟩ := may_parts h hl
  rcases last_cases l with hn | ⟨a, b, rfl, hb⟩
  · have hc := cut_none hn
    rw [dir_none hn, base_none hn, may_ne_split h hl, hc]
    refine ⟨rfl, rfl, ?_, .inl rfl, rfl, ?_⟩
    · cases l with
      | nil => exact absurd rfl hl
      | cons x l => simp
    · exact h2 l (by rw [hc]; simp)
  · have hc : cut (a ++ 47 :: b) = cut a ++ [b] := by rw [cut_slash, cut_none hb]
    rw [dir_slash hb, base_slash hb, may_ne_split h hl, hc]
    rw [hc] at h2 h3
    have ha : a ≠ [] := by
      rintro rfl
      exact part_ne (h2 [] (by simp [cut, cutA])) rfl
    have hma : may a = true := may_mk (by simp at h1; omega) (fun x hx => h2 x (by simp [hx])) (by simp at h3; omega)
    rw [may_ne_split hma ha, List.dropLast_concat]
    refine ⟨hma, rfl, by simp, .inr ?_, rfl, h2 b (by simp)⟩
    exact ⟨b, by simp⟩
theorem U_self (a : List UInt8) : U a a := .inl rfl
theorem U_nil (a : List UInt8) : U a [] := .inr (.inl rfl)
theorem U_len {a b : List UInt8} (h : U a b) : b.length ≤ a.length := by
  rcases h with rfl | rfl | h
  · exact Nat.le_refl _
  · exact Nat.zero_le _
  · have := h.length_le; simp at this; omega
theorem U_pre {a b : List UInt8} (h : U a b) : b <+: a := by
  rcases h with rfl | rfl | h
  · exact List.prefix_refl _
  · exact List.nil_prefix
  · exact (List.prefix_append b [47]).trans h
theorem U_anti {a b : List UInt8} (h : U a b) (k : U b a) : a = b :=
  ((U_pre k).eq_of_length (Nat.le_antisymm (U_len k) (U_len h)))
theorem U_trans {a b c : List UInt8} (h : U a b) (k : U b c) : U a c := by
  rcases k with rfl | rfl | k
  · exact h
  · exact U_nil _
  · exact .inr (.inr (k.trans (U_pre h)))
theorem U_or {a b c : List UInt8} (h : U a b) (k : U a c) : U b c ∨ U c b := by
  rcases h with rfl | rfl | h
  · exact .inl k
  · exact .inr (U_nil _)
  · rcases k with rfl | rfl | k
    · exact .inr (.inr (.inr h))
    · exact .inl (U_nil _)
    · rcases Nat.lt_trichotomy b.length c.length with hlt | he | hlt
      · refine .inr (.inr (.inr ?_))
        exact List.prefix_of_prefix_length_le h ((List.prefix_append c [47]).trans k) (by simp; omega)
      · refine .inl (.inl ?_)
        have := List.prefix_of_prefix_length_le h k (by simp; omega)
        exact List.append_cancel_right (this.eq_of_length (by simp; omega))
      · refine .inl (.inr (.inr ?_))
        exact List.prefix_of_prefix_length_le k ((List.prefix_append b [47]).trans h) (by simp; omega)
theorem less_prefix : ∀ (b a : List UInt8), b <+: a → Op.bytesLess a b = false := by
  intro b
  induction b with
  | nil => intro a _; cases a <;> rfl
  | cons x b ih =>
    rintro _ ⟨t, rfl⟩
    simp only [List.cons_append, Op.bytesLess]
    rw [ih _ ⟨t, rfl⟩]
    simp [UInt8.lt_irrefl]
end Go.Proofs.YtcijimdogddbeaaDoor.Pa
/- The printed functions of package path are the plain ones: those that a seat's print has. -/
namespace Go.Proofs.YtcijimdogddbeaaDoor.PaTh
open Go.RowKit Go.Proofs.YtcijimdogddbeaaDoorX Go.Proofs.YtcijimdogddbeaaDoorW.PrintWords Go.Proofs.YtcijimdogddbeaaDoorW.PrintLast Go.Proofs.YtcijimdogddbeaaDoorW.PrintMore Go.Proofs.YtcijimdogddbeaaDoor.P Go.Proofs.YtcijimdogddbeaaDoor.Pa
set_option linter.unusedVariables false
set_option linter.unusedSimpArgs false

theorem wrap_in {a : Int} (h : -9223372036854775808 ≤ a) (h' : a ≤ 9223372036854775807) : wrap64 a = a := by unfold wrap64; omega
theorem some_bind {α β : Type} (a : α) (f : α → Option β) : (some a).bind f = f a := rfl
theorem w_one (i : Nat) (h : i ≤ 1000000000000) : wrap64 ((i : Int) + 1) = ((i + 1 : Nat) : Int) := by rw [wrap_in (by omega) (by omega)]; omega
theorem lit_e (l : List UInt8) : (⟨l.toArray⟩ : ByteArray) = mkB l := rfl
theorem nil_e : (⟨#[]⟩ : ByteArray) = mkB [] := rfl
theorem bt_L (s : ByteArray) (i : Nat) (h : i < s.size) : bt s (i : Int) = (((L s)[i]'h).toNat : Int) := by
  rw [← bt_at s (i : Int) h]; rfl
theorem bt_is (s : ByteArray) (i : Nat) (h : i < s.size) (c : UInt8) : bt s (i : Int) = (c.toNat : Int) ↔ (L s)[i]'h = c := by
  rw [bt_L s i h]
  refine ⟨fun e => UInt8.toNat.inj (by exact_mod_cast e), fun e => by rw [e]⟩
theorem rd_L (xs : List ByteArray) (i : Nat) (h : i < xs.length) : rdOf ByteArray.empty xs (i : Int) = xs[i] := by
  unfold rdOf
  rw [Int.toNat_natCast, List.getD_eq_getElem?_getD, List.getElem?_eq_getElem h]; rfl

theorem hasPrefix_f (a b : ByteArray) : strings_HasPrefix.f a b = some (decide (L b <+: L a)) := by
  unfold strings_HasPrefix.f stringslite_HasPrefix.f
  by_cases h : (b.size : Int) ≤ (a.size : Int)
  · rw [if_pos (by omega), if_pos (by omega), if_pos h, some_bind, toL, toL, Int.toNat_natCast, L_extract, List.drop_zero, size_L b]
    refine congrArg some ?_
    rw [Bool.eq_iff_iff, beq_iff_eq, decide_eq_true_iff, List.prefix_iff_eq_take]
    exact eq_comm
  · rw [if_neg (by omega), some_bind]
    refine congrArg some (Eq.symm (decide_eq_false fun e => ?_))
    have := e.length_le
    rw [← size_L, ← size_L] at this
    omega
theorem idx_neg (l : List UInt8) (c : UInt8) : Lib.indexByte l c < 0 ↔ c ∉ l := by
  induction l with
  | nil => simp [Lib.indexByte]
  | cons x l ih =>
    have h0 := Lib.indexByte_ge l c
    unfold Lib.indexByte
    by_cases hx : x = c
    · rw [if_pos (by simp [hx])]; simp [hx]
    · rw [if_neg (by simp [hx])]
      rw [List.mem_cons, not_or, ← ih]
      by_cases hm : Lib.indexByte l c = -1
      · rw [if_pos (by simp [hm]), hm]; simp [Ne.symm hx]
      · rw [if_neg (by simp [hm])]
        refine ⟨fun h => by omega, fun h => by omega⟩
theorem part_f (a : ByteArray) : path_Part.f a = some (isPart (L a)) := by
  have ix : ∀ c, strings_IndexByte.f a c = some (Lib.indexByte (L a) c.toNat.toUInt8) := fun _ => rfl
  unfold path_Part.f
  rw [toL, ix, ix, show ((47 : Int).toNat.toUInt8) = 47 from rfl, show ((0 : Int).toNat.toUInt8) = 0 from rfl, some_bind, some_bind, hasPrefix_f, some_bind, size_L]
  have e : (decide (L (⟨#[46, 119, 104, 46]⟩ : ByteArray) <+: L a)) = decide ((L a).take 4 = [46, 119, 104, 46]) := by
    rw [decide_eq_decide, List.prefix_iff_eq_take]
    exact eq_comm
  rw [e]
  have i1 := idx_neg (L a) 47
  have i2 := idx_neg (L a) 0
  generalize Lib.indexByte (L a) 47 = j1 at *
  generalize Lib.indexByte (L a) 0 = j2 at *
  unfold isPart
  generalize L a = l at *
  by_cases h1 : l = []
  · rw [if_pos h1]; simp [h1]
  rw [if_neg h1]
  by_cases h2 : l.length ≤ 60
  case neg => rw [if_neg (show ¬ (l.length : Int) ≤ 60 by omega), decide_eq_false (fun h => h2 h.2.1)]
  rw [if_pos (show (l.length : Int) ≤ 60 by omega)]
  by_cases h3 : 47 ∈ l
  · rw [if_neg (fun h => i1.1 h h3), decide_eq_false (fun h => h.2.2.1 h3)]
  rw [if_pos (i1.2 h3)]
  by_cases h4 : 0 ∈ l
  · rw [if_neg (fun h => i2.1 h h4), decide_eq_false (fun h => h.2.2.2.1 h4)]
  rw [if_pos (i2.2 h4)]
  by_cases h5 : l = [46]
  · rw [if_pos h5, decide_eq_false (fun h => h.2.2.2.2.1 h5)]
  rw [if_neg h5]
  by_cases h6 : l = [46, 46]
  · rw [if_pos h6, decide_eq_false (fun h => h.2.2.2.2.2.1 h6)]
  rw [if_neg h6]
  refine congrArg some ?_
  by_cases h7 : l.take 4 = [46, 119, 104, 46]
  · rw [decide_eq_true h7, decide_eq_false (fun h => h.2.2.2.2.2.2 h7)]; rfl
  · rw [decide_eq_false h7, decide_eq_true ⟨h1, h2, h3, h4, h5, h6, h7⟩]; rfl

theorem cutA_first : ∀ (l : List UInt8) (p : List UInt8) (i : Nat), Lib.indexByte l 47 = i → cutA p l = (p ++ l.take i) :: cut (l.drop (i + 1)) := by
  intro l
  induction l with
  | nil => intro p i h; simp [Lib.indexByte] at h
  | cons x l ih =>
    intro p i h
    have h0 := Lib.indexByte_ge l 47
    unfold Lib.indexByte at h
    unfold cutA
    by_cases hx : x = 47
    · rw [if_pos (by simp [hx])] at h
      obtain rfl : i = 0 := by omega
      rw [if_pos hx]; simp [cut]
    · rw [if_neg (by simp [hx])] at h
      rw [if_neg hx]
      by_cases hm : Lib.indexByte l 47 = -1
      · rw [if_pos (by simp [hm])] at h; omega
      · rw [if_neg (by simp [hm])] at h
        obtain ⟨j, rfl⟩ : ∃ j, i = j + 1 := ⟨i - 1, by omega⟩
        rw [ih (p ++ [x]) j (by omega)]
        simp
theorem splitK_cut : ∀ (n : Nat) (l : List UInt8), l.length ≤ n → Lib.splitK [47] 0 (l.count 47) l = cut l := by
  intro n
  induction n with
  | zero =>
    intro l h
    have : l = [] := List.eq_nil_of_length_eq_zero (by omega)
    subst this
    rfl
  | succ n ih =>
    intro l h
    by_cases hm : 47 ∈ l
    · obtain ⟨i, hi⟩ := Int.eq_ofNat_of_zero_le (show 0 ≤ Lib.indexByte l 47 by
        have := idx_neg l 47
        exact Int.not_lt.1 (fun e => this.1 e hm))
      have hs := Lib.indexByte_some hi
      have hlt : i < l.length := by
        have := hs.1
        exact (List.getElem?_eq_some_iff.1 this).1
      have hl : l = l.take i ++ 47 :: l.drop (i + 1) := by
        conv => lhs; rw [← List.take_append_drop i l, List.drop_eq_getElem_cons hlt]
        rw [(List.getElem?_eq_some_iff.1 hs.1).2]
      have hc : l.count 47 = (l.drop (i + 1)).count 47 + 1 := by
        conv => lhs; rw [hl]
        rw [List.count_append, List.count_cons, List.count_eq_zero_of_not_mem (a := 47) (l := l.take i)]
        · simp
        · intro hmem
          obtain ⟨k, hk, he⟩ := List.getElem_of_mem hmem
          rw [List.length_take] at hk
          rw [List.getElem_take] at he
          exact hs.2 k (by omega) (by rw [List.getElem?_eq_getElem (by omega), he])
      rw [hc, Lib.splitK, Lib.index_one, hi, if_neg (by simp)]
      have hr := ih (l.drop (i + 1)) (by rw [List.length_drop]; omega)
      unfold cut
      rw [cutA_first l [] i hi]
      simp only [Int.toNat_natCast, Nat.add_zero, List.nil_append, List.length_cons, List.length_nil, Nat.zero_add]
      rw [hr]
    · rw [List.count_eq_zero_of_not_mem hm, cut_none hm]; rfl
theorem split_e (a : ByteArray) (h : a.size ≤ 1000000) : strings_Split.f a (⟨#[47]⟩ : ByteArray) = some ((cut (L a)).map mkB) := by
  unfold strings_Split.f
  rw [if_pos (show (⟨#[47]⟩ : ByteArray).size = 1 from rfl), if_pos (by omega)]
  refine congrArg some ?_
  have h1 := Lib.splitB_data ⟨#[47]⟩ 0 (Lib.countB a ⟨#[47]⟩) a
  have h2 : Lib.countB a ⟨#[47]⟩ = (L a).count 47 := by
    show Lib.count (L a) [47] = _
    rw [Lib.count_one]
  rw [h2] at h1 ⊢
  have h3 : (Lib.splitB ⟨#[47]⟩ 0 ((L a).count 47) a).map (·.data.toList) = cut (L a) := h1.trans (splitK_cut _ _ (Nat.le_refl _))
  rw [← h3, List.map_map]
  conv => lhs; rw [← List.map_id (Lib.splitB _ _ _ _)]
  exact List.map_congr_left fun x _ => (mkB_L x).symm
theorem parts_l0 (x4 c : List ByteArray) (hc : c.length ≤ 1000000) : ∀ (f j k : Nat), j + f = c.length → f < k →
    path_parts.l0 k x4 c (c.length : Int) (j : Int) = some (if (c.drop j).all (fun x => isPart (L x)) then (x4, decide (x4.length ≤ 10)) else ([], false)) := by
  intro f
  induction f with
  | zero =>
    intro j k hj hk
    obtain ⟨k, rfl⟩ : ∃ m, k = m + 1 := ⟨k - 1, by omega⟩
    rw [path_parts.l0, if_neg (by omega), List.drop_of_length_le (by omega)]
    simp only [List.all_nil, if_true]
    refine congrArg some (congrArg (Prod.mk x4) ?_)
    rw [decide_eq_decide]; omega
  | succ f ih =>
    intro j k hj hk
    obtain ⟨k, rfl⟩ : ∃ m, k = m + 1 := ⟨k - 1, by omega⟩
    rw [path_parts.l0, if_pos (by omega), if_pos (by omega), if_pos (by omega), part_f, some_bind, rd_L _ _ (by omega), w_one j (by omega), ih (j + 1) k (by omega) (by omega), List.drop_eq_getElem_cons (show j < c.length by omega), List.all_cons]
    cases isPart (L c[j]) <;> rfl
theorem parts_f (a : ByteArray) (k : Nat) (hk : 300 ≤ k) : path_parts.f k a =
    some (if L a = [] then ([], true) else if 200 < (L a).length then ([], false) else if (cut (L a)).all isPart then ((cut (L a)).map mkB, decide ((cut (L a)).length ≤ 10)) else ([], false)) := by
  unfold path_parts.f
  rw [toL]
  by_cases h1 : L a = []
  · rw [if_pos h1, if_pos h1]
  rw [if_neg h1, if_neg h1]
  by_cases h2 : 200 < (L a).length
  · rw [if_pos (show (a.size : Int) > 200 by rw [size_L]; omega), if_pos h2]
  rw [if_neg (show ¬ (a.size : Int) > 200 by rw [size_L]; omega), if_neg h2, split_e a (by rw [size_L]; omega), some_bind]
  have hl := cut_len (L a)
  have := parts_l0 ((cut (L a)).map mkB) ((cut (L a)).map mkB) (by rw [List.length_map]; omega) (cut (L a)).length 0 k (by rw [List.length_map]; omega) (by omega)
  rw [show ((0 : Nat) : Int) = 0 from rfl] at this
  rw [this, List.drop_zero, List.all_map, List.length_map]
  rfl
theorem may_f (a : ByteArray) (k : Nat) (hk : 300 ≤ k) : path_May.f k a = some (may (L a)) := by
  unfold path_May.f
  rw [parts_f a k hk, some_bind]
  refine congrArg some ?_
  unfold may
  by_cases h1 : L a = []
  · rw [if_pos h1]; simp [h1]
  rw [if_neg h1]
  by_cases h2 : 200 < (L a).length
  · rw [if_pos h2]; simp [h1]; omega
  rw [if_neg h2]
  by_cases h3 : (cut (L a)).all isPart = true
  · rw [if_pos h3, decide_eq_decide]
    exact ⟨fun h => .inr ⟨by omega, h3, h⟩, fun h => h.elim (fun e => absurd e h1) (fun e => e.2.2)⟩
  · rw [if_neg h3]
    exact (decide_eq_false fun h => h.elim (fun e => h1 e) (fun e => h3 e.2.1)).symm
theorem last_l0 (s : ByteArray) (hs : s.size ≤ 1000000) : ∀ (n k : Nat), n ≤ s.size → n < k →
    ∃ r, bytealg_LastIndexByteString.l0 k s 47 ((n : Int) - 1) = some r ∧ ((47 ∉ (L s).take n ∧ r = -1) ∨ ∃ a b, (L s).take n = a ++ 47 :: b ∧ 47 ∉ b ∧ r = (a.length : Int)) := by
  intro n
  induction n with
  | zero =>
    intro k hn hk
    obtain ⟨k, rfl⟩ : ∃ m, k = m + 1 := ⟨k - 1, by omega⟩
    refine ⟨-1, ?_, .inl ⟨by simp, rfl⟩⟩
    rw [bytealg_LastIndexByteString.l0, if_neg (by omega)]
  | succ n ih =>
    intro k hn hk
    obtain ⟨k, rfl⟩ : ∃ m, k = m + 1 := ⟨k - 1, by omega⟩
    rw [bytealg_LastIndexByteString.l0, if_pos (by omega), if_pos (by omega), if_pos (by omega), show (((n + 1 : Nat) : Int) - 1) = (n : Int) by omega]
    have ht : (L s).take (n + 1) = (L s).take n ++ [(L s)[n]'(by rw [← size_L]; omega)] := by rw [List.take_add_one, List.getElem?_eq_getElem (by rw [← size_L]; omega)]; rfl
    by_cases hb : (L s)[n]'(by rw [← size_L]; omega) = 47
    · rw [if_pos (show bt s (n : Int) = 47 from (bt_is s n (by omega) 47).2 hb)]
      refine ⟨n, rfl, .inr ⟨(L s).take n, [], by rw [ht, hb], by simp, ?_⟩⟩
      rw [List.length_take, ← size_L, Nat.min_eq_left (by omega)]
    · rw [if_neg (show ¬ bt s (n : Int) = 47 from fun e => hb ((bt_is s n (by omega) 47).1 e)), wrap_in (by omega) (by omega)]
      obtain ⟨r, hr, hh⟩ := ih k (by omega) (by omega)
      refine ⟨r, hr, ?_⟩
      rw [ht]
      rcases hh with ⟨h1, h2⟩ | ⟨a, b, h1, h2, h3⟩
      · exact .inl ⟨by simp only [List.mem_append, List.mem_singleton, not_or]; exact ⟨h1, fun e => hb e.symm⟩, h2⟩
      · refine .inr ⟨a, b ++ [(L s)[n]'(by rw [← size_L]; omega)], by rw [h1]; simp, ?_, h3⟩
        simp only [List.mem_append, List.mem_singleton, not_or]; exact ⟨h2, fun e => hb e.symm⟩
theorem last_f (s : ByteArray) (hs : s.size ≤ 1000) (k : Nat) (hk : 1100 ≤ k) :
    ∃ r, strings_LastIndexByte.f k s 47 = some r ∧ ((47 ∉ L s ∧ r = -1) ∨ ∃ a b, L s = a ++ 47 :: b ∧ 47 ∉ b ∧ r = (a.length : Int)) := by
  obtain ⟨r, hr, hh⟩ := last_l0 s (by omega) s.size k (Nat.le_refl _) (by omega)
  refine ⟨r, ?_, ?_⟩
  · unfold strings_LastIndexByte.f bytealg_LastIndexByteString.f
    rw [wrap_in (by omega) (by omega), hr]; rfl
  · rw [size_L, List.take_length] at hh
    exact hh
theorem may_size {l : List UInt8} (h : may l = true) : l.length ≤ 200 := by
  rcases of_decide_eq_true h with h | h
  · rw [h]; exact Nat.zero_le _
  · exact h.1
theorem parent_f (a : ByteArray) (k : Nat) (hk : 1100 ≤ k) : path_Parent.f k a = some (if L a = [] then (mkB [], false) else if may (L a) then (mkB (dir (L a)), true) else (mkB [], false)) := by
  unfold path_Parent.f
  rw [toL]
  by_cases h1 : L a = []
  · rw [if_pos h1, if_pos h1]; rfl
  rw [if_neg h1, if_neg h1, may_f a k (by omega), some_bind]
  cases hm : may (L a)
  · rfl
  · have hz := may_size hm
    obtain ⟨r, hr, hh⟩ := last_f a (by rw [size_L]; omega) k hk
    rw [if_pos rfl, if_pos rfl, hr, some_bind]
    rcases hh with ⟨h2, rfl⟩ | ⟨x, y, h2, h3, rfl⟩
    · rw [show mx (-1) 0 = 0 by decide, if_pos (by omega), if_pos (by omega), dir_none h2]
      refine congrArg some (congrArg (·, true) (L_inj ?_))
      rw [L_extract]; simp [L_mkB]
    · have hl := congrArg List.length h2
      rw [← size_L] at hl
      simp only [List.length_append, List.length_cons] at hl
      rw [show mx (x.length : Int) 0 = (x.length : Int) by unfold mx; split <;> omega, if_pos (by omega), if_pos (by omega), h2, dir_slash h3]
      refine congrArg some (congrArg (·, true) (L_inj ?_))
      rw [L_extract, h2, L_mkB, Int.toNat_natCast]; simp
theorem all_map_mkB (r : List (List UInt8)) : (r.map mkB).map L = r := by
  rw [List.map_map]; conv => rhs; rw [← List.map_id r]
  exact List.map_congr_left fun x _ => rfl
def fin (x : List UInt8) : ByteArray × Bool := if may x then (mkB x, true) else (mkB [], false)
end Go.Proofs.YtcijimdogddbeaaDoor.PaTh
