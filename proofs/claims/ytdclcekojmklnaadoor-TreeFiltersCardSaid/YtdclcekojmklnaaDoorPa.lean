/- Plain theory of paths: texts as lists of bytes, cut at the slash and joined again; what a part, a path, a parent, a base and a place under a path are. -/
import Derived.Test.YtdclcekojmklnaaDoorWWords
import Derived.Lib.SplitLaws
import Derived.Lib.Join
namespace Go.Proofs.YtdclcekojmklnaaDoor.Pa
set_option linter.unusedVariables false
set_option linter.unusedSimpArgs false

def L (s : ByteArray) : List UInt8 := s.data.toList
def mkB (l : List UInt8) : ByteArray := ⟨l.toArray⟩
theorem L_mkB (l : List UInt8) : L (mkB l) = l := rfl
theorem L_inj {a b : ByteArray} (h : L a = L b) : a = b := ByteArray.ext (Array.ext' h)
theorem mkB_L (s : ByteArray) : mkB (L s) = s := L_inj rfl
theorem toL (s : ByteArray) : s.toList = L s := ByteArray.toList_eq s
theorem L_append (a b : ByteArray) : L (a ++ b) = L a ++ L b := by simp [L]
theorem L_extract (s : ByteArray) (a b : Nat) : L (s.extract a b) = ((L s).take b).drop a := by
  simp only [L, ByteArray.data_extract, Array.toList_extract, List.extract_eq_take_drop]
  rw [List.drop_take]
theorem size_L (s : ByteArray) : s.size = (L s).length := rfl

def cutA : List UInt8 → List UInt8 → List (List UInt8)
  | p, [] => [p]
  | p, x :: l => if x = 47 then p :: cutA [] l else cutA (p ++ [x]) l
def cut (l : List UInt8) : List (List UInt8) := cutA [] l
theorem cutA_ne (l : List UInt8) : ∀ p, cutA p l ≠ [] := by
  induction l with
  | nil => intro p; simp [cutA]
  | cons x l ih => intro p; unfold cutA; split; simp; exact ih _
theorem cutA_slash (b : List UInt8) : ∀ (a p : List UInt8), cutA p (a ++ 47 :: b) = cutA p a ++ cut b := by
  intro a
  induction a with
  | nil => intro p; simp [cutA, cut]
  | cons x a ih =>
    intro p
    simp only [List.cons_append, cutA]
    split
    · rw [ih]; rfl
    · rw [ih]
theorem cutA_none : ∀ (l p : List UInt8), 47 ∉ l → cutA p l = [p ++ l] := by
  intro l
  induction l with
  | nil => intro p h; simp [cutA]
  | cons x l ih =>
    intro p h
    unfold cutA
    rw [if_neg (fun e => h (by simp [e])), ih _ (fun e => h (by simp [e]))]
    simp
theorem cut_slash (a b : List UInt8) : cut (a ++ 47 :: b) = cut a ++ cut b := cutA_slash b a []
theorem cut_none {l : List UInt8} (h : 47 ∉ l) : cut l = [l] := cutA_none l [] h
theorem cut_ne (l : List UInt8) : cut l ≠ [] := cutA_ne l []
theorem cutA_noslash : ∀ (l p : List UInt8), 47 ∉ p → ∀ x ∈ cutA p l, 47 ∉ x := by
  intro l
  induction l with
  | nil => intro p h x hx; simp [cutA] at hx; rw [hx]; exact h
  | cons y l ih =>
    intro p h x hx
    unfold cutA at hx
    split at hx
    · rcases List.mem_cons.1 hx with rfl | hx
      · exact h
      · exact ih [] (by simp) x hx
    · exact ih (p ++ [y]) (by simp only [List.mem_append, List.mem_singleton, not_or]; exact ⟨h, fun e => by simp_all⟩) x hx
/-- Parts, joined by slashes. -/
def T (r : List (List UInt8)) : List UInt8 := (r.map (47 :: ·)).flatten
def J : List (List UInt8) → List UInt8
  | [] => []
  | x :: r => x ++ T r
theorem T_cons (x : List UInt8) (r : List (List UInt8)) : T (x :: r) = 47 :: (x ++ T r) := by simp [T]
theorem T_append (a b : List (List UInt8)) : T (a ++ b) = T a ++ T b := by simp [T]
theorem T_J {r : List (List UInt8)} (h : r ≠ []) : T r = 47 :: J r := by
  cases r with
  | nil => exact absurd rfl h
  | cons x r => rw [T_cons]; rfl
theorem join_J (r : List (List UInt8)) : Lib.join r [47] = J r := by
  cases r with
  | nil => rfl
  | cons x r => rw [Lib.join_cons]; rfl
theorem J_append {a b : List (List UInt8)} (h : a ≠ []) : J (a ++ b) = J a ++ T b := by
  cases a with
  | nil => exact absurd rfl h
  | cons x a => simp [J, T_append]
theorem J_cutA : ∀ (l p : List UInt8), J (cutA p l) = p ++ l := by
  intro l
  induction l with
  | nil => intro p; simp [cutA, J, T]
  | cons x l ih =>
    intro p
    unfold cutA
    split
    · rename_i e
      simp only [J]
      rw [T_J (cutA_ne _ _), ih, e]; rfl
    · rw [ih]; simp
theorem J_cut (l : List UInt8) : J (cut l) = l := J_cutA l []
theorem cut_J : ∀ (r : List (List UInt8)), r ≠ [] → (∀ x ∈ r, 47 ∉ x) → cut (J r) = r := by
  intro r
  induction r with
  | nil => intro h; exact absurd rfl h
  | cons x r ih =>
    intro _ hx
    have h1 : 47 ∉ x := hx x (by simp)
    by_cases hr : r = []
    · subst hr
      simp only [J, T, List.map_nil, List.flatten_nil, List.append_nil]
      exact cut_none h1
    · simp only [J]
      rw [T_J hr, cut_slash, cut_none h1, ih hr (fun y hy => hx y (by simp [hy]))]; rfl
theorem T_length_one (r : List (List UInt8)) (x : List UInt8) (h : x ∈ r) : x.length ≤ (T r).length := by
  induction r with
  | nil => cases h
  | cons z r ih =>
    rw [T_cons]; simp only [List.length_cons, List.length_append]
    rcases List.mem_cons.1 h with rfl | h
    · omega
    · have := ih h; omega
theorem J_length_one (r : List (List UInt8)) (x : List UInt8) (h : x ∈ r) : x.length ≤ (J r).length := by
  cases r with
  | nil => cases h
  | cons y r =>
    simp only [J, List.length_append]
    rcases List.mem_cons.1 h with rfl | h
    · omega
    · have := T_length_one r x h
      omega

theorem cutA_len : ∀ (l p : List UInt8), (cutA p l).length ≤ l.length + 1 := by
  intro l
  induction l with
  | nil => intro p; simp [cutA]
  | cons x l ih =>
    intro p
    unfold cutA
    split
    · have := ih []; simp only [List.length_cons]; omega
    · have := ih (p ++ [x]); simp only [List.length_cons]; omega
theorem cut_len (l : List UInt8) : (cut l).length ≤ l.length + 1 := cutA_len l []
def isPart (l : List UInt8) : Bool := decide (l ≠ [] ∧ l.length ≤ 60 ∧ 47 ∉ l ∧ 0 ∉ l ∧ l ≠ [46] ∧ l ≠ [46, 46] ∧ l.take 4 ≠ [46, 119, 104, 46])
theorem part_ne {l : List UInt8} (h : isPart l = true) : l ≠ [] := (of_decide_eq_true h).1
theorem part_noslash {l : List UInt8} (h : isPart l = true) : 47 ∉ l := (of_decide_eq_true h).2.2.1
def may (l : List UInt8) : Bool := decide (l = [] ∨ (l.length ≤ 200 ∧ (cut l).all isPart = true ∧ (cut l).length ≤ 10))
theorem may_nil : may [] = true := by decide
def split (l : List UInt8) : List (List UInt8) := if l = [] then [] else if may l then cut l else []
def dir (l : List UInt8) : List UInt8 := J (cut l).dropLast
def base (l : List UInt8) : List UInt8 := (cut l).getLastD []
def U (a b : List UInt8) : Prop := a = b ∨ b = [] ∨ b ++ [47] <+: a
instance (a b) : Decidable (U a b) := by unfold U; infer_instance
def under (a b : List UInt8) : Bool := may a && may b && decide (U a b)
/-- Either no slash, or cut at the last one. -/
theorem last_cases (l : List UInt8) : 47 ∉ l ∨ ∃ a b, l = a ++ 47 :: b ∧ 47 ∉ b := by
  induction l with
  | nil => exact .inl (by simp)
  | cons x l ih =>
    rcases ih with h | ⟨a, b, rfl, hb⟩
    · by_cases hx : x = 47
      · exact .inr ⟨[], l, by rw [hx]; rfl, h⟩
      · exact .inl (by simp only [List.mem_cons, not_or]; exact ⟨fun e => hx e.symm, h⟩)
    · exact .inr ⟨x :: a, b, rfl, hb⟩
theorem dir_none {l : List UInt8} (h : 47 ∉ l) : dir l = [] := by unfold dir; rw [cut_none h]; rfl
theorem base_none {l : List UInt8} (h : 47 ∉ l) : base l = l := by unfold base; rw [cut_none h]; rfl
theorem dir_slash {a b : List UInt8} (h : 47 ∉ b) : dir (a ++ 47 :: b) = a := by unfold dir; rw [cut_slash, cut_none h, List.dropLast_concat, J_cut]
theorem base_slash {a b : List UInt8} (h : 47 ∉ b) : base (a ++ 47 :: b) = b := by unfold base; rw [cut_slash, cut_none h]; simp [List.getLastD_eq_getLast?]
theorem may_parts {l : List UInt8} (h : may l = true) (hl : l ≠ []) : l.length ≤ 200 ∧ (∀ x ∈ cut l, isPart x = true) ∧ (cut l).length ≤ 10 := by
  rcases of_decide_eq_true h with h | ⟨h1, h2, h3⟩
  · exact absurd h hl
  · exact ⟨h1, List.all_eq_true.1 h2, h3⟩
theorem may_mk {l : List UInt8} (h1 : l.length ≤ 200) (h2 : ∀ x ∈ cut l, isPart x = true) (h3 : (cut l).length ≤ 10) : may l = true :=
  decide_eq_true (.inr ⟨h1, List.all_eq_true.2 h2, h3⟩)
theorem may_ne_split {l : List UInt8} (h : may l = true) (hl : l ≠ []) : split l = cut l := by unfold split; rw [if_neg hl, if_pos h]
/-- The parent of a path: a path, of one part less, and shorter. -/
theorem dir_spec {l : List UInt8} (h : may l = true) (hl : l ≠ []) :
    may (dir l) = true ∧ split (dir l) = (cut l).dropLast ∧ (dir l).length < l.length ∧ (dir l = [] ∨ dir l ++ [47] <+: l) ∧ split l = split (dir l) ++ [base l] ∧ isPart (base l) = true := by
  obtain ⟨h1, h2, h3⟩ := may_parts h hl
  rcases last_cases l with hn | ⟨a, b, rfl, hb⟩
  · have hc := cut_none hn
    rw [dir_none hn, base_none hn, may_ne_split h hl, hc]
    refine ⟨rfl, rfl, ?_, .inl rfl, rfl, ?_⟩
    · cases l with
      | nil => exact absurd rfl hl
      | cons x l => simp
    · exact h2 l (by rw [hc]; simp)
  · have hc : cut (a ++ 47 :: b) = cut a ++ [b] := by rw [cut_slash, cut_none hb]
    rw [dir_slash hb, base_slash hb, may_ne_split h hl, hc]
    rw [hc] at h2 h3
    have ha : a ≠ [] := by
      rintro rfl
      exact part_ne (h2 [] (by simp [cut, cutA])) rfl
    have hma : may a = true := may_mk (by simp at h1; omega) (fun x hx => h2 x (by simp [hx])) (by simp at h3; omega)
    rw [may_ne_split hma ha, List.dropLast_concat]
    refine ⟨hma, rfl, by simp, .inr ?_, rfl, h2 b (by simp)⟩
    exact ⟨b, by simp⟩
theorem U_self (a : List UInt8) : U a a := .inl rfl
theorem U_nil (a : List UInt8) : U a [] := .inr (.inl rfl)
theorem U_len {a b : List UInt8} (h : U a b) : b.length ≤ a.length := by
  rcases h with rfl | rfl | h
  · exact Nat.le_refl _
  · exact Nat.zero_le _
  · have := h.length_le; simp at this; omega
theorem U_pre {a b : List UInt8} (h : U a b) : b <+: a := by
  rcases h with rfl | rfl | h
  · exact List.prefix_refl _
  · exact List.nil_prefix
  · exact (List.prefix_append b [47]).trans h
theorem U_anti {a b : List UInt8} (h : U a b) (k : U b a) : a = b :=
  ((U_pre k).eq_of_length (Nat.le_antisymm (U_len k) (U_len h)))
theorem U_trans {a b c : List UInt8} (h : U a b) (k : U b c) : U a c := by
  rcases k with rfl | rfl | k
  · exact h
  · exact U_nil _
  · exact .inr (.inr (k.trans (U_pre h)))
theorem U_or {a b c : List UInt8} (h : U a b) (k : U a c) : U b c ∨ U c b := by
  rcases h with rfl | rfl | h
  · exact .inl k
  · exact .inr (U_nil _)
  · rcases k with rfl | rfl | k
    · exact .inr (.inr (.inr h))
    · exact .inl (U_nil _)
    · rcases Nat.lt_trichotomy b.length c.length with hlt | he | hlt
      · refine .inr (.inr (.inr ?_))
        exact List.prefix_of_prefix_length_le h ((List.prefix_append c [47]).trans k) (by simp; omega)
      · refine .inl (.inl ?_)
        have := List.prefix_of_prefix_length_le h k (by simp; omega)
        exact List.append_cancel_right (this.eq_of_length (by simp; omega))
      · refine .inl (.inr (.inr ?_))
        exact List.prefix_of_prefix_length_le k ((List.prefix_append b [47]).trans h) (by simp; omega)
theorem less_prefix : ∀ (b a : List UInt8), b <+: a → Op.bytesLess a b = false := by
  intro b
  induction b with
  | nil => intro a _; cases a <;> rfl
  | cons x b ih =>
    rintro _ ⟨t, rfl⟩
    simp only [List.cons_append, Op.bytesLess]
    rw [ih _ ⟨t, rfl⟩]
    simp [UInt8.lt_irrefl]
end Go.Proofs.YtdclcekojmklnaaDoor.Pa
