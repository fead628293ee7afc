/- The plain law behind ItemNames: a name made by numbers is one; with a sign that is none it is none. -/
import Derived.Test.YtomkcocbeljolaaDoorItTh
import Derived.Laws.Bits64b
import Derived.Laws.BitsAllLaws
namespace Go.Proofs.YtomkcocbeljolaaDoor.Pure
open Go.RowKit Go.Proofs.YtomkcocbeljolaaDoorX Go.Proofs.YtomkcocbeljolaaDoorW.PrintWords Go.Proofs.YtomkcocbeljolaaDoorW.PrintLast Go.Proofs.YtomkcocbeljolaaDoorW.PrintMore Go.Proofs.YtomkcocbeljolaaDoor.P Go.Proofs.YtomkcocbeljolaaDoor.Bs Go.Proofs.YtomkcocbeljolaaDoor.ItTh
set_option linter.unusedVariables false
set_option linter.unusedSimpArgs false
abbrev abc : ByteArray := ⟨#[97, 98, 99, 100, 101, 102, 103, 104, 105, 106, 107, 108, 109, 110, 111, 112, 113, 114, 115, 116, 117, 118, 119, 120, 121, 122, 48, 49, 50, 51, 52, 53, 54, 55, 56, 57, 46, 43, 95, 45]⟩
def u8 (x : Int) : UInt8 := UInt8.ofNat x.toNat
theorem L_nums (l : List Int) : L (strOfNums l) = l.map u8 := rfl
theorem len_nums (l : List Int) : (strOfNums l).size = l.length := by simp [strOfNums, ByteArray.size]
theorem sg_all : ∀ i : Nat, i < 32 → okc signs (u8 (bt signs (i : Int))) = true := by decide +kernel
theorem ab_lets : ∀ i : Nat, i < 36 → okc lets (u8 (bt abc (i : Int))) = true := by decide +kernel
theorem ab_more : ∀ i : Nat, i < 40 → okc more (u8 (bt abc (i : Int))) = true := by decide +kernel
theorem ok_ascii : ∀ i : Nat, i < 256 → (okc signs (UInt8.ofNat i) || okc lets (UInt8.ofNat i) || okc more (UInt8.ofNat i)) = true → i < 128 := by decide +kernel
theorem or_high : ∀ i : Nat, i < 256 → 128 ≤ Go.bits .or .u8 (i : Int) 128 ∧ Go.bits .or .u8 (i : Int) 128 ≤ 255 := by decide +kernel
theorem and_low (x y : Int) (h0 : 0 ≤ x) (h1 : x < 18446744073709551616) : 0 ≤ Go.bits .and .u64 (shr .u64 x y) 31 ∧ Go.bits .and .u64 (shr .u64 x y) 31 < 32 := by
  obtain ⟨n, rfl⟩ := Int.eq_ofNat_of_zero_le h0
  have e : shr .u64 (n : Int) y = ((n / 2 ^ min y.toNat 64 : Nat) : Int) := by unfold shr; push_cast; rfl
  have hle : n / 2 ^ min y.toNat 64 < 18446744073709551616 := Nat.lt_of_le_of_lt (Nat.div_le_self _ _) (by omega)
  rw [e]
  have := bits_and_u64_nat (n / 2 ^ min y.toNat 64) 31 hle (by omega)
  rw [show ((31 : Nat) : Int) = 31 from rfl] at this
  rw [this]
  have hb : (n / 2 ^ min y.toNat 64) &&& 31 ≤ 31 := Nat.and_le_right
  omega
theorem ok_low {c : UInt8} (h : okc signs c = true ∨ okc lets c = true ∨ okc more c = true) : c.toNat < 128 := by
  refine ok_ascii c.toNat c.toNat_lt ?_
  rw [UInt8.ofNat_toNat]
  rcases h with h | h | h <;> rw [h] <;> simp
theorem nm_ascii {l : List UInt8} (h : nm l = true) : ∀ c ∈ l, c.toNat < 128 := by
  obtain ⟨h1, h2, h3, h4⟩ := nm_len h
  intro c hc
  rw [← List.take_append_drop 8 l] at hc
  rcases List.mem_append.1 hc with hc | hc
  · exact ok_low (.inl (List.all_eq_true.1 h3 c hc))
  · unfold tailOk at h4
    simp only [Bool.and_eq_true] at h4
    obtain ⟨⟨a, b⟩, d⟩ := h4
    cases q : l.drop 8 with
    | nil => rw [q] at hc; cases hc
    | cons x r =>
      rw [q] at hc a b d
      rcases List.mem_cons.1 hc with rfl | hc
      · have : c = 45 := by simpa using a
        rw [this]; decide
      · rw [List.drop_one, List.tail_cons] at b
        cases r with
        | nil => cases hc
        | cons y r =>
          rcases List.mem_cons.1 hc with rfl | hc
          · exact ok_low (.inr (.inl (List.all_eq_true.1 b c (by simp))))
          · exact ok_low (.inr (.inr (List.all_eq_true.1 d c (by simpa using hc))))
/-- The first 8, the stroke, and what follows. -/
structure Made (A B : List Int) : Prop where
  a8 : A.length = 8
  aok : ∀ x ∈ A, okc signs (u8 x) = true
  b21 : B.length ≤ 21
  bmore : ∀ x ∈ B, okc more (u8 x) = true
  blets : ∀ x ∈ B.take 1, okc lets (u8 x) = true
theorem made_nm {A B : List Int} (h : Made A B) (h1 : 1 ≤ B.length) : nm (L (strOfNums (A ++ [45] ++ B))) = true := by
  have h8 := h.a8
  have h21 := h.b21
  rw [L_nums]
  unfold nm
  have e8 : ((A ++ [45] ++ B).map u8).take 8 = A.map u8 := by
    rw [← List.map_take, List.append_assoc, List.take_append_of_le_length (by omega), List.take_of_length_le (by omega)]
  have d8 : ((A ++ [45] ++ B).map u8).drop 8 = 45 :: B.map u8 := by
    rw [← List.map_drop, List.append_assoc, List.drop_append_of_le_length (by omega), List.drop_of_length_le (by omega)]; rfl
  rw [e8, d8, List.length_map, decide_eq_true (by simp; omega), decide_eq_true (by simp; omega)]
  unfold tailOk
  have a1 : (A.map u8).all (okc signs) = true := List.all_eq_true.2 fun c hc => by
    obtain ⟨x, hx, rfl⟩ := List.mem_map.1 hc
    exact h.aok x hx
  have a2 : (((45 :: B.map u8).drop 1).take 1).all (okc lets) = true := List.all_eq_true.2 fun c hc => by
    rw [List.drop_one, List.tail_cons, ← List.map_take] at hc
    obtain ⟨x, hx, rfl⟩ := List.mem_map.1 hc
    exact h.blets x hx
  have a3 : ((45 :: B.map u8).drop 2).all (okc more) = true := List.all_eq_true.2 fun c hc => by
    rw [show (45 :: B.map u8).drop 2 = (B.map u8).drop 1 from rfl] at hc
    obtain ⟨x, hx, rfl⟩ := List.mem_map.1 (List.mem_of_mem_drop hc)
    exact h.bmore x hx
  rw [a1, a2, a3]; rfl
theorem low_f (x n : Int) (h : 1 ≤ n) (h' : n ≤ 4611686018427387904) : hogsheadlaw0_Low.f x n = some ((x % 18446744073709551616) % n) := by
  unfold hogsheadlaw0_Low.f
  exact low_expr x n h h'
theorem fin (k : Nat) (hk : 400 ≤ k) (a2 a3 : Int) (h3 : 0 ≤ a3) (h3' : a3 ≤ 255) {A B : List Int} (h : Made A B) (h1 : 1 ≤ B.length) :
    ((item_Name.f k (strOfNums (A ++ [45] ++ B))).bind fun t207 => (if t207 = true then ((item_Hash.f k (strOfNums (A ++ [45] ++ B))).bind fun t208 => (if 0 ≤ 8 then (if 8 ≤ ((strOfNums (A ++ [45] ++ B)).size : Int) then (hogsheadlaw7_ItemNames.j3 k a2 a3 (A ++ [45] ++ B) (strOfNums (A ++ [45] ++ B)) (t208.toList != ((strOfNums (A ++ [45] ++ B)).extract 0 8).toList)) else (none)) else (none))) else (hogsheadlaw7_ItemNames.j3 k a2 a3 (A ++ [45] ++ B) (strOfNums (A ++ [45] ++ B)) true))) = some true := by
  have hm := made_nm h h1
  have h8 := h.a8
  have h21 := h.b21
  have hl : (A ++ [45] ++ B).length = 9 + B.length := by simp; omega
  generalize hX : A ++ [45] ++ B = X at hm hl
  have hz := len_nums X
  have hzL : (L (strOfNums X)).length = X.length := by rw [L_nums, List.length_map]
  rw [name_f _ (by omega), some_bind, if_pos hm, hash_f _ (by omega), some_bind, if_pos hm, if_pos (by omega), if_pos (by omega), bne_self_eq_false]
  obtain ⟨k, rfl⟩ : ∃ m, k = m + 1 := ⟨k - 1, by omega⟩
  obtain ⟨r0, r1⟩ := low_range a2 (X.length : Int) (by omega)
  rw [hogsheadlaw7_ItemNames.j3, if_neg (by simp), low_f _ _ (by omega) (by omega), some_bind]
  obtain ⟨t, ht⟩ := Int.eq_ofNat_of_zero_le r0
  rw [ht] at r1 ⊢
  have htl : t < X.length := by omega
  obtain ⟨m, hm3⟩ := Int.eq_ofNat_of_zero_le h3
  obtain ⟨o1, o2⟩ := or_high m (by omega)
  rw [← hm3] at o1 o2
  have hnot : ∀ (h : nm (L (strOfNums (X.set t (Go.bits .or .u8 a3 128)))) = true), False := fun h => by
    have hmem : u8 (Go.bits .or .u8 a3 128) ∈ L (strOfNums (X.set t (Go.bits .or .u8 a3 128))) := by
      rw [L_nums]
      exact List.mem_map.2 ⟨_, List.mem_iff_getElem.2 ⟨t, by simpa using htl, by simp⟩, rfl⟩
    have hlt := nm_ascii h _ hmem
    unfold u8 at hlt
    rw [UInt8.toNat_ofNat'] at hlt
    omega
  rw [if_pos (by omega), if_pos r1, some_bind, Int.toNat_natCast, name_f _ (by omega), some_bind, if_neg hnot, hash_f _ (by omega), some_bind, if_neg hnot, if_pos (by rw [toL]; rfl), if_pos (by omega), if_pos (by omega)]
  have n9 : ¬ nm (L ((strOfNums X).extract 0 9)) = true := fun h => by
    have := (nm_len h).1
    rw [L_extract, List.drop_zero, List.length_take] at this
    omega
  have n30 : ¬ nm (L (strOfNums X ++ (⟨#[97, 97, 97, 97, 97, 97, 97, 97, 97, 97, 97, 97, 97, 97, 97, 97, 97, 97, 97, 97, 97]⟩ : ByteArray))) = true := fun h => by
    have := (nm_len h).2.1
    rw [L_append, List.length_append, hzL] at this
    have e : (L (⟨#[97, 97, 97, 97, 97, 97, 97, 97, 97, 97, 97, 97, 97, 97, 97, 97, 97, 97, 97, 97, 97]⟩ : ByteArray)).length = 21 := rfl
    omega
  rw [name_f _ (by omega), some_bind, if_neg n9, if_pos (by omega), name_f _ (by omega), some_bind, if_neg n30, awake_f _ (by omega), some_bind]
theorem wrap_nat (n : Nat) (h : n ≤ 1000) : wrap64 ((n : Int) + 1) = ((n + 1 : Nat) : Int) := by rw [wrap_in (by omega) (by omega)]; rfl
theorem l1_loop (l : List Int) (hl : l.length ≤ 21) (hl1 : 1 ≤ l.length) (a2 a3 : Int) (h3 : 0 ≤ a3) (h3' : a3 ≤ 255) {A : List Int} : ∀ (d : Nat) (B : List Int) (k : Nat), Made A B → B.length + d = l.length → d + 401 ≤ k →
    hogsheadlaw7_ItemNames.l1 k l a2 a3 abc (A ++ [45] ++ B) (B.length : Int) = some true := by
  intro d
  induction d with
  | zero =>
    intro B k h hB hk
    obtain ⟨k, rfl⟩ : ∃ m, k = m + 1 := ⟨k - 1, by omega⟩
    rw [hogsheadlaw7_ItemNames.l1, if_neg (by omega)]
    exact fin k (by omega) a2 a3 h3 h3' h (by omega)
  | succ d ih =>
    intro B k h hB hk
    obtain ⟨k, rfl⟩ : ∃ m, k = m + 1 := ⟨k - 1, by omega⟩
    have h8 := h.a8
    have hlen : (A ++ [45] ++ B).length < 140737488355328 := by simp; omega
    rw [hogsheadlaw7_ItemNames.l1, if_pos (by omega), if_pos (by omega), low_f _ 40 (by omega) (by omega), some_bind, low_f _ 36 (by omega) (by omega)]
    obtain ⟨r0, r1⟩ := low_range (rd l (B.length : Int)) 40 (by omega)
    obtain ⟨s0, s1⟩ := low_range (rd l (B.length : Int)) 36 (by omega)
    have hs : ((abc.size : Nat) : Int) = 40 := rfl
    obtain ⟨q, hq⟩ := Int.eq_ofNat_of_zero_le r0
    obtain ⟨q', hq'⟩ := Int.eq_ofNat_of_zero_le s0
    rw [hq] at r1 ⊢
    rw [hq'] at s1 ⊢
    rw [wrap_nat _ (by omega)]
    by_cases hz : (B.length : Int) = 0
    · rw [if_pos hz, some_bind, if_pos (by omega), if_pos (by omega), if_pos hlen]
      have hB0 : B = [] := List.eq_nil_of_length_eq_zero (by omega)
      have m' : Made A (B ++ [bt abc (q' : Int)]) := by
        subst hB0
        refine ⟨h8, h.aok, by simp, fun x hx => ?_, fun x hx => ?_⟩
        · have : x = bt abc (q' : Int) := by simpa using hx
          rw [this]; exact ab_more q' (by omega)
        · have : x = bt abc (q' : Int) := by simpa using hx
          rw [this]; exact ab_lets q' (by omega)
      have := ih (B ++ [bt abc (q' : Int)]) k m' (by simp; omega) (by omega)
      rw [List.length_append, List.length_singleton, ← List.append_assoc] at this
      exact this
    · rw [if_neg hz, if_pos (by omega), if_pos (by omega), if_pos hlen]
      have m' : Made A (B ++ [bt abc (q : Int)]) := by
        refine ⟨h8, h.aok, by simp; omega, fun x hx => ?_, fun x hx => ?_⟩
        · rcases List.mem_append.1 hx with hx | hx
          · exact h.bmore x hx
          · have : x = bt abc (q : Int) := by simpa using hx
            rw [this]; exact ab_more q (by omega)
        · rw [List.take_append_of_le_length (by omega)] at hx
          exact h.blets x hx
      have := ih (B ++ [bt abc (q : Int)]) k m' (by simp; omega) (by omega)
      rw [List.length_append, List.length_singleton, ← List.append_assoc] at this
      exact this
theorem l0_loop (x : Int) (h0 : 0 ≤ x) (h1 : x < 18446744073709551616) (l : List Int) (hl : l.length ≤ 21) (hl1 : 1 ≤ l.length) (a2 a3 : Int) (h3 : 0 ≤ a3) (h3' : a3 ≤ 255) : ∀ (d : Nat) (A : List Int) (k : Nat), (∀ y ∈ A, okc signs (u8 y) = true) → A.length + d = 8 → d + 500 ≤ k →
    hogsheadlaw7_ItemNames.l0 k x l a2 a3 signs abc A (A.length : Int) = some true := by
  intro d
  induction d with
  | zero =>
    intro A k h hA hk
    obtain ⟨k, rfl⟩ : ∃ m, k = m + 1 := ⟨k - 1, by omega⟩
    rw [hogsheadlaw7_ItemNames.l0, if_neg (by omega), if_pos (by omega)]
    have := l1_loop l hl hl1 a2 a3 h3 h3' (A := A) l.length [] k ⟨by omega, h, by simp, by simp, by simp⟩ (by simp) (by omega)
    simpa using this
  | succ d ih =>
    intro A k h hA hk
    obtain ⟨k, rfl⟩ : ∃ m, k = m + 1 := ⟨k - 1, by omega⟩
    have hs : ((signs.size : Nat) : Int) = 32 := rfl
    have hw : wrap64 (5 * (A.length : Int)) = 5 * (A.length : Int) := wrap_in (by omega) (by omega)
    obtain ⟨r0, r1⟩ := and_low x (5 * (A.length : Int)) h0 h1
    rw [hogsheadlaw7_ItemNames.l0, if_pos (by omega), hw, if_pos (by omega), if_pos r0, if_pos (by omega), if_pos (by omega), wrap_nat _ (by omega)]
    obtain ⟨q, hq⟩ := Int.eq_ofNat_of_zero_le r0
    rw [hq] at r1 ⊢
    have := ih (A ++ [bt signs (q : Int)]) k (fun y hy => by
      rcases List.mem_append.1 hy with hy | hy
      · exact h y hy
      · have : y = bt signs (q : Int) := by simpa using hy
        rw [this]; exact sg_all q (by omega)) (by simp; omega) (by omega)
    rw [List.length_append, List.length_singleton] at this
    exact this
theorem ItemNames : hogsheadlaw7_ItemNames.Pure := by
  intro a0 l a2 a3 w0 hm hs w1 w2 w3
  have h0 : 0 ≤ a0 ∧ a0 < 18446744073709551616 := by
    have q : IntKind.u64.min ≤ a0 ∧ a0 ≤ IntKind.u64.max := by simpa [Lit.wf] using w0
    have e1 : IntKind.u64.min = 0 := rfl
    have e2 : IntKind.u64.max = 18446744073709551615 := by decide
    omega
  have h3 : 0 ≤ a3 ∧ a3 < 256 := by
    have q : IntKind.u8.min ≤ a3 ∧ a3 ≤ IntKind.u8.max := by simpa [Lit.wf] using w3
    have e1 : IntKind.u8.min = 0 := rfl
    have e2 : IntKind.u8.max = 255 := by decide
    omega
  refine ⟨1000, ?_⟩
  unfold hogsheadlaw7_ItemNames.f
  by_cases h1 : (l.length : Int) > 21
  · rw [if_pos h1, hogsheadlaw7_ItemNames.j0, if_pos rfl, awake_f _ (by omega), some_bind]
  rw [if_neg h1, hogsheadlaw7_ItemNames.j0]
  by_cases h2 : (l.length : Int) = 0
  · rw [if_pos (by rw [h2]; rfl), awake_f _ (by omega), some_bind]
  · rw [if_neg (by simpa using h2)]
    exact l0_loop a0 h0.1 h0.2 l (by omega) (by omega) a2 a3 h3.1 (by omega) 8 [] 999 (by simp) (by simp) (by omega)
end Go.Proofs.YtomkcocbeljolaaDoor.Pure
