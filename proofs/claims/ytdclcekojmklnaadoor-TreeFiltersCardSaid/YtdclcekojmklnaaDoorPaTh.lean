/- The printed functions of package path are the plain ones: those that a seat's print has. -/
import Derived.Test.YtdclcekojmklnaaDoorPx
import Derived.Test.YtdclcekojmklnaaDoorPa
namespace Go.Proofs.YtdclcekojmklnaaDoor.PaTh
open Go.RowKit Go.Proofs.YtdclcekojmklnaaDoorX Go.Proofs.YtdclcekojmklnaaDoorW.PrintWords Go.Proofs.YtdclcekojmklnaaDoorW.PrintLast Go.Proofs.YtdclcekojmklnaaDoorW.PrintMore Go.Proofs.YtdclcekojmklnaaDoor.P Go.Proofs.YtdclcekojmklnaaDoor.Pa
set_option linter.unusedVariables false
set_option linter.unusedSimpArgs false

theorem wrap_in {a : Int} (h : -9223372036854775808 ≤ a) (h' : a ≤ 9223372036854775807) : wrap64 a = a := by unfold wrap64; omega
theorem some_bind {α β : Type} (a : α) (f : α → Option β) : (some a).bind f = f a := rfl
theorem w_one (i : Nat) (h : i ≤ 1000000000000) : wrap64 ((i : Int) + 1) = ((i + 1 : Nat) : Int) := by rw [wrap_in (by omega) (by omega)]; omega
theorem lit_e (l : List UInt8) : (⟨l.toArray⟩ : ByteArray) = mkB l := rfl
theorem nil_e : (⟨#[]⟩ : ByteArray) = mkB [] := rfl
theorem bt_L (s : ByteArray) (i : Nat) (h : i < s.size) : bt s (i : Int) = (((L s)[i]'h).toNat : Int) := by
  rw [← bt_at s (i : Int) h]; rfl
theorem bt_is (s : ByteArray) (i : Nat) (h : i < s.size) (c : UInt8) : bt s (i : Int) = (c.toNat : Int) ↔ (L s)[i]'h = c := by
  rw [bt_L s i h]
  refine ⟨fun e => UInt8.toNat.inj (by exact_mod_cast e), fun e => by rw [e]⟩
theorem rd_L (xs : List ByteArray) (i : Nat) (h : i < xs.length) : rdOf ByteArray.empty xs (i : Int) = xs[i] := by
  unfold rdOf
  rw [Int.toNat_natCast, List.getD_eq_getElem?_getD, List.getElem?_eq_getElem h]; rfl

theorem hasPrefix_f (a b : ByteArray) : strings_HasPrefix.f a b = some (decide (L b <+: L a)) := by
  unfold strings_HasPrefix.f stringslite_HasPrefix.f
  by_cases h : (b.size : Int) ≤ (a.size : Int)
  · rw [if_pos (by omega), if_pos (by omega), if_pos h, some_bind, toL, toL, Int.toNat_natCast, L_extract, List.drop_zero, size_L b]
    refine congrArg some ?_
    rw [Bool.eq_iff_iff, beq_iff_eq, decide_eq_true_iff, List.prefix_iff_eq_take]
    exact eq_comm
  · rw [if_neg (by omega), some_bind]
    refine congrArg some (Eq.symm (decide_eq_false fun e => ?_))
    have := e.length_le
    rw [← size_L, ← size_L] at this
    omega
theorem idx_neg (l : List UInt8) (c : UInt8) : Lib.indexByte l c < 0 ↔ c ∉ l := by
  induction l with
  | nil => simp [Lib.indexByte]
  | cons x l ih =>
    have h0 := Lib.indexByte_ge l c
    unfold Lib.indexByte
    by_cases hx : x = c
    · rw [if_pos (by simp [hx])]; simp [hx]
    · rw [if_neg (by simp [hx])]
      rw [List.mem_cons, not_or, ← ih]
      by_cases hm : Lib.indexByte l c = -1
      · rw [if_pos (by simp [hm]), hm]; simp [Ne.symm hx]
      · rw [if_neg (by simp [hm])]
        refine ⟨fun h => by omega, fun h => by omega⟩
theorem part_f (a : ByteArray) : path_Part.f a = some (isPart (L a)) := by
  have ix : ∀ c, strings_IndexByte.f a c = some (Lib.indexByte (L a) c.toNat.toUInt8) := fun _ => rfl
  unfold path_Part.f
  rw [toL, ix, ix, show ((47 : Int).toNat.toUInt8) = 47 from rfl, show ((0 : Int).toNat.toUInt8) = 0 from rfl, some_bind, some_bind, hasPrefix_f, some_bind, size_L]
  have e : (decide (L (⟨#[46, 119, 104, 46]⟩ : ByteArray) <+: L a)) = decide ((L a).take 4 = [46, 119, 104, 46]) := by
    rw [decide_eq_decide, List.prefix_iff_eq_take]
    exact eq_comm
  rw [e]
  have i1 := idx_neg (L a) 47
  have i2 := idx_neg (L a) 0
  generalize Lib.indexByte (L a) 47 = j1 at *
  generalize Lib.indexByte (L a) 0 = j2 at *
  unfold isPart
  generalize L a = l at *
  by_cases h1 : l = []
  · rw [if_pos h1]; simp [h1]
  rw [if_neg h1]
  by_cases h2 : l.length ≤ 60
  case neg => rw [if_neg (show ¬ (l.length : Int) ≤ 60 by omega), decide_eq_false (fun h => h2 h.2.1)]
  rw [if_pos (show (l.length : Int) ≤ 60 by omega)]
  by_cases h3 : 47 ∈ l
  · rw [if_neg (fun h => i1.1 h h3), decide_eq_false (fun h => h.2.2.1 h3)]
  rw [if_pos (i1.2 h3)]
  by_cases h4 : 0 ∈ l
  · rw [if_neg (fun h => i2.1 h h4), decide_eq_false (fun h => h.2.2.2.1 h4)]
  rw [if_pos (i2.2 h4)]
  by_cases h5 : l = [46]
  · rw [if_pos h5, decide_eq_false (fun h => h.2.2.2.2.1 h5)]
  rw [if_neg h5]
  by_cases h6 : l = [46, 46]
  · rw [if_pos h6, decide_eq_false (fun h => h.2.2.2.2.2.1 h6)]
  rw [if_neg h6]
  refine congrArg some ?_
  by_cases h7 : l.take 4 = [46, 119, 104, 46]
  · rw [decide_eq_true h7, decide_eq_false (fun h => h.2.2.2.2.2.2 h7)]; rfl
  · rw [decide_eq_false h7, decide_eq_true ⟨h1, h2, h3, h4, h5, h6, h7⟩]; rfl

theorem cutA_first : ∀ (l : List UInt8) (p : List UInt8) (i : Nat), Lib.indexByte l 47 = i → cutA p l = (p ++ l.take i) :: cut (l.drop (i + 1)) := by
  intro l
  induction l with
  | nil => intro p i h; simp [Lib.indexByte] at h
  | cons x l ih =>
    intro p i h
    have h0 := Lib.indexByte_ge l 47
    unfold Lib.indexByte at h
    unfold cutA
    by_cases hx : x = 47
    · rw [if_pos (by simp [hx])] at h
      obtain rfl : i = 0 := by omega
      rw [if_pos hx]; simp [cut]
    · rw [if_neg (by simp [hx])] at h
      rw [if_neg hx]
      by_cases hm : Lib.indexByte l 47 = -1
      · rw [if_pos (by simp [hm])] at h; omega
      · rw [if_neg (by simp [hm])] at h
        obtain ⟨j, rfl⟩ : ∃ j, i = j + 1 := ⟨i - 1, by omega⟩
        rw [ih (p ++ [x]) j (by omega)]
        simp
theorem splitK_cut : ∀ (n : Nat) (l : List UInt8), l.length ≤ n → Lib.splitK [47] 0 (l.count 47) l = cut l := by
  intro n
  induction n with
  | zero =>
    intro l h
    have : l = [] := List.eq_nil_of_length_eq_zero (by omega)
    subst this
    rfl
  | succ n ih =>
    intro l h
    by_cases hm : 47 ∈ l
    · obtain ⟨i, hi⟩ := Int.eq_ofNat_of_zero_le (show 0 ≤ Lib.indexByte l 47 by
        have := idx_neg l 47
        exact Int.not_lt.1 (fun e => this.1 e hm))
      have hs := Lib.indexByte_some hi
      have hlt : i < l.length := by
        have := hs.1
        exact (List.getElem?_eq_some_iff.1 this).1
      have hl : l = l.take i ++ 47 :: l.drop (i + 1) := by
        conv => lhs; rw [← List.take_append_drop i l, List.drop_eq_getElem_cons hlt]
        rw [(List.getElem?_eq_some_iff.1 hs.1).2]
      have hc : l.count 47 = (l.drop (i + 1)).count 47 + 1 := by
        conv => lhs; rw [hl]
        rw [List.count_append, List.count_cons, List.count_eq_zero_of_not_mem (a := 47) (l := l.take i)]
        · simp
        · intro hmem
          obtain ⟨k, hk, he⟩ := List.getElem_of_mem hmem
          rw [List.length_take] at hk
          rw [List.getElem_take] at he
          exact hs.2 k (by omega) (by rw [List.getElem?_eq_getElem (by omega), he])
      rw [hc, Lib.splitK, Lib.index_one, hi, if_neg (by simp)]
      have hr := ih (l.drop (i + 1)) (by rw [List.length_drop]; omega)
      unfold cut
      rw [cutA_first l [] i hi]
      simp only [Int.toNat_natCast, Nat.add_zero, List.nil_append, List.length_cons, List.length_nil, Nat.zero_add]
      rw [hr]
    · rw [List.count_eq_zero_of_not_mem hm, cut_none hm]; rfl
theorem split_e (a : ByteArray) (h : a.size ≤ 1000000) : strings_Split.f a (⟨#[47]⟩ : ByteArray) = some ((cut (L a)).map mkB) := by
  unfold strings_Split.f
  rw [if_pos (show (⟨#[47]⟩ : ByteArray).size = 1 from rfl), if_pos (by omega)]
  refine congrArg some ?_
  have h1 := Lib.splitB_data ⟨#[47]⟩ 0 (Lib.countB a ⟨#[47]⟩) a
  have h2 : Lib.countB a ⟨#[47]⟩ = (L a).count 47 := by
    show Lib.count (L a) [47] = _
    rw [Lib.count_one]
  rw [h2] at h1 ⊢
  have h3 : (Lib.splitB ⟨#[47]⟩ 0 ((L a).count 47) a).map (·.data.toList) = cut (L a) := h1.trans (splitK_cut _ _ (Nat.le_refl _))
  rw [← h3, List.map_map]
  conv => lhs; rw [← List.map_id (Lib.splitB _ _ _ _)]
  exact List.map_congr_left fun x _ => (mkB_L x).symm
theorem parts_l0 (x4 c : List ByteArray) (hc : c.length ≤ 1000000) : ∀ (f j k : Nat), j + f = c.length → f < k →
    path_parts.l0 k x4 c (c.length : Int) (j : Int) = some (if (c.drop j).all (fun x => isPart (L x)) then (x4, decide (x4.length ≤ 10)) else ([], false)) := by
  intro f
  induction f with
  | zero =>
    intro j k hj hk
    obtain ⟨k, rfl⟩ : ∃ m, k = m + 1 := ⟨k - 1, by omega⟩
    rw [path_parts.l0, if_neg (by omega), List.drop_of_length_le (by omega)]
    simp only [List.all_nil, if_true]
    refine congrArg some (congrArg (Prod.mk x4) ?_)
    rw [decide_eq_decide]; omega
  | succ f ih =>
    intro j k hj hk
    obtain ⟨k, rfl⟩ : ∃ m, k = m + 1 := ⟨k - 1, by omega⟩
    rw [path_parts.l0, if_pos (by omega), if_pos (by omega), if_pos (by omega), part_f, some_bind, rd_L _ _ (by omega), w_one j (by omega), ih (j + 1) k (by omega) (by omega), List.drop_eq_getElem_cons (show j < c.length by omega), List.all_cons]
    cases isPart (L c[j]) <;> rfl
theorem parts_f (a : ByteArray) (k : Nat) (hk : 300 ≤ k) : path_parts.f k a =
    some (if L a = [] then ([], true) else if 200 < (L a).length then ([], false) else if (cut (L a)).all isPart then ((cut (L a)).map mkB, decide ((cut (L a)).length ≤ 10)) else ([], false)) := by
  unfold path_parts.f
  rw [toL]
  by_cases h1 : L a = []
  · rw [if_pos h1, if_pos h1]
  rw [if_neg h1, if_neg h1]
  by_cases h2 : 200 < (L a).length
  · rw [if_pos (show (a.size : Int) > 200 by rw [size_L]; omega), if_pos h2]
  rw [if_neg (show ¬ (a.size : Int) > 200 by rw [size_L]; omega), if_neg h2, split_e a (by rw [size_L]; omega), some_bind]
  have hl := cut_len (L a)
  have := parts_l0 ((cut (L a)).map mkB) ((cut (L a)).map mkB) (by rw [List.length_map]; omega) (cut (L a)).length 0 k (by rw [List.length_map]; omega) (by omega)
  rw [show ((0 : Nat) : Int) = 0 from rfl] at this
  rw [this, List.drop_zero, List.all_map, List.length_map]
  rfl
theorem may_f (a : ByteArray) (k : Nat) (hk : 300 ≤ k) : path_May.f k a = some (may (L a)) := by
  unfold path_May.f
  rw [parts_f a k hk, some_bind]
  refine congrArg some ?_
  unfold may
  by_cases h1 : L a = []
  · rw [if_pos h1]; simp [h1]
  rw [if_neg h1]
  by_cases h2 : 200 < (L a).length
  · rw [if_pos h2]; simp [h1]; omega
  rw [if_neg h2]
  by_cases h3 : (cut (L a)).all isPart = true
  · rw [if_pos h3, decide_eq_decide]
    exact ⟨fun h => .inr ⟨by omega, h3, h⟩, fun h => h.elim (fun e => absurd e h1) (fun e => e.2.2)⟩
  · rw [if_neg h3]
    exact (decide_eq_false fun h => h.elim (fun e => h1 e) (fun e => h3 e.2.1)).symm
theorem last_l0 (s : ByteArray) (hs : s.size ≤ 1000000) : ∀ (n k : Nat), n ≤ s.size → n < k →
    ∃ r, bytealg_LastIndexByteString.l0 k s 47 ((n : Int) - 1) = some r ∧ ((47 ∉ (L s).take n ∧ r = -1) ∨ ∃ a b, (L s).take n = a ++ 47 :: b ∧ 47 ∉ b ∧ r = (a.length : Int)) := by
  intro n
  induction n with
  | zero =>
    intro k hn hk
    obtain ⟨k, rfl⟩ : ∃ m, k = m + 1 := ⟨k - 1, by omega⟩
    refine ⟨-1, ?_, .inl ⟨by simp, rfl⟩⟩
    rw [bytealg_LastIndexByteString.l0, if_neg (by omega)]
  | succ n ih =>
    intro k hn hk
    obtain ⟨k, rfl⟩ : ∃ m, k = m + 1 := ⟨k - 1, by omega⟩
    rw [bytealg_LastIndexByteString.l0, if_pos (by omega), if_pos (by omega), if_pos (by omega), show (((n + 1 : Nat) : Int) - 1) = (n : Int) by omega]
    have ht : (L s).take (n + 1) = (L s).take n ++ [(L s)[n]'(by rw [← size_L]; omega)] := by rw [List.take_add_one, List.getElem?_eq_getElem (by rw [← size_L]; omega)]; rfl
    by_cases hb : (L s)[n]'(by rw [← size_L]; omega) = 47
    · rw [if_pos (show bt s (n : Int) = 47 from (bt_is s n (by omega) 47).2 hb)]
      refine ⟨n, rfl, .inr ⟨(L s).take n, [], by rw [ht, hb], by simp, ?_⟩⟩
      rw [List.length_take, ← size_L, Nat.min_eq_left (by omega)]
    · rw [if_neg (show ¬ bt s (n : Int) = 47 from fun e => hb ((bt_is s n (by omega) 47).1 e)), wrap_in (by omega) (by omega)]
      obtain ⟨r, hr, hh⟩ := ih k (by omega) (by omega)
      refine ⟨r, hr, ?_⟩
      rw [ht]
      rcases hh with ⟨h1, h2⟩ | ⟨a, b, h1, h2, h3⟩
      · exact .inl ⟨by simp only [List.mem_append, List.mem_singleton, not_or]; exact ⟨h1, fun e => hb e.symm⟩, h2⟩
      · refine .inr ⟨a, b ++ [(L s)[n]'(by rw [← size_L]; omega)], by rw [h1]; simp, ?_, h3⟩
        simp only [List.mem_append, List.mem_singleton, not_or]; exact ⟨h2, fun e => hb e.symm⟩
theorem last_f (s : ByteArray) (hs : s.size ≤ 1000) (k : Nat) (hk : 1100 ≤ k) :
    ∃ r, strings_LastIndexByte.f k s 47 = some r ∧ ((47 ∉ L s ∧ r = -1) ∨ ∃ a b, L s = a ++ 47 :: b ∧ 47 ∉ b ∧ r = (a.length : Int)) := by
  obtain ⟨r, hr, hh⟩ := last_l0 s (by omega) s.size k (Nat.le_refl _) (by omega)
  refine ⟨r, ?_, ?_⟩
  · unfold strings_LastIndexByte.f bytealg_LastIndexByteString.f
    rw [wrap_in (by omega) (by omega), hr]; rfl
  · rw [size_L, List.take_length] at hh
    exact hh
theorem may_size {l : List UInt8} (h : may l = true) : l.length ≤ 200 := by
  rcases of_decide_eq_true h with h | h
  · rw [h]; exact Nat.zero_le _
  · exact h.1
theorem parent_f (a : ByteArray) (k : Nat) (hk : 1100 ≤ k) : path_Parent.f k a = some (if L a = [] then (mkB [], false) else if may (L a) then (mkB (dir (L a)), true) else (mkB [], false)) := by
  unfold path_Parent.f
  rw [toL]
  by_cases h1 : L a = []
  · rw [if_pos h1, if_pos h1]; rfl
  rw [if_neg h1, if_neg h1, may_f a k (by omega), some_bind]
  cases hm : may (L a)
  · rfl
  · have hz := may_size hm
    obtain ⟨r, hr, hh⟩ := last_f a (by rw [size_L]; omega) k hk
    rw [if_pos rfl, if_pos rfl, hr, some_bind]
    rcases hh with ⟨h2, rfl⟩ | ⟨x, y, h2, h3, rfl⟩
    · rw [show mx (-1) 0 = 0 by decide, if_pos (by omega), if_pos (by omega), dir_none h2]
      refine congrArg some (congrArg (·, true) (L_inj ?_))
      rw [L_extract]; simp [L_mkB]
    · have hl := congrArg List.length h2
      rw [← size_L] at hl
      simp only [List.length_append, List.length_cons] at hl
      rw [show mx (x.length : Int) 0 = (x.length : Int) by unfold mx; split <;> omega, if_pos (by omega), if_pos (by omega), h2, dir_slash h3]
      refine congrArg some (congrArg (·, true) (L_inj ?_))
      rw [L_extract, h2, L_mkB, Int.toNat_natCast]; simp
theorem all_map_mkB (r : List (List UInt8)) : (r.map mkB).map L = r := by
  rw [List.map_map]; conv => rhs; rw [← List.map_id r]
  exact List.map_congr_left fun x _ => rfl
def fin (x : List UInt8) : ByteArray × Bool := if may x then (mkB x, true) else (mkB [], false)
end Go.Proofs.YtdclcekojmklnaaDoor.PaTh
