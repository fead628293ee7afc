/- A tree's bytes in plain words: how they are laid, how they are read, and that the one undoes the other. -/
import Derived.Test.YtfklncdllfhgmaaDoorRefTree
import Derived.Laws.Bits64b
namespace Go.Proofs.YtfklncdllfhgmaaDoor.NarTh
open Go.RowKit Go.Proofs.YtfklncdllfhgmaaDoorX Go.Proofs.YtfklncdllfhgmaaDoorW.PrintWords Go.Proofs.YtfklncdllfhgmaaDoorW.PrintLast Go.Proofs.YtfklncdllfhgmaaDoorW.PrintMore Go.Proofs.YtfklncdllfhgmaaDoor.P Go.Proofs.YtfklncdllfhgmaaDoor.Pa Go.Proofs.YtfklncdllfhgmaaDoor.PaTh Go.Proofs.YtfklncdllfhgmaaDoor.TreeTh
open Go.Proofs.YtfklncdllfhgmaaDoor.Bs (strOfNums_bytesOf)
set_option linter.unusedVariables false
set_option linter.unusedSimpArgs false
/-! ### numbers -/
def byteAt (n : Int) (i : Nat) : Int := (shr .u64 (IntKind.u64.wrap (n)) (IntKind.u64.wrap (wrap64 (8 * (wrap64 (7 - (i : Int))))))) % 256
def enc8 (n : Int) : List Int := (List.range 8).map (byteAt n)
theorem enc8_len (n : Int) : (enc8 n).length = 8 := by simp [enc8]
theorem clone_f (l : List Int) (h : l.length < 140737488355328) : slices_Clone_byte_byte.f l = some l := by
  unfold slices_Clone_byte_byte.f
  rw [some_bind, if_pos (by simpa using h)]; rfl
theorem u64_nonneg (x : Int) : 0 ≤ IntKind.u64.wrap x := by rw [Bs.u64_wrap]; omega
theorem num_l0 (n : Int) (l : List Int) (hl : l.length ≤ 1000000000000) : ∀ (f j k : Nat), j + f = 8 → f < k → nar_Num.l0 k n (l ++ ((List.range 8).take j).map (byteAt n)) (j : Int) = some (l ++ enc8 n) := by
  intro f
  induction f with
  | zero =>
    intro j k hj hk
    obtain ⟨k, rfl⟩ : ∃ m, k = m + 1 := ⟨k - 1, by omega⟩
    obtain rfl : j = 8 := by omega
    rw [nar_Num.l0, if_neg (by omega)]; rfl
  | succ f ih =>
    intro j k hj hk
    obtain ⟨k, rfl⟩ : ∃ m, k = m + 1 := ⟨k - 1, by omega⟩
    have hlen : (l ++ ((List.range 8).take j).map (byteAt n)).length < 140737488355328 := by simp; omega
    rw [nar_Num.l0, if_pos (by omega), if_pos (u64_nonneg _), if_pos hlen, w_one j (by omega)]
    have ht : ((List.range 8).take (j + 1)).map (byteAt n) = ((List.range 8).take j).map (byteAt n) ++ [byteAt n j] := by
      rw [List.take_add_one, List.getElem?_range (by omega)]; simp
    have := ih (j + 1) k (by omega) (by omega)
    rw [ht, ← List.append_assoc] at this
    exact this
theorem num_f (l : List Int) (hl : l.length ≤ 1000000000000) (n : Int) (k : Nat) (hk : 9 ≤ k) : nar_Num.f k l n = some (l ++ enc8 n) := by
  unfold nar_Num.f
  rw [clone_f l (by omega), some_bind]
  have := num_l0 n l hl 8 0 k (by omega) (by omega)
  simpa using this
theorem enc8_list (n : Int) (h0 : 0 ≤ n) (h1 : n < 4611686018427387904) : enc8 n = [n / 72057594037927936 % 256, n / 281474976710656 % 256, n / 1099511627776 % 256, n / 4294967296 % 256, n / 16777216 % 256, n / 65536 % 256, n / 256 % 256, n / 1 % 256] := by
  have e : IntKind.u64.wrap n = n := by rw [Bs.u64_wrap]; omega
  unfold enc8 byteAt
  rw [e]
  clear e h0 h1
  have w : ∀ i : Nat, i < 8 → IntKind.u64.wrap (wrap64 (8 * wrap64 (7 - (i : Int)))) = 8 * (7 - (i : Int)) := by decide +kernel
  have s : ∀ (y : Int) (p : Int), (2 : Int) ^ min y.toNat (IntKind.bits .u64) = p → shr .u64 n y = n / p := fun y p h => by unfold shr; rw [h]
  rw [show List.range 8 = [0, 1, 2, 3, 4, 5, 6, 7] from rfl]
  simp only [List.map_cons, List.map_nil]
  rw [w 0 (by omega), w 1 (by omega), w 2 (by omega), w 3 (by omega), w 4 (by omega), w 5 (by omega), w 6 (by omega), w 7 (by omega)]
  rw [s (8 * (7 - ((0 : Nat) : Int))) 72057594037927936 (by decide), s (8 * (7 - ((1 : Nat) : Int))) 281474976710656 (by decide), s (8 * (7 - ((2 : Nat) : Int))) 1099511627776 (by decide), s (8 * (7 - ((3 : Nat) : Int))) 4294967296 (by decide), s (8 * (7 - ((4 : Nat) : Int))) 16777216 (by decide), s (8 * (7 - ((5 : Nat) : Int))) 65536 (by decide), s (8 * (7 - ((6 : Nat) : Int))) 256 (by decide), s (8 * (7 - ((7 : Nat) : Int))) 1 (by decide)]
theorem or_byte (a x : Int) (h0 : 0 ≤ a) (h1 : a < 36028797018963968) (h2 : 0 ≤ x) (h3 : x < 256) : Go.bits .or .u64 (IntKind.u64.wrap (a * 256)) (IntKind.u64.wrap x) = a * 256 + x := by
  have e1 : IntKind.u64.wrap (a * 256) = a * 256 := by rw [Bs.u64_wrap]; omega
  have e2 : IntKind.u64.wrap x = x := by rw [Bs.u64_wrap]; omega
  rw [e1, e2]
  obtain ⟨m, rfl⟩ := Int.eq_ofNat_of_zero_le h0
  obtain ⟨y, rfl⟩ := Int.eq_ofNat_of_zero_le h2
  have := bits_or_u64_nat (m * 256) y (by omega) (by omega)
  have h := Nat.two_pow_add_eq_or_of_lt (i := 8) (b := y) (by omega) m
  rw [show 2 ^ 8 * m = m * 256 by omega] at h
  rw [show ((m : Int) * 256) = ((m * 256 : Nat) : Int) from (Int.natCast_mul m 256).symm, this, ← h]
  exact Int.natCast_add _ _
theorem num64_enc8 (n : Int) (h0 : 0 ≤ n) (h1 : n < 4611686018427387904) : num64 (enc8 n) = n := by
  rw [enc8_list n h0 h1]
  unfold num64
  simp only [List.foldl_cons, List.foldl_nil]
  have q1 : 0 ≤ n / 72057594037927936 ∧ n / 72057594037927936 < 64 := by omega
  have q2 : n / 72057594037927936 * 256 + n / 281474976710656 % 256 = n / 281474976710656 := by omega
  have q3 : n / 281474976710656 * 256 + n / 1099511627776 % 256 = n / 1099511627776 := by omega
  have q4 : n / 1099511627776 * 256 + n / 4294967296 % 256 = n / 4294967296 := by omega
  have q5 : n / 4294967296 * 256 + n / 16777216 % 256 = n / 16777216 := by omega
  have q6 : n / 16777216 * 256 + n / 65536 % 256 = n / 65536 := by omega
  have q7 : n / 65536 * 256 + n / 256 % 256 = n / 256 := by omega
  have q8 : n / 256 * 256 + n / 1 % 256 = n := by omega
  rw [or_byte 0 (n / 72057594037927936 % 256) (by omega) (by omega) (by omega) (by omega), show (0 : Int) * 256 + n / 72057594037927936 % 256 = n / 72057594037927936 by omega]
  rw [or_byte _ (n / 281474976710656 % 256) (by omega) (by omega) (by omega) (by omega), q2]
  rw [or_byte _ (n / 1099511627776 % 256) (by omega) (by omega) (by omega) (by omega), q3]
  rw [or_byte _ (n / 4294967296 % 256) (by omega) (by omega) (by omega) (by omega), q4]
  rw [or_byte _ (n / 16777216 % 256) (by omega) (by omega) (by omega) (by omega), q5]
  rw [or_byte _ (n / 65536 % 256) (by omega) (by omega) (by omega) (by omega), q6]
  rw [or_byte _ (n / 256 % 256) (by omega) (by omega) (by omega) (by omega), q7]
  rw [or_byte _ (n / 1 % 256) (by omega) (by omega) (by omega) (by omega), q8]
/-! ### texts -/
def padN (s : ByteArray) : List Int := List.replicate (((8 - ((s.size : Int) % 8)) % 8 : Int)).toNat 0
def encT (s : ByteArray) : List Int := enc8 (s.size : Int) ++ (bytesOf s ++ padN s)
theorem padN_len (s : ByteArray) : ((padN s).length : Int) = (8 - (s.size : Int) % 8) % 8 := by unfold padN; rw [List.length_replicate]; omega
theorem encT_len (s : ByteArray) : ((encT s).length : Int) = 8 + s.size + (8 - (s.size : Int) % 8) % 8 := by
  unfold encT
  rw [List.length_append, List.length_append, enc8_len, bytesOf_length]
  have := padN_len s
  push_cast
  omega
theorem text_f (l : List Int) (hl : l.length ≤ 100000000000) (s : ByteArray) (hs : s.size ≤ 1000000000) (k : Nat) (hk : 9 ≤ k) : nar_Text.f k l s = some (l ++ encT s) := by
  unfold nar_Text.f
  rw [num_f l (by omega) _ k hk, some_bind, if_pos (by rw [List.length_append, enc8_len]; omega), some_bind, if_pos (by omega), if_pos (by rw [List.length_append, List.length_append, enc8_len, bytesOf_length]; omega)]
  refine congrArg some ?_
  unfold encT padN
  rw [List.append_assoc, List.append_assoc]
def encN (n : Nd) : List Int := encT n.f0 ++ (enc8 n.f1 ++ encT n.f2)
def mark : ByteArray := ⟨#[110, 97, 114, 45, 49]⟩
def enc (t : List Nd) : List Int := encT mark ++ (enc8 (t.length : Int) ++ t.flatMap encN)
theorem encN_len {n : Nd} (h : goodN n = true) : (encN n).length ≤ 1000 := by
  obtain ⟨h1, h2, _⟩ := goodN_size h
  have a := encT_len n.f0
  have b := encT_len n.f2
  rw [← size_L] at h1 h2
  unfold encN
  rw [List.length_append, List.length_append, enc8_len]
  omega
theorem lay_l0 (t : List Nd) (ht : t.length ≤ 400) (hg : ∀ n ∈ t, goodN n = true) : ∀ (f j k : Nat) (b : List Int), j + f = t.length → f + 20 < k → b.length ≤ 1000 + 1000 * j →
    nar_Lay.l0 k b t (t.length : Int) (j : Int) = some (b ++ (t.drop j).flatMap encN, 0) := by
  intro f
  induction f with
  | zero =>
    intro j k b hj hk hb
    obtain ⟨k, rfl⟩ : ∃ m, k = m + 1 := ⟨k - 1, by omega⟩
    rw [nar_Lay.l0, if_neg (by omega), List.drop_of_length_le (by omega)]; simp
  | succ f ih =>
    intro j k b hj hk hb
    obtain ⟨k, rfl⟩ : ∃ m, k = m + 1 := ⟨k - 1, by omega⟩
    have hjl : j < t.length := by omega
    have hgj := hg _ (List.getElem_mem hjl)
    rw [← at_lt t j hjl] at hgj
    obtain ⟨h1, h2, _⟩ := goodN_size hgj
    have hn := encN_len hgj
    have a1 := encT_len (at_ t j).f0
    rw [← size_L] at h1 h2
    rw [nar_Lay.l0, if_pos (by omega), if_pos (by omega), if_pos (by omega), rdN, text_f b (by omega) _ (by omega) k (by omega), some_bind, num_f _ (by rw [List.length_append]; omega) _ k (by omega), some_bind, text_f _ (by rw [List.length_append, List.length_append, enc8_len]; omega) _ (by omega) k (by omega), some_bind, w_one j (by omega)]
    have e : b ++ encT (at_ t j).f0 ++ enc8 (at_ t j).f1 ++ encT (at_ t j).f2 = b ++ encN (at_ t j) := by unfold encN; simp
    rw [e, ih (j + 1) k _ (by omega) (by omega) (by rw [List.length_append]; omega), (List.drop_eq_getElem_cons hjl : t.drop j = _), List.flatMap_cons, ← at_lt t j hjl, List.append_assoc]
theorem lay_f (t : List Nd) (ht : t.length ≤ 1000000) (k : Nat) (hk : 1100 ≤ k) : nar_Lay.f k t = some (if mayT t = true then (enc t, 0) else ([], 7)) := by
  unfold nar_Lay.f
  rw [mayT_f t ht k hk, some_bind]
  by_cases h : mayT t = true
  · obtain ⟨h0, h4, hg⟩ := mayT_good h
    have hm : mark.size = 5 := rfl
    have hml := encT_len mark
    rw [if_pos h, if_pos h]
    show ((nar_Text.f k ([] : List Int) mark).bind _) = _
    rw [text_f [] (by simp) mark (by omega) k (by omega), some_bind, num_f _ (by simp; omega) _ k (by omega), some_bind, show (0 : Int) = ((0 : Nat) : Int) from rfl, lay_l0 t h4 hg t.length 0 k _ (by omega) (by omega) (by rw [List.length_append, enc8_len]; simp; omega)]
    refine congrArg some (congrArg (·, 0) ?_)
    unfold enc
    simp
  · rw [if_neg h, if_neg h]
/-! ### reading -/
def rN (xs : List Int) (bad : Bool) : Int × List Int × Bool := (wrap64 (num64 (tk 8 xs bad).1), (tk 8 xs bad).2.1, (tk 8 xs bad).2.2)
def rT (xs : List Int) (bad : Bool) : ByteArray × List Int × Bool :=
  (strOfNums (tk (rN xs bad).1 (rN xs bad).2.1 (rN xs bad).2.2).1, (tk (padOf (strOfNums (tk (rN xs bad).1 (rN xs bad).2.1 (rN xs bad).2.2).1)) (tk (rN xs bad).1 (rN xs bad).2.1 (rN xs bad).2.2).2.1 (tk (rN xs bad).1 (rN xs bad).2.1 (rN xs bad).2.2).2.2).2.1,
    (tk (padOf (strOfNums (tk (rN xs bad).1 (rN xs bad).2.1 (rN xs bad).2.2).1)) (tk (rN xs bad).1 (rN xs bad).2.1 (rN xs bad).2.2).2.1 (tk (rN xs bad).1 (rN xs bad).2.1 (rN xs bad).2.2).2.2).2.2 || (tk (padOf (strOfNums (tk (rN xs bad).1 (rN xs bad).2.1 (rN xs bad).2.2).1)) (tk (rN xs bad).1 (rN xs bad).2.1 (rN xs bad).2.2).2.1 (tk (rN xs bad).1 (rN xs bad).2.1 (rN xs bad).2.2).2.2).1.any (fun x => x != 0))
theorem tk_len (n : Int) (xs : List Int) (bad : Bool) : (tk n xs bad).1.length ≤ xs.length ∧ (tk n xs bad).2.1.length ≤ xs.length := by
  unfold tk
  split
  · exact ⟨Nat.zero_le _, Nat.le_refl _⟩
  · exact ⟨by show (xs.take _).length ≤ _; rw [List.length_take]; omega, by show (xs.drop _).length ≤ _; rw [List.length_drop]; omega⟩
theorem rnum_f (xs : List Int) (bad : Bool) : nar_reader_num.f xs bad = some (rN xs bad) := rfl
theorem rN_len (xs : List Int) (bad : Bool) : (rN xs bad).2.1.length ≤ xs.length := (tk_len 8 xs bad).2
theorem rtext_f (xs : List Int) (bad : Bool) (h : xs.length ≤ 9223372036854775807) : nar_reader_text.f xs bad = some (rT xs bad) := by
  unfold nar_reader_text.f
  rw [rnum_f, some_bind, if_pos (Nat.le_trans (tk_len _ _ _).1 (Nat.le_trans (rN_len _ _) h))]
  rfl
theorem rT_len (xs : List Int) (bad : Bool) : (rT xs bad).2.1.length ≤ xs.length := Nat.le_trans (tk_len _ _ _).2 (Nat.le_trans (tk_len _ _ _).2 (rN_len _ _))
def rD (xs : List Int) (bad : Bool) : Nd × List Int × Bool :=
  (⟨(rT xs bad).1, (rN (rT xs bad).2.1 (rT xs bad).2.2).1, (rT (rN (rT xs bad).2.1 (rT xs bad).2.2).2.1 (rN (rT xs bad).2.1 (rT xs bad).2.2).2.2).1⟩, (rT (rN (rT xs bad).2.1 (rT xs bad).2.2).2.1 (rN (rT xs bad).2.1 (rT xs bad).2.2).2.2).2)
theorem rD_len (xs : List Int) (bad : Bool) : (rD xs bad).2.1.length ≤ xs.length := Nat.le_trans (rT_len _ _) (Nat.le_trans (rN_len _ _) (rT_len _ _))
theorem rnode_f (xs : List Int) (bad : Bool) (h : xs.length ≤ 9223372036854775807) : nar_reader_node.f xs bad = some ((rD xs bad).1.f0, (rD xs bad).1.f1, (rD xs bad).1.f2, (rD xs bad).2.1, (rD xs bad).2.2) := by
  unfold nar_reader_node.f
  rw [rtext_f xs bad h, some_bind, rnum_f, some_bind, rtext_f _ _ (Nat.le_trans (rN_len _ _) (Nat.le_trans (rT_len _ _) h)), some_bind]
  rfl
def rl : Nat → List Nd → List Int → Bool → List Nd × List Int × Bool
  | 0, acc, xs, bad => (acc, xs, bad)
  | f + 1, acc, xs, bad => if bad = true then (acc, xs, true) else rl f (acc ++ [(rD xs false).1]) (rD xs false).2.1 (rD xs false).2.2
def endR (x0 : List Int) (is : Bool) (r : List Nd × List Int × Bool) : List Nd × Int := if is = true ∧ r.2.2 = false ∧ r.2.1 = [] ∧ mayT r.1 = true ∧ enc r.1 = x0 then (r.1, 0) else ([], 5)
theorem eqB_l0 (a b : List Int) (hab : a.length = b.length) (ha : a.length ≤ 1000000) : ∀ (f j k : Nat), j + f = a.length → f < k → slices_Equal_byte_byte.l0 k a b (a.length : Int) (j : Int) = some (decide (a.drop j = b.drop j)) := by
  intro f
  induction f with
  | zero =>
    intro j k hj hk
    obtain ⟨k, rfl⟩ : ∃ m, k = m + 1 := ⟨k - 1, by omega⟩
    rw [slices_Equal_byte_byte.l0, if_neg (by omega), List.drop_of_length_le (by omega), List.drop_of_length_le (by omega)]; rfl
  | succ f ih =>
    intro j k hj hk
    obtain ⟨k, rfl⟩ : ∃ m, k = m + 1 := ⟨k - 1, by omega⟩
    have ra : ∀ (l : List Int) (h : j < l.length), rd l (j : Int) = l[j] := fun l h => by unfold rd; rw [Int.toNat_natCast, List.getD_eq_getElem?_getD, List.getElem?_eq_getElem h]; rfl
    rw [slices_Equal_byte_byte.l0, if_pos (by omega), if_pos (by omega), if_pos (by omega), if_pos (by omega), ra a (by omega), ra b (by omega), w_one j (by omega), ih (j + 1) k (by omega) (by omega), (List.drop_eq_getElem_cons (show j < a.length by omega) : a.drop j = _), (List.drop_eq_getElem_cons (show j < b.length by omega) : b.drop j = _)]
    by_cases e : a[j] = b[j]
    · rw [if_pos e]
      refine congrArg some ?_
      rw [decide_eq_decide, List.cons.injEq]
      exact ⟨fun h => ⟨e, h⟩, fun h => h.2⟩
    · rw [if_neg e, decide_eq_false (fun h => e (List.cons.inj h).1)]
theorem eqB_f (a b : List Int) (ha : a.length ≤ 1000000) (k : Nat) (hk : a.length < k) : slices_Equal_byte_byte.f k a b = some (decide (a = b)) := by
  unfold slices_Equal_byte_byte.f
  by_cases h : (a.length : Int) = (b.length : Int)
  · rw [if_pos h, show (0 : Int) = ((0 : Nat) : Int) from rfl, eqB_l0 a b (by omega) ha a.length 0 k (by omega) hk]; rfl
  · rw [if_neg h, decide_eq_false (fun e => h (by rw [e]))]
theorem flat_len (t : List Nd) (hg : ∀ n ∈ t, goodN n = true) : (t.flatMap encN).length ≤ 1000 * t.length := by
  induction t with
  | nil => simp
  | cons x t ih =>
    rw [List.flatMap_cons, List.length_append, List.length_cons]
    have a := encN_len (hg x (by simp))
    have b := ih (fun n hn => hg n (List.mem_cons_of_mem _ hn))
    omega
theorem enc_len {t : List Nd} (h : mayT t = true) : (enc t).length ≤ 500000 := by
  obtain ⟨_, h4, hg⟩ := mayT_good h
  have := flat_len t hg
  have hml := encT_len mark
  have hm : mark.size = 5 := rfl
  unfold enc
  rw [List.length_append, List.length_append, enc8_len]
  omega
theorem end_f (x0 : List Int) (is : Bool) (t : List Nd) (xs : List Int) (bad : Bool) (ht : t.length ≤ 1000000) (k : Nat) (hk : 600000 ≤ k) : nar_Read.j1 k x0 is t xs bad = some (endR x0 is (t, xs, bad)) := by
  obtain ⟨k, rfl⟩ : ∃ m, k = m + 2 := ⟨k - 2, by omega⟩
  have j2t : nar_Read.j2 (k + 1) x0 t true = some ([], 5) := by rw [nar_Read.j2, if_pos rfl]
  rw [nar_Read.j1]
  cases is
  · rw [if_neg (by simp), j2t]; unfold endR; rw [if_neg (by simp)]
  rw [if_pos rfl]
  cases bad
  case true => rw [if_pos rfl, j2t]; unfold endR; rw [if_neg (by simp)]
  rw [if_neg (by simp)]
  by_cases hx : xs = []
  case neg =>
    have : 0 < xs.length := List.length_pos_iff.2 hx
    rw [if_pos (by omega), j2t]; unfold endR; rw [if_neg (fun h => hx h.2.2.1)]
  subst hx
  rw [if_neg (by simp), mayT_f t ht (k + 1) (by omega), some_bind]
  by_cases hm : mayT t = true
  case neg => rw [Bool.not_eq_true] at hm; rw [hm, Bool.not_false, j2t]; unfold endR; rw [if_neg (fun h => by have := h.2.2.2.1; rw [hm] at this; cases this)]
  rw [hm, Bool.not_true, nar_Read.j2, if_neg (by simp), lay_f t ht k (by omega), if_pos hm, some_bind]
  have hl := enc_len hm
  rw [eqB_f _ _ (by show (enc t).length ≤ _; omega) k (by show (enc t).length < k; omega), some_bind]
  show (if decide (enc t = x0) = true then _ else _) = _
  unfold endR
  by_cases he : enc t = x0
  · rw [decide_eq_true he, if_pos rfl, if_pos ⟨rfl, rfl, rfl, hm, he⟩]
  · rw [decide_eq_false he, if_neg (by simp), if_neg (fun h => he h.2.2.2.2)]
theorem read_l0 (x0 : List Int) (is : Bool) (m : Nat) (hm : m ≤ 401) : ∀ (f j k : Nat) (acc : List Nd) (xs : List Int) (bad : Bool), j + f = m → acc.length ≤ j → xs.length ≤ 9223372036854775807 → f + 600001 < k →
    nar_Read.l0 k x0 is acc (m : Int) (j : Int) xs bad = some (endR x0 is (rl f acc xs bad)) := by
  intro f
  induction f with
  | zero =>
    intro j k acc xs bad hj ha hx hk
    obtain ⟨k, rfl⟩ : ∃ m, k = m + 1 := ⟨k - 1, by omega⟩
    rw [nar_Read.l0, if_neg (by omega), end_f _ _ _ _ _ (by omega) k (by omega)]; rfl
  | succ f ih =>
    intro j k acc xs bad hj ha hx hk
    obtain ⟨k, rfl⟩ : ∃ m, k = m + 1 := ⟨k - 1, by omega⟩
    rw [nar_Read.l0, if_pos (by omega), rl]
    cases bad
    · rw [if_neg (by simp), if_neg (by simp), rnode_f xs false hx, some_bind, if_pos (by omega), w_one j (by omega)]
      exact ih (j + 1) k _ _ _ (by omega) (by simp; omega) (Nat.le_trans (rD_len _ _) hx) (by omega)
    · rw [if_pos rfl, if_pos rfl, end_f _ _ _ _ _ (by omega) k (by omega)]
/-- What bytes are read to, ahead of the last questions. -/
def parse (b : List Int) : List Nd × List Int × Bool := rl (mn (mx (rN (rT b false).2.1 (rT b false).2.2).1 0) 401).toNat [] (rN (rT b false).2.1 (rT b false).2.2).2.1 (rN (rT b false).2.1 (rT b false).2.2).2.2
def read (b : List Int) : List Nd × Int := endR b ((rT b false).1.toList == ([110, 97, 114, 45, 49] : List UInt8)) (parse b)
theorem read_f (b : List Int) (hb : b.length ≤ 9223372036854775807) (k : Nat) (hk : 700000 ≤ k) : nar_Read.f k b = some (read b) := by
  unfold nar_Read.f
  rw [show rd_new.f b = some (b, false) from rfl, some_bind, rtext_f b false hb, some_bind, rnum_f, some_bind]
  have h0 : 0 ≤ mn (mx (rN (rT b false).2.1 (rT b false).2.2).1 0) 401 ∧ mn (mx (rN (rT b false).2.1 (rT b false).2.2).1 0) 401 ≤ 401 := by unfold mn mx; (repeat' split) <;> omega
  obtain ⟨m, hm⟩ := Int.eq_ofNat_of_zero_le h0.1
  show nar_Read.l0 k b _ [] (mn (mx (rN (rT b false).2.1 (rT b false).2.2).1 0) 401) ((0 : Nat) : Int) _ _ = _
  unfold read parse
  rw [hm, Int.toNat_natCast]
  exact read_l0 b _ m (by omega) m 0 k [] _ _ (by omega) (by simp) (Nat.le_trans (rN_len _ _) (Nat.le_trans (rT_len _ _) hb)) (by omega)
/-! ### what was laid is read -/
theorem tk_app (a rest : List Int) : tk (a.length : Int) (a ++ rest) false = (a, rest, false) := by
  unfold tk
  rw [if_neg (by simp; omega), Int.toNat_natCast, List.take_left', List.drop_left']
  all_goals rfl
theorem rN_enc (n : Int) (h0 : 0 ≤ n) (h1 : n < 4611686018427387904) (rest : List Int) : rN (enc8 n ++ rest) false = (n, rest, false) := by
  have := tk_app (enc8 n) rest
  rw [enc8_len] at this
  unfold rN
  rw [show (8 : Int) = ((8 : Nat) : Int) from rfl, this, num64_enc8 n h0 h1, wrap_in (by omega) (by omega)]
theorem rT_enc (s : ByteArray) (hs : s.size ≤ 1000000000) (rest : List Int) : rT (encT s ++ rest) false = (s, rest, false) := by
  have e : encT s ++ rest = enc8 (s.size : Int) ++ (bytesOf s ++ (padN s ++ rest)) := by unfold encT; simp
  have h1 : tk (s.size : Int) (bytesOf s ++ (padN s ++ rest)) false = (bytesOf s, padN s ++ rest, false) := by
    have := tk_app (bytesOf s) (padN s ++ rest)
    rw [bytesOf_length] at this
    exact this
  have h2 : tk (padOf s) (padN s ++ rest) false = (padN s, rest, false) := by
    have := tk_app (padN s) rest
    rw [padN_len] at this
    unfold padOf
    rw [show -((s.size : Int) % 8) % 8 = (8 - (s.size : Int) % 8) % 8 by omega]
    exact this
  have h3 : (padN s).any (fun x => x != 0) = false := by
    rw [List.any_eq_false]
    intro x hx
    have := List.eq_of_mem_replicate hx
    rw [this]; simp
  unfold rT
  rw [e, rN_enc _ (by omega) (by omega)]
  simp only
  rw [h1]
  simp only
  rw [strOfNums_bytesOf, h2]
  simp only
  rw [h3]; rfl
theorem rD_enc {n : Nd} (h : goodN n = true) (rest : List Int) : rD (encN n ++ rest) false = (n, rest, false) := by
  obtain ⟨h1, h2, h3, h4⟩ := goodN_size h
  rw [← size_L] at h1 h2
  have e : encN n ++ rest = encT n.f0 ++ (enc8 n.f1 ++ (encT n.f2 ++ rest)) := by unfold encN; simp
  unfold rD
  rw [e, rT_enc _ (by omega)]
  simp only
  rw [rN_enc _ (by omega) (by omega)]
  simp only
  rw [rT_enc _ (by omega)]
theorem rl_enc : ∀ (t acc : List Nd) (rest : List Int), (∀ n ∈ t, goodN n = true) → rl t.length acc (t.flatMap encN ++ rest) false = (acc ++ t, rest, false) := by
  intro t
  induction t with
  | nil => intro acc rest _; simp [rl]
  | cons x t ih =>
    intro acc rest hg
    rw [List.length_cons, rl, if_neg (by simp), List.flatMap_cons, List.append_assoc, rD_enc (hg x (by simp))]
    simp only
    rw [ih _ _ (fun n hn => hg n (List.mem_cons_of_mem _ hn))]
    simp
theorem parse_enc {t : List Nd} (h : mayT t = true) (rest : List Int) : parse (enc t ++ rest) = (t, rest, false) ∧ (rT (enc t ++ rest) false).1 = mark := by
  obtain ⟨_, h4, hg⟩ := mayT_good h
  have hm : mark.size = 5 := rfl
  have e : enc t ++ rest = encT mark ++ (enc8 (t.length : Int) ++ (t.flatMap encN ++ rest)) := by unfold enc; simp
  refine ⟨?_, by rw [e, rT_enc _ (by omega)]⟩
  unfold parse
  rw [e, rT_enc _ (by omega)]
  simp only
  rw [rN_enc _ (by omega) (by omega)]
  simp only
  rw [show (mn (mx (t.length : Int) 0) 401).toNat = t.length by unfold mn mx; (repeat' split) <;> omega, rl_enc t [] rest hg]
  rfl
theorem read_enc {t : List Nd} (h : mayT t = true) : read (enc t) = (t, 0) := by
  obtain ⟨h1, h2⟩ := parse_enc h []
  rw [List.append_nil] at h1 h2
  unfold read endR
  rw [h1, h2]
  exact if_pos ⟨by rw [toL]; decide, rfl, rfl, h, rfl⟩
theorem read_cases (b : List Int) : (∃ t, read b = (t, 0) ∧ mayT t = true ∧ enc t = b) ∨ read b = ([], 5) := by
  unfold read endR
  split
  · rename_i h; exact .inl ⟨_, rfl, h.2.2.2.1, h.2.2.2.2⟩
  · exact .inr rfl
theorem enc_pre {t u : List Nd} (ht : mayT t = true) (hu : mayT u = true) {r s : List Int} (h : enc t ++ r = enc u ++ s) : t = u ∧ r = s := by
  have a := (parse_enc ht r).1
  have b := (parse_enc hu s).1
  rw [h, b] at a
  simp only [Prod.mk.injEq] at a
  exact ⟨a.1.symm, a.2.1.symm⟩
theorem enc_inj {t u : List Nd} (ht : mayT t = true) (hu : mayT u = true) (h : enc t = enc u) : t = u := (enc_pre ht hu (r := []) (s := []) (by rw [h])).1
theorem flat_mod (t : List Nd) : ((t.flatMap encN).length : Int) % 8 = 0 := by
  induction t with
  | nil => rfl
  | cons x t ih =>
    rw [List.flatMap_cons, List.length_append]
    have a := encT_len x.f0
    have b := encT_len x.f2
    have c : (encN x).length = (encT x.f0).length + (8 + (encT x.f2).length) := by unfold encN; rw [List.length_append, List.length_append, enc8_len]
    push_cast
    rw [c]
    push_cast
    omega
theorem enc_mod (t : List Nd) : ((enc t).length : Int) % 8 = 0 := by
  have a := encT_len mark
  have hm : mark.size = 5 := rfl
  have b := flat_mod t
  unfold enc
  rw [List.length_append, List.length_append, enc8_len]
  push_cast
  rw [a, hm]
  omega
theorem awake_300 : hogsheadlaw5_awake.f 300 = some true := by decide +kernel
theorem awake_f (k : Nat) (hk : 300 ≤ k) : hogsheadlaw5_awake.f k = some true := at_rounds (g := fun k => hogsheadlaw5_awake.f k) hogsheadlaw5_awake.mono hk awake_300
end Go.Proofs.YtfklncdllfhgmaaDoor.NarTh
/- The plain reference of package nar lays the same bytes. -/
namespace Go.Proofs.YtfklncdllfhgmaaDoor.NarRef
open Go.RowKit Go.Proofs.YtfklncdllfhgmaaDoorX Go.Proofs.YtfklncdllfhgmaaDoorW.PrintWords Go.Proofs.YtfklncdllfhgmaaDoorW.PrintLast Go.Proofs.YtfklncdllfhgmaaDoorW.PrintMore Go.Proofs.YtfklncdllfhgmaaDoor.P Go.Proofs.YtfklncdllfhgmaaDoor.Pa Go.Proofs.YtfklncdllfhgmaaDoor.PaTh Go.Proofs.YtfklncdllfhgmaaDoor.TreeTh Go.Proofs.YtfklncdllfhgmaaDoor.NarTh Go.Proofs.YtfklncdllfhgmaaDoor.TreeChar Go.Proofs.YtfklncdllfhgmaaDoor.RefTree
set_option linter.unusedVariables false
set_option linter.unusedSimpArgs false
theorem refNum_l0 (n : Int) (l : List Int) (hl : l.length ≤ 1000000000000) : ∀ (f j k : Nat), j + f = 8 → f < k → hogsheadref5_Num.l0 k n (l ++ ((List.range 8).take j).map (byteAt n)) (7 - (j : Int)) = some (l ++ enc8 n) := by
  intro f
  induction f with
  | zero =>
    intro j k hj hk
    obtain ⟨k, rfl⟩ : ∃ m, k = m + 1 := ⟨k - 1, by omega⟩
    obtain rfl : j = 8 := by omega
    rw [hogsheadref5_Num.l0, if_neg (by omega)]; rfl
  | succ f ih =>
    intro j k hj hk
    obtain ⟨k, rfl⟩ : ∃ m, k = m + 1 := ⟨k - 1, by omega⟩
    have hlen : (l ++ ((List.range 8).take j).map (byteAt n)).length < 140737488355328 := by simp; omega
    have h8 : wrap64 (8 * (7 - (j : Int))) = 8 * (7 - (j : Int)) := wrap_in (by omega) (by omega)
    have h7 : wrap64 (7 - (j : Int)) = 7 - (j : Int) := wrap_in (by omega) (by omega)
    have hu : IntKind.u64.wrap (8 * (7 - (j : Int))) = 8 * (7 - (j : Int)) := by rw [Bs.u64_wrap]; omega
    have hb : (shr .u64 (IntKind.u64.wrap n) (8 * (7 - (j : Int)))) % 256 = byteAt n j := by
      unfold byteAt
      rw [h7, h8, hu]
    rw [hogsheadref5_Num.l0, if_pos (by omega), h8, if_pos (by omega), if_pos hlen, hb, wrap_in (a := 7 - (j : Int) - 1) (by omega) (by omega)]
    have ht : ((List.range 8).take (j + 1)).map (byteAt n) = ((List.range 8).take j).map (byteAt n) ++ [byteAt n j] := by
      rw [List.take_add_one, List.getElem?_range (by omega)]; simp
    have := ih (j + 1) k (by omega) (by omega)
    rw [ht, ← List.append_assoc, show (7 : Int) - ((j + 1 : Nat) : Int) = 7 - (j : Int) - 1 by omega] at this
    exact this
theorem refNum_f (l : List Int) (hl : l.length ≤ 1000000000) (n : Int) (k : Nat) (hk : 9 ≤ k) : hogsheadref5_Num.f k l n = some (l ++ enc8 n) := by
  unfold hogsheadref5_Num.f
  rw [if_pos (by simp; omega)]
  have := refNum_l0 n l (by omega) 8 0 k (by omega) (by omega)
  simpa using this
theorem refText_l0 (l : List Int) (s : Nat) (hs : s ≤ 1000000000) (hl : l.length ≤ 10000000000) : ∀ (f j k : Nat), j + f = (8 - s % 8) % 8 → f < k → hogsheadref5_Text.l0 k (l ++ List.replicate j 0) ((s + j : Nat) : Int) = some (l ++ List.replicate ((8 - s % 8) % 8) 0) := by
  intro f
  induction f with
  | zero =>
    intro j k hj hk
    obtain ⟨k, rfl⟩ : ∃ m, k = m + 1 := ⟨k - 1, by omega⟩
    rw [hogsheadref5_Text.l0, if_pos (by rw [Int.tmod_eq_emod_of_nonneg (by omega)]; omega), show j = (8 - s % 8) % 8 by omega]
  | succ f ih =>
    intro j k hj hk
    obtain ⟨k, rfl⟩ : ∃ m, k = m + 1 := ⟨k - 1, by omega⟩
    have := ih (j + 1) k (by omega) (by omega)
    rw [List.replicate_succ', ← List.append_assoc] at this
    rw [hogsheadref5_Text.l0, if_neg (by rw [Int.tmod_eq_emod_of_nonneg (by omega)]; omega), if_pos (by rw [List.length_append, List.length_replicate]; omega), w_one (s + j) (by omega), show s + j + 1 = s + (j + 1) by omega]
    exact this
theorem refText_f (l : List Int) (hl : l.length ≤ 100000000) (s : ByteArray) (hs : s.size ≤ 1000000) (k : Nat) (hk : 9 ≤ k) : hogsheadref5_Text.f k l s = some (l ++ encT s) := by
  unfold hogsheadref5_Text.f
  have h := refText_l0 (l ++ enc8 (s.size : Int) ++ bytesOf s) s.size (by omega) (by rw [List.length_append, List.length_append, enc8_len, bytesOf_length]; omega) ((8 - s.size % 8) % 8) 0 k (by omega) (by omega)
  rw [List.replicate_zero, List.append_nil, Nat.add_zero] at h
  rw [refNum_f l (by omega) _ k hk, some_bind, if_pos (by rw [List.length_append, enc8_len]; omega), h]
  refine congrArg some ?_
  unfold encT padN
  rw [List.append_assoc, List.append_assoc, show (((8 - ((s.size : Int) % 8)) % 8 : Int)).toNat = (8 - s.size % 8) % 8 by omega]
theorem refLay_l0 (t : List Nd) (ht : t.length ≤ 400) (hg : ∀ n ∈ t, goodN n = true) : ∀ (f j k : Nat) (b : List Int), j + f = t.length → f + 20 < k → b.length ≤ 1000 + 1000 * j →
    hogsheadref5_Lay.l0 k t b (j : Int) = some (b ++ (t.drop j).flatMap encN, 0) := by
  intro f
  induction f with
  | zero =>
    intro j k b hj hk hb
    obtain ⟨k, rfl⟩ : ∃ m, k = m + 1 := ⟨k - 1, by omega⟩
    rw [hogsheadref5_Lay.l0, if_neg (by omega), List.drop_of_length_le (by omega)]; simp
  | succ f ih =>
    intro j k b hj hk hb
    obtain ⟨k, rfl⟩ : ∃ m, k = m + 1 := ⟨k - 1, by omega⟩
    have hjl : j < t.length := by omega
    have hgj := hg _ (at_mem hjl)
    obtain ⟨h1, h2, _⟩ := goodN_size hgj
    rw [← size_L] at h1 h2
    have a := encT_len (at_ t j).f0
    have c := encT_len (at_ t j).f2
    have hN := encN_len hgj
    rw [hogsheadref5_Lay.l0, if_pos (by omega), if_pos (by omega), rdN, refText_f [] (by simp) _ (by omega) k (by omega), some_bind, refNum_f _ (by simp; omega) _ k (by omega), some_bind, refText_f _ (by simp [enc8_len]; omega) _ (by omega) k (by omega), some_bind]
    have e : [] ++ encT (at_ t j).f0 ++ enc8 (at_ t j).f1 ++ encT (at_ t j).f2 = encN (at_ t j) := by unfold encN; simp
    rw [e, if_pos (by omega), w_one j (by omega), ih (j + 1) k _ (by omega) (by omega) (by rw [List.length_append]; omega), List.drop_eq_getElem_cons hjl, List.flatMap_cons, ← at_lt t j hjl, List.append_assoc]
theorem refLay_f (t : List Nd) (ht : t.length ≤ 1000) (k : Nat) (hk : 8000 ≤ k) : hogsheadref5_Lay.f k t = some (if mayT t = true then (enc t, 0) else ([], 7)) := by
  unfold hogsheadref5_Lay.f
  rw [refMayT_f t ht k hk, some_bind]
  by_cases h : mayT t = true
  · obtain ⟨h0, h1, h2⟩ := mayT_good h
    have hm : (⟨#[110, 97, 114, 45, 49]⟩ : ByteArray) = NarTh.mark := rfl
    have hms : NarTh.mark.size = 5 := rfl
    have a := encT_len NarTh.mark
    have := refLay_l0 t h1 h2 t.length 0 k ([] ++ encT NarTh.mark ++ enc8 (t.length : Int)) (by omega) (by omega) (by rw [List.nil_append, List.length_append, enc8_len]; omega)
    rw [if_pos h, if_pos h, hm, refText_f [] (by simp) _ (by rw [hms]; omega) k (by omega), some_bind, refNum_f _ (by rw [List.nil_append]; omega) _ k (by omega), some_bind]
    rw [show ((0 : Nat) : Int) = 0 from rfl, List.drop_zero] at this
    rw [this]
    unfold enc
    simp
  · rw [if_neg h, if_neg h]
theorem overB_l0 : ∀ (f j k : Nat) (l : List Int), l.length ≤ 1000000 → j + f = l.length → f < k → hogsheadlaw0_OverBytes.l0 k l (j : Int) = some () := by
  intro f
  induction f with
  | zero =>
    intro j k l hl hj hk
    obtain ⟨k, rfl⟩ : ∃ m, k = m + 1 := ⟨k - 1, by omega⟩
    rw [hogsheadlaw0_OverBytes.l0, if_neg (by omega), if_pos (by omega)]
  | succ f ih =>
    intro j k l hl hj hk
    obtain ⟨k, rfl⟩ : ∃ m, k = m + 1 := ⟨k - 1, by omega⟩
    rw [hogsheadlaw0_OverBytes.l0, if_pos (by omega), if_pos (by omega), w_one j (by omega), ih (j + 1) k _ (by rw [List.length_set]; omega) (by rw [List.length_set]; omega) (by omega)]
theorem overB_f (l : List Int) (hl : l.length ≤ 1000000) (k : Nat) (hk : l.length < k) : hogsheadlaw0_OverBytes.f k l = some () := by
  unfold hogsheadlaw0_OverBytes.f
  exact overB_l0 l.length 0 k l hl (by omega) hk
end Go.Proofs.YtfklncdllfhgmaaDoor.NarRef
/- The plain law behind NarLays. -/
namespace Go.Proofs.YtfklncdllfhgmaaDoor.Pure
open Go.RowKit Go.Proofs.YtfklncdllfhgmaaDoorX Go.Proofs.YtfklncdllfhgmaaDoorW.PrintWords Go.Proofs.YtfklncdllfhgmaaDoorW.PrintLast Go.Proofs.YtfklncdllfhgmaaDoorW.PrintMore Go.Proofs.YtfklncdllfhgmaaDoor.P Go.Proofs.YtfklncdllfhgmaaDoor.Pa Go.Proofs.YtfklncdllfhgmaaDoor.PaTh Go.Proofs.YtfklncdllfhgmaaDoor.TreeTh Go.Proofs.YtfklncdllfhgmaaDoor.NarTh Go.Proofs.YtfklncdllfhgmaaDoor.RefTree Go.Proofs.YtfklncdllfhgmaaDoor.NarRef
set_option linter.unusedVariables false
set_option linter.unusedSimpArgs false
theorem lays_j1 (b x y z : List Int) (hb : b.length ≤ 1000) (hx : x.length ≤ 1000000) (hy : y.length ≤ 1000000) (hz : z.length ≤ 1000000) (k : Nat) (hk : 1100000 ≤ k) : hogsheadlaw5_NarLays.j1 k b b x y z true = some true := by
  obtain ⟨k, rfl⟩ : ∃ m, k = m + 1 := ⟨k - 1, by omega⟩
  rw [hogsheadlaw5_NarLays.j1, overB_f x hx k (by omega), some_bind, overB_f y hy k (by omega), some_bind, overB_f z hz k (by omega), some_bind, if_pos rfl]
  unfold hogsheadlaw0_KeptBytes.f
  rw [sameB_f b b (by omega) k (by omega), some_bind, if_pos (decide_eq_true rfl), awake_f k (by omega), some_bind]
theorem lays_j0 (b : List Int) (n : Int) (s : ByteArray) (t : List Nd) (x : Bool) (hx : x = true ∨ (b.length ≤ 200 ∧ s.size ≤ 200 ∧ t.length ≤ 60)) (k : Nat) (hk : 1200000 ≤ k) : hogsheadlaw5_NarLays.j0 k b n s t x = some true := by
  obtain ⟨k, rfl⟩ : ∃ m, k = m + 1 := ⟨k - 1, by omega⟩
  rw [hogsheadlaw5_NarLays.j0]
  cases x
  case true => rw [if_pos rfl, awake_f k (by omega), some_bind]
  obtain ⟨hb, hs, ht⟩ : b.length ≤ 200 ∧ s.size ≤ 200 ∧ t.length ≤ 60 := hx.elim (fun e => by cases e) id
  have e1 : (b ++ enc8 n).length ≤ 1000 := by rw [List.length_append, enc8_len]; omega
  have hT := encT_len s
  have e2 : (b ++ encT s).length ≤ 1000 := by rw [List.length_append]; omega
  unfold hogsheadlaw0_LendBytes.f
  rw [if_neg (by decide), if_pos (by omega), some_bind, num_f b (by omega) n k (by omega), some_bind, text_f b (by omega) s (by omega) k (by omega), some_bind, lay_f t (by omega) k (by omega), some_bind, refLay_f t (by omega) k (by omega), some_bind,
    refNum_f b (by omega) n k (by omega), some_bind, sameB_f _ _ (by omega) k (by omega), some_bind, if_pos (decide_eq_true rfl), refText_f b (by omega) s (by omega) k (by omega), some_bind, sameB_f _ _ (by omega) k (by omega), some_bind, if_pos (decide_eq_true rfl)]
  have hlen : (if mayT t = true then (enc t, (0 : Int)) else ([], 7)).1.length ≤ 600000 := by
    by_cases h : mayT t = true
    · rw [if_pos h]; have := enc_len h; show (enc t).length ≤ _; omega
    · rw [if_neg h]; simp
  rw [sameB_f _ _ (by omega) k (by omega), some_bind, if_pos (decide_eq_true rfl)]
  unfold hogsheadlaw0_Num.f hogsheadlaw0_KeptBytes.f
  rw [some_bind, if_pos rfl, sameB_f b b (by omega) k (by omega), some_bind, decide_eq_true rfl]
  exact lays_j1 b _ _ _ (by omega) (by omega) (by omega) (by omega) k (by omega)
theorem NarLays : hogsheadlaw5_NarLays.Pure := by
  intro b n s t _ _ _ ⟨hl, _⟩
  have hl' : t.length ≤ 9223372036854775807 := by unfold maxLen at hl; exact hl
  refine ⟨1300000, ?_⟩
  unfold hogsheadlaw5_NarLays.f
  by_cases h1 : (b.length : Int) > 200
  · rw [if_pos h1]; exact lays_j0 b n s t true (.inl rfl) _ (by omega)
  rw [if_neg h1]
  by_cases h2 : (s.size : Int) > 200
  · rw [if_pos h2]; exact lays_j0 b n s t true (.inl rfl) _ (by omega)
  rw [if_neg h2, show (60 : Int) = ((60 : Nat) : Int) from rfl, great_f t 60 (by omega) hl' _ (by omega), some_bind]
  refine lays_j0 b n s t _ ?_ _ (by omega)
  by_cases hg : great t 60 = true
  · exact .inl hg
  · exact .inr ⟨by omega, by omega, (great_not hg).1⟩
end Go.Proofs.YtfklncdllfhgmaaDoor.Pure
