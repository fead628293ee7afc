/- A tree's bytes in plain words: how they are laid, how they are read, and that the one undoes the other. -/
import Derived.Test.YtfklncdllfhgmaaDoorRefTree
import Derived.Laws.Bits64b
namespace Go.Proofs.YtfklncdllfhgmaaDoor.NarTh
open Go.RowKit Go.Proofs.YtfklncdllfhgmaaDoorX Go.Proofs.YtfklncdllfhgmaaDoorW.PrintWords Go.Proofs.YtfklncdllfhgmaaDoorW.PrintLast Go.Proofs.YtfklncdllfhgmaaDoorW.PrintMore Go.Proofs.YtfklncdllfhgmaaDoor.P Go.Proofs.YtfklncdllfhgmaaDoor.Pa Go.Proofs.YtfklncdllfhgmaaDoor.PaTh Go.Proofs.YtfklncdllfhgmaaDoor.TreeTh
open Go.Proofs.YtfklncdllfhgmaaDoor.Bs (strOfNums_bytesOf)
set_option linter.unusedVariables false
set_option linter.unusedSimpArgs false
/-! ### numbers -/
def byteAt (n : Int) (i : Nat) : Int := (shr .u64 (IntKind.u64.wrap (n)) (IntKind.u64.wrap (wrap64 (8 * (wrap64 (7 - (i : Int))))))) % 256
def enc8 (n : Int) : List Int := (List.range 8).map (byteAt n)
theorem enc8_len (n : Int) : (enc8 n).length = 8 := by simp [enc8]
theorem clone_f (l : List Int) (h : l.length < 140737488355328) : slices_Clone_byte_byte.f l = some l := by
  unfold slices_Clone_byte_byte.f
  rw [some_bind, if_pos (by simpa using h)]; rfl
theorem u64_nonneg (x : Int) : 0 ≤ IntKind.u64.wrap x := by rw [Bs.u64_wrap]; omega
theorem num_l0 (n : Int) (l : List Int) (hl : l.length ≤ 1000000000000) : ∀ (f j k : Nat), j + f = 8 → f < k → nar_Num.l0 k n (l ++ ((List.range 8).take j).map (byteAt n)) (j : Int) = some (l ++ enc8 n) := by
  intro f
  induction f with
  | zero =>
    intro j k hj hk
    obtain ⟨k, rfl⟩ : ∃ m, k = m + 1 := ⟨k - 1, by omega⟩
    obtain rfl : j = 8 := by omega
    rw [nar_Num.l0, if_neg (by omega)]; rfl
  | succ f ih =>
    intro j k hj hk
    obtain ⟨k, rfl⟩ : ∃ m, k = m + 1 := ⟨k - 1, by omega⟩
    have hlen : (l ++ ((List.range 8).take j).map (byteAt n)).length < 140737488355328 := by simp; omega
    rw [nar_Num.l0, if_pos (by omega), if_pos (u64_nonneg _), if_pos hlen, w_one j (by omega)]
    have ht : ((List.range 8).take (j + 1)).map (byteAt n) = ((List.range 8).take j).map (byteAt n) ++ [byteAt n j] := by
      rw [List.take_add_one, List.getElem?_range (by omega)]; simp
    have := ih (j + 1) k (by omega) (by omega)
    rw [ht, ← List.append_assoc] at this
    exact this
theorem num_f (l : List Int) (hl : l.length ≤ 1000000000000) (n : Int) (k : Nat) (hk : 9 ≤ k) : nar_Num.f k l n = some (l ++ enc8 n) := by
  unfold nar_Num.f
  rw [clone_f l (by omega), some_bind]
  have := num_l0 n l hl 8 0 k (by omega) (by omega)
  simpa using this
theorem enc8_list (n : Int) (h0 : 0 ≤ n) (h1 : n < 4611686018427387904) : enc8 n = [n / 72057594037927936 % 256, n / 281474976710656 % 256, n / 1099511627776 % 256, n / 4294967296 % 256, n / 16777216 % 256, n / 65536 % 256, n / 256 % 256, n / 1 % 256] := by
  have e : IntKind.u64.wrap n = n := by rw [Bs.u64_wrap]; omega
  unfold enc8 byteAt
  rw [e]
  clear e h0 h1
  have w : ∀ i : Nat, i < 8 → IntKind.u64.wrap (wrap64 (8 * wrap64 (7 - (i : Int)))) = 8 * (7 - (i : Int)) := by decide +kernel
  have s : ∀ (y : Int) (p : Int), (2 : Int) ^ min y.toNat (IntKind.bits .u64) = p → shr .u64 n y = n / p := fun y p h => by unfold shr; rw [h]
  rw [show List.range 8 = [0, 1, 2, 3, 4, 5, 6, 7] from rfl]
  simp only [List.map_cons, List.map_nil]
  rw [w 0 (by omega), w 1 (by omega), w 2 (by omega), w 3 (by omega), w 4 (by omega), w 5 (by omega), w 6 (by omega), w 7 (by omega)]
  rw [s (8 * (7 - ((0 : Nat) : Int))) 72057594037927936 (by decide), s (8 * (7 - ((1 : Nat) : Int))) 281474976710656 (by decide), s (8 * (7 - ((2 : Nat) : Int))) 1099511627776 (by decide), s (8 * (7 - ((3 : Nat) : Int))) 4294967296 (by decide), s (8 * (7 - ((4 : Nat) : Int))) 16777216 (by decide), s (8 * (7 - ((5 : Nat) : Int))) 65536 (by decide), s (8 * (7 - ((6 : Nat) : Int))) 256 (by decide), s (8 * (7 - ((7 : Nat) : Int))) 1 (by decide)]
theorem or_byte (a x : Int) (h0 : 0 ≤ a) (h1 : a < 36028797018963968) (h2 : 0 ≤ x) (h3 : x < 256) : Go.bits .or .u64 (IntKind.u64.wrap (a * 256)) (IntKind.u64.wrap x) = a * 256 + x := by
  have e1 : IntKind.u64.wrap (a * 256) = a * 256 := by rw [Bs.u64_wrap]; omega
  have e2 : IntKind.u64.wrap x = x := by rw [Bs.u64_wrap]; omega
  rw [e1, e2]
  obtain ⟨m, rfl⟩ := Int.eq_ofNat_of_zero_le h0
  obtain ⟨y, rfl⟩ := Int.eq_ofNat_of_zero_le h2
  have := bits_or_u64_nat (m * 256) y (by omega) (by omega)
  have h := Nat.two_pow_add_eq_or_of_lt (i := 8) (b := y) (by omega) m
  rw [show 2 ^ 8 * m = m * 256 by omega] at h
  rw [show ((m : Int) * 256) = ((m * 256 : Nat) : Int) from (Int.natCast_mul m 256).symm, this, ← h]
  exact Int.natCast_add _ _
theorem num64_enc8 (n : Int) (h0 : 0 ≤ n) (h1 : n < 4611686018427387904) : num64 (enc8 n) = n := by
  rw [enc8_list n h0 h1]
  unfold num64
  simp only [List.foldl_cons, List.foldl_nil]
  have q1 : 0 ≤ n / 72057594037927936 ∧ n / 72057594037927936 < 64 := by omega
  have q2 : n / 72057594037927936 * 256 + n / 281474976710656 % 256 = n / 281474976710656 := by omega
  have q3 : n / 281474976710656 * 256 + n / 1099511627776 % 256 = n / 1099511627776 := by omega
  have q4 : n / 1099511627776 * 256 + n / 4294967296 % 256 = n / 4294967296 := by omega
  have q5 : n / 4294967296 * 256 + n / 16777216 % 256 = n / 16777216 := by omega
  have q6 : n / 16777216 * 256 + n / 65536 % 256 = n / 65536 := by omega
  have q7 : n / 65536 * 256 + n / 256 % 256 = n / 256 := by omega
  have q8 : n / 256 * 256 + n / 1 % 256 = n := by omega
  rw [or_byte 0 (n / 72057594037927936 % 256) (by omega) (by omega) (by omega) (by omega), show (0 : Int) * 256 + n / 72057594037927936 % 256 = n / 72057594037927936 by omega]
  rw [or_byte _ (n / 281474976710656 % 256) (by omega) (by omega) (by omega) (by omega), q2]
  rw [or_byte _ (n / 1099511627776 % 256) (by omega) (by omega) (by omega) (by omega), q3]
  rw [or_byte _ (n / 4294967296 % 256) (by omega) (by omega) (by omega) (by omega), q4]
  rw [or_byte _ (n / 16777216 % 256) (by omega) (by omega) (by omega) (by omega), q5]
  rw [or_byte _ (n / 65536 % 256) (by omega) (by omega) (by omega) (by omega), q6]
  rw [or_byte _ (n / 256 % 256) (by omega) (by omega) (by omega) (by omega), q7]
  rw [or_byte _ (n / 1 % 256) (by omega) (by omega) (by omega) (by omega), q8]
/-! ### texts -/
def padN (s : ByteArray) : List Int := List.replicate (((8 - ((s.size : Int) % 8)) % 8 : Int)).toNat 0
def encT (s : ByteArray) : List Int := enc8 (s.size : Int) ++ (bytesOf s ++ padN s)
theorem padN_len (s : ByteArray) : ((padN s).length : Int) = (8 - (s.size : Int) % 8) % 8 := by unfold padN; rw [List.length_replicate]; omega
theorem encT_len (s : ByteArray) : ((encT s).length : Int) = 8 + s.size + (8 - (s.size : Int) % 8) % 8 := by
  unfold encT
  rw [List.length_append, List.length_append, enc8_len, bytesOf_length]
  have := padN_len s
  push_cast
  omega
theorem text_f (l : List Int) (hl : l.length ≤ 100000000000) (s : ByteArray) (hs : s.size ≤ 1000000000) (k : Nat) (hk : 9 ≤ k) : nar_Text.f k l s = some (l ++ encT s) := by
  unfold nar_Text.f
  rw [num_f l (by omega) _ k hk, some_bind, if_pos (by rw [List.length_append, enc8_len]; omega), some_bind, if_pos (by omega), if_pos (by rw [List.length_append, List.length_append, enc8_len, bytesOf_length]; omega)]
  refine congrArg some ?_
  unfold encT padN
  rw [List.append_assoc, List.append_assoc]
def encN (n : Nd) : List Int := encT n.f0 ++ (enc8 n.f1 ++ encT n.f2)
def mark : ByteArray := ⟨#[110, 97, 114, 45, 49]⟩
def enc (t : List Nd) : List Int := encT mark ++ (enc8 (t.length : Int) ++ t.flatMap encN)
theorem encN_len {n : Nd} (h : goodN n = true) : (encN n).length ≤ 1000 := by
  obtain ⟨h1, h2, _⟩ := goodN_size h
  have a := encT_len n.f0
  have b := encT_len n.f2
  rw [← size_L] at h1 h2
  unfold encN
  rw [List.length_append, List.length_append, enc8_len]
  omega
theorem lay_l0 (t : List Nd) (ht : t.length ≤ 400) (hg : ∀ n ∈ t, goodN n = true) : ∀ (f j k : Nat) (b : List Int), j + f = t.length → f + 20 < k → b.length ≤ 1000 + 1000 * j →
    nar_Lay.l0 k b t (t.length : Int) (j : Int) = some (b ++ (t.drop j).flatMap encN, 0) := by
  intro f
  induction f with
  | zero =>
    intro j k b hj hk hb
    obtain ⟨k, rfl⟩ : ∃ m, k = m + 1 := ⟨k - 1, by omega⟩
    rw [nar_Lay.l0, if_neg (by omega), List.drop_of_length_le (by omega)]; simp
  | succ f ih =>
    intro j k b hj hk hb
    obtain ⟨k, rfl⟩ : ∃ m, k = m + 1 := ⟨k - 1, by omega⟩
    have hjl : j < t.length := by omega
    have hgj := hg _ (List.getElem_mem hjl)
    rw [← at_lt t j hjl] at hgj
    obtain ⟨h1, h2, _⟩ := goodN_size hgj
    have hn := encN_len hgj
    have a1 := encT_len (at_ t j).f0
    rw [← size_L] at h1 h2
    rw [nar_Lay.l0, if_pos (by omega), if_pos (by omega), if_pos (by omega), rdN, text_f b (by omega) _ (by omega) k (by omega), some_bind, num_f _ (by rw [List.length_append]; omega) _ k (by omega), some_bind, text_f _ (by rw [List.length_append, List.length_append, enc8_len]; omega) _ (by omega) k (by omega), some_bind, w_one j (by omega)]
    have e : b ++ encT (at_ t j).f0 ++ enc8 (at_ t j).f1 ++ encT (at_ t j).f2 = b ++ encN (at_ t j) := by unfold encN; simp
    rw [e, ih (j + 1) k _ (by omega) (by omega) (by rw [List.length_append]; omega), (List.drop_eq_getElem_cons hjl : t.drop j = _), List.flatMap_cons, ← at_lt t j hjl, List.append_assoc]
theorem lay_f (t : List Nd) (ht : t.length ≤ 1000000) (k : Nat) (hk : 1100 ≤ k) : nar_Lay.f k t = some (if mayT t = true then (enc t, 0) else ([], 7)) := by
  unfold nar_Lay.f
  rw [mayT_f t ht k hk, some_bind]
  by_cases h : mayT t = true
  · obtain ⟨h0, h4, hg⟩ := mayT_good h
    have hm : mark.size = 5 := rfl
    have hml := encT_len mark
    rw [if_pos h, if_pos h]
    show ((nar_Text.f k ([] : List Int) mark).bind _) = _
    rw [text_f [] (by simp) mark (by omega) k (by omega), some_bind, num_f _ (by simp; omega) _ k (by omega), some_bind, show (0 : Int) = ((0 : Nat) : Int) from rfl, lay_l0 t h4 hg t.length 0 k _ (by omega) (by omega) (by rw [List.length_append, enc8_len]; simp; omega)]
    refine congrArg some (congrArg (·, 0) ?_)
    unfold enc
    simp
  · rw [if_neg h, if_neg h]
/-! ### reading -/
def rN (xs : List Int) (bad : Bool) : Int × List Int × Bool := (wrap64 (num64 (tk 8 xs bad).1), (tk 8 xs bad).2.1, (tk 8 xs bad).2.2)
def rT (xs : List Int) (bad : Bool) : ByteArray × List Int × Bool :=
  (strOfNums (tk (rN xs bad).1 (rN xs bad).2.1 (rN xs bad).2.2).1, (tk (padOf (strOfNums (tk (rN xs bad).1 (rN xs bad).2.1 (rN xs bad).2.2).1)) (tk (rN xs bad).1 (rN xs bad).2.1 (rN xs bad).2.2).2.1 (tk (rN xs bad).1 (rN xs bad).2.1 (rN xs bad).2.2).2.2).2.1,
    (tk (padOf (strOfNums (tk (rN xs bad).1 (rN xs bad).2.1 (rN xs bad).2.2).1)) (tk (rN xs bad).1 (rN xs bad).2.1 (rN xs bad).2.2).2.1 (tk (rN xs bad).1 (rN xs bad).2.1 (rN xs bad).2.2).2.2).2.2 || (tk (padOf (strOfNums (tk (rN xs bad).1 (rN xs bad).2.1 (rN xs bad).2.2).1)) (tk (rN xs bad).1 (rN xs bad).2.1 (rN xs bad).2.2).2.1 (tk (rN xs bad).1 (rN xs bad).2.1 (rN xs bad).2.2).2.2).1.any (fun x => x != 0))
theorem tk_len (n : Int) (xs : List Int) (bad : Bool) : (tk n xs bad).1.length ≤ xs.length ∧ (tk n xs bad).2.1.length ≤ xs.length := by
  unfold tk
  split
  · exact ⟨Nat.zero_le _, Nat.le_refl _⟩
  · exact ⟨by show (xs.take _).length ≤ _; rw [List.length_take]; omega, by show (xs.drop _).length ≤ _; rw [List.length_drop]; omega⟩
theorem rnum_f (xs : List Int) (bad : Bool) : nar_reader_num.f xs bad = some (rN xs bad) := rfl
theorem rN_len (xs : List Int) (bad : Bool) : (rN xs bad).2.1.length ≤ xs.length := (tk_len 8 xs bad).2
theorem rtext_f (xs : List Int) (bad : Bool) (h : xs.length ≤ 9223372036854775807) : nar_reader_text.f xs bad = some (rT xs bad) := by
  unfold nar_reader_text.f
  rw [rnum_f, some_bind, if_pos (Nat.le_trans (tk_len _ _ _).1 (Nat.le_trans (rN_len _ _) h))]
  rfl
theorem rT_len (xs : List Int) (bad : Bool) : (rT xs bad).2.1.length ≤ xs.length := Nat.le_trans (tk_len _ _ _).2 (Nat.le_trans (tk_len _ _ _).2 (rN_len _ _))
def rD (xs : List Int) (bad : Bool) : Nd × List Int × Bool :=
  (⟨(rT xs bad).1, (rN (rT xs bad).2.1 (rT xs bad).2.2).1, (rT (rN (rT xs bad).2.1 (rT xs bad).2.2).2.1 (rN (rT xs bad).2.1 (rT xs bad).2.2).2.2).1⟩, (rT (rN (rT xs bad).2.1 (rT xs bad).2.2).2.1 (rN (rT xs bad).2.1 (rT xs bad).2.2).2.2).2)
theorem rD_len (xs : List Int) (bad : Bool) : (rD xs bad).2.1.length ≤ xs.length := Nat.le_trans (rT_len _ _) (Nat.le_trans (rN_len _ _) (rT_len _ _))
theorem rnode_f (xs : List Int) (bad : Bool) (h : xs.length ≤ 9223372036854775807) : nar_reader_node.f xs bad = some ((rD xs bad).1.f0, (rD xs bad).1.f1, (rD xs bad).1.f2, (rD xs bad).2.1, (rD xs bad).2.2) := by
  unfold nar_reader_node.f
  rw [rtext_f xs bad h, some_bind, rnum_f, some_bind, rtext_f _ _ (Nat.le_trans (rN_len _ _) (Nat.le_trans (rT_len _ _) h)), some_bind]
  rfl
def rl : Nat → List Nd → List Int → Bool → List Nd × List Int × Bool
  | 0, acc, xs, bad => (acc, xs, bad)
  | f + 1, acc, xs, bad => if bad = true then (acc, xs, true) else rl f (acc ++ [(rD xs false).1]) (rD xs false).2.1 (rD xs false).2.2
def endR (x0 : List Int) (is : Bool) (r : List Nd × List Int × Bool) : List Nd × Int := if is = true ∧ r.2.2 = false ∧ r.2.1 = [] ∧ mayT r.1 = true ∧ enc r.1 = x0 then (r.1, 0) else ([], 5)
theorem eqB_l0 (a b : List Int) (hab : a.length = b.length) (ha : a.length ≤ 1000000) : ∀ (f j k : Nat), j + f = a.length → f < k → slices_Equal_byte_byte.l0 k a b (a.length : Int) (j : Int) = some (decide (a.drop j = b.drop j)) := by
  intro f
  induction f with
  | zero =>
    intro j k hj hk
    obtain ⟨k, rfl⟩ : ∃ m, k = m + 1 := ⟨k - 1, by omega⟩
    rw [slices_Equal_byte_byte.l0, if_neg (by omega), List.drop_of_length_le (by omega), List.drop_of_length_le (by omega)]; rfl
  | succ f ih =>
    intro j k hj hk
    obtain ⟨k, rfl⟩ : ∃ m, k = m + 1 := ⟨k - 1, by omega⟩
    have ra : ∀ (l : List Int) (h : j < l.length), rd l (j : Int) = l[j] := fun l h => by unfold rd; rw [Int.toNat_natCast, List.getD_eq_getElem?_getD, List.getElem?_eq_getElem h]; rfl
    rw [slices_Equal_byte_byte.l0, if_pos (by omega), if_pos (by omega), if_pos (by omega), if_pos (by omega), ra a (by omega), ra b (by omega), w_one j (by omega), ih (j + 1) k (by omega) (by omega), (List.drop_eq_getElem_cons (show j < a.length by omega) : a.drop j = _), (List.drop_eq_getElem_cons (show j < b.length by omega) : b.drop j = _)]
    by_cases e : a[j] = b[j]
    · rw [if_pos e]
      refine congrArg some ?_
      rw [decide_eq_decide, List.cons.injEq]
      exact ⟨fun h => ⟨e, h⟩, fun h => h.2⟩
    · rw [if_neg e, decide_eq_false (fun h => e (List.cons.inj h).1)]
theorem eqB_f (a b : List Int) (ha : a.length ≤ 1000000) (k : Nat) (hk : a.length < k) : slices_Equal_byte_byte.f k a b = some (decide (a = b)) := by
  unfold slices_Equal_byte_byte.f
  by_cases h : (a.length : Int) = (b.length : Int)
  · rw [if_pos h, show (0 : Int) = ((0 : Nat) : Int) from rfl, eqB_l0 a b (by omega) ha a.length 0 k (by omega) hk]; rfl
  · rw [if_neg h, decide_eq_false (fun e => h (by rw [e]))]
theorem flat_len (t : List Nd) (hg : ∀ n ∈ t, goodN n = true) : (t.flatMap encN).length ≤ 1000 * t.length := by
  induction t with
  | nil => simp
  | cons x t ih =>
    rw [List.flatMap_cons, List.length_append, List.length_cons]
    have a := encN_len (hg x (by simp))
    have b := ih (fun n hn => hg n (List.mem_cons_of_mem _ hn))
    omega
theorem enc_len {t : List Nd} (h : mayT t = true) : (enc t).length ≤ 500000 := by
  obtain ⟨_, h4, hg⟩ := mayT_good h
  have := flat_len t hg
  have hml := encT_len mark
  have hm : mark.size = 5 := rfl
  unfold enc
  rw [List.length_append, List.length_append, enc8_len]
  omega
theorem end_f (x0 : List Int) (is : Bool) (t : List Nd) (xs : List Int) (bad : Bool) (ht : t.length ≤ 1000000) (k : Nat) (hk : 600000 ≤ k) : nar_Read.j1 k x0 is t xs bad = some (endR x0 is (t, xs, bad)) := by
  obtain ⟨k, rfl⟩ : ∃ m, k = m + 2 := ⟨k - 2, by omega⟩
  have j2t : nar_Read.j2 (k + 1) x0 t true = some ([], 5) := by rw [nar_Read.j2, if_pos rfl]
  rw [nar_Read.j1]
  cases is
  · rw [if_neg (by simp), j2t]; unfold endR; rw [if_neg (by simp)]
  rw [if_pos rfl]
  cases bad
  case true => rw [if_pos rfl, j2t]; unfold endR; rw [if_neg (by simp)]
  rw [if_neg (by simp)]
  by_cases hx : xs = []
  case neg =>
    have : 0 < xs.length := List.length_pos_iff.2 hx
    rw [if_pos (by omega), j2t]; unfold endR; rw [if_neg (fun h => hx h.2.2.1)]
  subst hx
  rw [if_neg (by simp), mayT_f t ht (k + 1) (by omega), some_bind]
  by_cases hm : mayT t = true
  case neg => rw [Bool.not_eq_true] at hm; rw [hm, Bool.not_false, j2t]; unfold endR; rw [if_neg (fun h => by have := h.2.2.2.1; rw [hm] at this; cases this)]
  rw [hm, Bool.not_true, nar_Read.j2, if_neg (by simp), lay_f t ht k (by omega), if_pos hm, some_bind]
  have hl := enc_len hm
  rw [eqB_f _ _ (by show (enc t).length ≤ _; omega) k (by show (enc t).length < k; omega), some_bind]
  show (if decide (enc t = x0) = true then _ else _) = _
  unfold endR
  by_cases he : enc t = x0
  · rw [decide_eq_true he, if_pos rfl, if_pos ⟨rfl, rfl, rfl, hm, he⟩]
  · rw [decide_eq_false he, if_neg (by simp), if_neg (fun h => he h.2.2.2.2)]
theorem read_l0 (x0 : List Int) (is : Bool) (m : Nat) (hm : m ≤ 401) : ∀ (f j k : Nat) (acc : List Nd) (xs : List Int) (bad : Bool), j + f = m → acc.length ≤ j → xs.length ≤ 9223372036854775807 → f + 600001 < k →
    nar_Read.l0 k x0 is acc (m : Int) (j : Int) xs bad = some (endR x0 is (rl f acc xs bad)) := by
  intro f
  induction f with
  | zero =>
    intro j k acc xs bad hj ha hx hk
    obtain ⟨k, rfl⟩ : ∃ m, k = m + 1 := ⟨k - 1, by omega⟩
    rw [nar_Read.l0, if_neg (by omega), end_f _ _ _ _ _ (by omega) k (by omega)]; rfl
  | succ f ih =>
    intro j k acc xs bad hj ha hx hk
    obtain ⟨k, rfl⟩ : ∃ m, k = m + 1 := ⟨k - 1, by omega⟩
    rw [nar_Read.l0, if_pos (by omega), rl]
    cases bad
    · rw [if_neg (by simp), if_neg (by simp), rnode_f xs false hx, some_bind, if_pos (by omega), w_one j (by omega)]
      exact ih (j + 1) k _ _ _ (by omega) (by simp; omega) (Nat.le_trans (rD_len _ _) hx) (by omega)
    · rw [if_pos rfl, if_pos rfl, end_f _ _ _ _ _ (by omega) k (by omega)]
/-- What bytes are read to, ahead of the last questions. -/
def parse (b : List Int) : List Nd × List Int × Bool := rl (mn (mx (rN (rT b false).2.1 (rT b false).2.2).1 0) 401).toNat [] (rN (rT b false).2.1 (rT b false).2.2).2.1 (rN (rT b false).2.1 (rT b false).2.2).2.2
def read (b : List Int) : List Nd × Int := endR b ((rT b false).1.toList == ([110, 97, 114, 45, 49] : List UInt8)) (parse b)
theorem read_f (b : List Int) (hb : b.length ≤ 9223372036854775807) (k : Nat) (hk : 700000 ≤ k) : nar_Read.f k b = some (read b) := by
  unfold nar_Read.f
  rw [show rd_new.f b = some (b, false) from rfl, some_bind, rtext_f b false hb, some_bind, rnum_f, some_bind]
  have h0 : 0 ≤ mn (mx (rN (rT b false).2.1 (rT b false).2.2).1 0) 401 ∧ mn (mx (rN (rT b false).2.1 (rT b false).2.2).1 0) 401 ≤ 401 := by unfold mn mx; (repeat' split) <;> omega
  obtain ⟨m, hm⟩ := Int.eq_ofNat_of_zero_le h0.1
  show nar_Read.l0 k b _ [] (mn (mx (rN (rT b false).2.1 (rT b false).2.2).1 0) 401) ((0 : Nat) : Int) _ _ = _
  unfold read parse
  rw [hm, Int.toNat_natCast]
  exact read_l0 b _ m (by omega) m 0 k [] _ _ (by omega) (by simp) (Nat.le_trans (rN_len _ _) (Nat.le_trans (rT_len _ _) hb)) (by omega)
/-! ### what was laid is read -/
theorem tk_app (a rest : List Int) : tk (a.length : Int) (a ++ rest) false = (a, rest, false) := by
  unfold tk
  rw [if_neg (by simp; omega), Int.toNat_natCast, List.take_left', List.drop_left']
  all_goals rfl
theorem rN_enc (n : Int) (h0 : 0 ≤ n) (h1 : n < 4611686018427387904) (rest : List Int) : rN (enc8 n ++ rest) false = (n, rest, false) := by
  have := tk_app (enc8 n) rest
  rw [enc8_len] at this
  unfold rN
  rw [show (8 : Int) = ((8 : Nat) : Int) from rfl, this, num64_enc8 n h0 h1, wrap_in (by omega) (by omega)]
theorem rT_enc (s : ByteArray) (hs : s.size ≤ 1000000000) (rest : List Int) : rT (encT s ++ rest) false = (s, rest, false) := by
  have e : encT s ++ rest = enc8 (s.size : Int) ++ (bytesOf s ++ (padN s ++ rest)) := by unfold encT; simp
  have h1 : tk (s.size : Int) (bytesOf s ++ (padN s ++ rest)) false = (bytesOf s, padN s ++ rest, false) := by
    have := tk_app (bytesOf s) (padN s ++ rest)
    rw [bytesOf_length] at this
    exact this
  have h2 : tk (padOf s) (padN s ++ rest) false = (padN s, rest, false) := by
    have := tk_app (padN s) rest
    rw [padN_len] at this
    unfold padOf
    rw [show -((s.size : Int) % 8) % 8 = (8 - (s.size : Int) % 8) % 8 by omega]
    exact this
  have h3 : (padN s).any (fun x => x != 0) = false := by
    rw [List.any_eq_false]
    intro x hx
    have := List.eq_of_mem_replicate hx
    rw [this]; simp
  unfold rT
  rw [e, rN_enc _ (by omega) (by omega)]
  simp only
  rw [h1]
  simp only
  rw [strOfNums_bytesOf, h2]
  simp only
  rw [h3]; rfl
theorem rD_enc {n : Nd} (h : goodN n = true) (rest : List Int) : rD (encN n ++ rest) false = (n, rest, false) := by
  obtain ⟨h1, h2, h3, h4⟩ := goodN_size h
  rw [← size_L] at h1 h2
  have e : encN n ++ rest = encT n.f0 ++ (enc8 n.f1 ++ (encT n.f2 ++ rest)) := by unfold encN; simp
  unfold rD
  rw [e, rT_enc _ (by omega)]
  simp only
  rw [rN_enc _ (by omega) (by omega)]
  simp only
  rw [rT_enc _ (by omega)]
theorem rl_enc : ∀ (t acc : List Nd) (rest : List Int), (∀ n ∈ t, goodN n = true) → rl t.length acc (t.flatMap encN ++ rest) false = (acc ++ t, rest, false) := by
  intro t
  induction t with
  | nil => intro acc rest _; simp [rl]
  | cons x t ih =>
    intro acc rest hg
    rw [List.length_cons, rl, if_neg (by simp), List.flatMap_cons, List.append_assoc, rD_enc (hg x (by simp))]
    simp only
    rw [ih _ _ (fun n hn => hg n (List.mem_cons_of_mem _ hn))]
    simp
theorem parse_enc {t : List Nd} (h : mayT t = true) (rest : List Int) : parse (enc t ++ rest) = (t, rest, false) ∧ (rT (enc t ++ rest) false).1 = mark := by
  obtain ⟨_, h4, hg⟩ := mayT_good h
  have hm : mark.size = 5 := rfl
  have e : enc t ++ rest = encT mark ++ (enc8 (t.length : Int) ++ (t.flatMap encN ++ rest)) := by unfold enc; simp
  refine ⟨?_, by rw [e, rT_enc _ (by omega)]⟩
  unfold parse
  rw [e, rT_enc _ (by omega)]
  simp only
  rw [rN_enc _ (by omega) (by omega)]
  simp only
  rw [show (mn (mx (t.length : Int) 0) 401).toNat = t.length by unfold mn mx; (repeat' split) <;> omega, rl_enc t [] rest hg]
  rfl
theorem read_enc {t : List Nd} (h : mayT t = true) : read (enc t) = (t, 0) := by
  obtain ⟨h1, h2⟩ := parse_enc h []
  rw [List.append_nil] at h1 h2
  unfold read endR
  rw [h1, h2]
  exact if_pos ⟨by rw [toL]; decide, rfl, rfl, h, rfl⟩
theorem read_cases (b : List Int) : (∃ t, read b = (t, 0) ∧ mayT t = true ∧ enc t = b) ∨ read b = ([], 5) := by
  unfold read endR
  split
  · rename_i h; exact .inl ⟨_, rfl, h.2.2.2.1, h.2.2.2.2⟩
  · exact .inr rfl
theorem enc_pre {t u : List Nd} (ht : mayT t = true) (hu : mayT u = true) {r s : List Int} (h : enc t ++ r = enc u ++ s) : t = u ∧ r = s := by
  have a := (parse_enc ht r).1
  have b := (parse_enc hu s).1
  rw [h, b] at a
  simp only [Prod.mk.injEq] at a
  exact ⟨a.1.symm, a.2.1.symm⟩
theorem enc_inj {t u : List Nd} (ht : mayT t = true) (hu : mayT u = true) (h : enc t = enc u) : t = u := (enc_pre ht hu (r := []) (s := []) (by rw [h])).1
theorem flat_mod (t : List Nd) : ((t.flatMap encN).length : Int) % 8 = 0 := by
  induction t with
  | nil => rfl
  | cons x t ih =>
    rw [List.flatMap_cons, List.length_append]
    have a := encT_len x.f0
    have b := encT_len x.f2
    have c : (encN x).length = (encT x.f0).length + (8 + (encT x.f2).length) := by unfold encN; rw [List.length_append, List.length_append, enc8_len]
    push_cast
    rw [c]
    push_cast
    omega
theorem enc_mod (t : List Nd) : ((enc t).length : Int) % 8 = 0 := by
  have a := encT_len mark
  have hm : mark.size = 5 := rfl
  have b := flat_mod t
  unfold enc
  rw [List.length_append, List.length_append, enc8_len]
  push_cast
  rw [a, hm]
  omega
theorem awake_300 : hogsheadlaw5_awake.f 300 = some true := by decide +kernel
theorem awake_f (k : Nat) (hk : 300 ≤ k) : hogsheadlaw5_awake.f k = some true := at_rounds (g := fun k => hogsheadlaw5_awake.f k) hogsheadlaw5_awake.mono hk awake_300
end Go.Proofs.YtfklncdllfhgmaaDoor.NarTh
/- The plain reference of package nar lays the same bytes. -/
namespace Go.Proofs.YtfklncdllfhgmaaDoor.NarRef
open Go.RowKit Go.Proofs.YtfklncdllfhgmaaDoorX Go.Proofs.YtfklncdllfhgmaaDoorW.PrintWords Go.Proofs.YtfklncdllfhgmaaDoorW.PrintLast Go.Proofs.YtfklncdllfhgmaaDoorW.PrintMore Go.Proofs.YtfklncdllfhgmaaDoor.P Go.Proofs.YtfklncdllfhgmaaDoor.Pa Go.Proofs.YtfklncdllfhgmaaDoor.PaTh Go.Proofs.YtfklncdllfhgmaaDoor.TreeTh Go.Proofs.YtfklncdllfhgmaaDoor.NarTh Go.Proofs.YtfklncdllfhgmaaDoor.TreeChar Go.Proofs.YtfklncdllfhgmaaDoor.RefTree
set_option linter.unusedVariables false
set_option linter.unusedSimpArgs false
theorem refNum_l0 (n : Int) (l : List Int) (hl : l.length ≤ 1000000000000) : ∀ (f j k : Nat), j + f = 8 → f < k → hogsheadref5_Num.l0 k n (l ++ ((List.range 8).take j).map (byteAt n)) (7 - (j : Int)) = some (l ++ enc8 n) := by
  intro f
  induction f with
  | zero =>
    intro j k hj hk
    obtain ⟨k, rfl⟩ : ∃ m, k = m + 1 := ⟨k - 1, by omega⟩
    obtain rfl : j = 8 := by omega
    rw [hogsheadref5_Num.l0, if_neg (by omega)]; rfl
  | succ f ih =>
    intro j k hj hk
    obtain ⟨k, rfl⟩ : ∃ m, k = m + 1 := ⟨k - 1, by omega⟩
    have hlen : (l ++ ((List.range 8).take j).map (byteAt n)).length < 140737488355328 := by simp; omega
    have h8 : wrap64 (8 * (7 - (j : Int))) = 8 * (7 - (j : Int)) := wrap_in (by omega) (by omega)
    have h7 : wrap64 (7 - (j : Int)) = 7 - (j : Int) := wrap_in (by omega) (by omega)
    have hu : IntKind.u64.wrap (8 * (7 - (j : Int))) = 8 * (7 - (j : Int)) := by rw [Bs.u64_wrap]; omega
    have hb : (shr .u64 (IntKind.u64.wrap n) (8 * (7 - (j : Int)))) % 256 = byteAt n j := by
      unfold byteAt
      rw [h7, h8, hu]
    rw [hogsheadref5_Num.l0, if_pos (by omega), h8, if_pos (by omega), if_pos hlen, hb, wrap_in (a := 7 - (j : Int) - 1) (by omega) (by omega)]
    have ht : ((List.range 8).take (j + 1)).map (byteAt n) = ((List.range 8).take j).map (byteAt n) ++ [byteAt n j] := by
      rw [List.take_add_one, List.getElem?_range (by omega)]; simp
    have := ih (j + 1) k (by omega) (by omega)
    rw [ht, ← List.append_assoc, show (7 : Int) - ((j + 1 : Nat) : Int) = 7 - (j : Int) - 1 by omega] at this
    exact this
theorem refNum_f (l : List Int) (hl : l.length ≤ 1000000000) (n : Int) (k : Nat) (hk : 9 ≤ k) : hogsheadref5_Num.f k l n = some (l ++ enc8 n) := by
  unfold hogsheadref5_Num.f
  rw [if_pos (by simp; omega)]
  have := refNum_l0 n l (by omega) 8 0 k (by omega) (by omega)
  simpa using this
theorem refText_l0 (l : List Int) (s : Nat) (hs : s ≤ 1000000000) (hl : l.length ≤ 10000000000) : ∀ (f j k : Nat), j + f = (8 - s % 8) % 8 → f < k → hogsheadref5_Text.l0 k (l ++ List.replicate j 0) ((s + j : Nat) : Int) = some (l ++ List.replicate ((8 - s % 8) % 8) 0) := by
  intro f
  induction f with
  | zero =>
    intro j k hj hk
    obtain ⟨k, rfl⟩ : ∃ m, k = m + 1 := ⟨k - 1, by omega⟩
    rw [hogsheadref5_Text.l0, if_pos (by rw [Int.tmod_eq_emod_of_nonneg (by omega)]; omega), show j = (8 - s % 8) % 8 by omega]
  | succ f ih =>
    intro j k hj hk
    obtain ⟨k, rfl⟩ : ∃ m, k = m + 1 := ⟨k - 1, by omega⟩
    have := ih (j + 1) k (by omega) (by omega)
    rw [List.replicate_succ', ← List.append_assoc] at this
    rw [hogsheadref5_Text.l0, if_neg (by rw [Int.tmod_eq_emod_of_nonneg (by omega)]; omega), if_pos (by rw [List.length_append, List.length_replicate]; omega), w_one (s + j) (by omega), show s + j + 1 = s + (j + 1) by omega]
    exact this
theorem refText_f (l : List Int) (hl : l.length ≤ 100000000) (s : ByteArray) (hs : s.size ≤ 1000000) (k : Nat) (hk : 9 ≤ k) : hogsheadref5_Text.f k l s = some (l ++ encT s) := by
  unfold hogsheadref5_Text.f
  have h := refText_l0 (l ++ enc8 (s.size : Int) ++ bytesOf s) s.size (by omega) (by rw [List.length_append, List.length_append, enc8_len, bytesOf_length]; omega) ((8 - s.size % 8) % 8) 0 k (by omega) (by omega)
  rw [List.replicate_zero, List.append_nil, Nat.add_zero] at h
  rw [refNum_f l (by omega) _ k hk, some_bind, if_pos (by rw [List.length_append, enc8_len]; omega), h]
  refine congrArg some ?_
  unfold encT padN
  rw [List.append_assoc, List.append_assoc, show (((8 - ((s.size : Int) % 8)) % 8 : Int)).toNat = (8 - s.size % 8) % 8 by omega]
theorem refLay_l0 (t : List Nd) (ht : t.length ≤ 400) (hg : ∀ n ∈ t, goodN n = true) : ∀ (f j k : Nat) (b : List Int), j + f = t.length → f + 20 < k → b.length ≤ 1000 + 1000 * j →
    hogsheadref5_Lay.l0 k t b (j : Int) = some (b ++ (t.drop j).flatMap encN, 0) := by
  intro f
  induction f with
  | zero =>
    intro j k b hj hk hb
    obtain ⟨k, rfl⟩ : ∃ m, k = m + 1 := ⟨k - 1, by omega⟩
    rw [hogsheadref5_Lay.l0, if_neg (by omega), List.drop_of_length_le (by omega)]; simp
  | succ f ih =>
    intro j k b hj hk hb
    obtain ⟨k, rfl⟩ : ∃ m, k = m + 1 := ⟨k - 1, by omega⟩
    have hjl : j < t.length := by omega
    have hgj := hg _ (at_mem hjl)
    obtain ⟨h1, h2, _⟩ := goodN_size hgj
    rw [← size_L] at h1 h2
    have a := encT_len (at_ t j).f0
    have c := encT_len (at_ t j).f2
    have hN := encN_len hgj
    rw [hogsheadref5_Lay.l0, if_pos (by omega), if_pos (by omega), rdN, refText_f [] (by simp) _ (by omega) k (by omega), some_bind, refNum_f _ (by simp; omega) _ k (by omega), some_bind, refText_f _ (by simp [enc8_len]; omega) _ (by omega) k (by omega), some_bind]
    have e : [] ++ encT (at_ t j).f0 ++ enc8 (at_ t j).f1 ++ encT (at_ t j).f2 = encN (at_ t j) := by unfold encN; simp
    rw [e, if_pos (by omega), w_one j (by omega), ih (j + 1) k _ (by omega) (by omega) (by rw [List.length_append]; omega), List.drop_eq_getElem_cons hjl, List.flatMap_cons, ← at_lt t j hjl, List.append_assoc]
theorem refLay_f (t : List Nd) (ht : t.length ≤ 1000) (k : Nat) (hk : 8000 ≤ k) : hogsheadref5_Lay.f k t = some (if mayT t = true then (enc t, 0) else ([], 7)) := by
  unfold hogsheadref5_Lay.f
  rw [refMayT_f t ht k hk, some_bind]
  by_cases h : mayT t = true
  · obtain ⟨h0, h1, h2⟩ := mayT_good h
    have hm : (⟨#[110, 97, 114, 45, 49]⟩ : ByteArray) = NarTh.mark := rfl
    have hms : NarTh.mark.size = 5 := rfl
    have a := encT_len NarTh.mark
    have := refLay_l0 t h1 h2 t.length 0 k ([] ++ encT NarTh.mark ++ enc8 (t.length : Int)) (by omega) (by omega) (by rw [List.nil_append, List.length_append, enc8_len]; omega)
    rw [if_pos h, if_pos h, hm, refText_f [] (by simp) _ (by rw [hms]; omega) k (by omega), some_bind, refNum_f _ (by rw [List.nil_append]; omega) _ k (by omega), some_bind]
    rw [show ((0 : Nat) : Int) = 0 from rfl, List.drop_zero] at this
    rw [this]
    unfold enc
    simp
  · rw [if_neg h, if_neg h]
end Go.Proofs.YtfklncdllfhgmaaDoor.NarRef
/- The plain law behind NarReads: the plain reference's reader, told by what it reads. -/
namespace Go.Proofs.YtfklncdllfhgmaaDoor.Pure
open Go.RowKit Go.Proofs.YtfklncdllfhgmaaDoorX Go.Proofs.YtfklncdllfhgmaaDoorW.PrintWords Go.Proofs.YtfklncdllfhgmaaDoorW.PrintLast Go.Proofs.YtfklncdllfhgmaaDoorW.PrintMore Go.Proofs.YtfklncdllfhgmaaDoor.P Go.Proofs.YtfklncdllfhgmaaDoor.Pa Go.Proofs.YtfklncdllfhgmaaDoor.PaTh Go.Proofs.YtfklncdllfhgmaaDoor.TreeTh Go.Proofs.YtfklncdllfhgmaaDoor.NarTh Go.Proofs.YtfklncdllfhgmaaDoor.TreeChar Go.Proofs.YtfklncdllfhgmaaDoor.RefTree Go.Proofs.YtfklncdllfhgmaaDoor.NarRef
open Go.Proofs.YtfklncdllfhgmaaDoor.Bs (Bytes bytesOf_bytes bytesOf_strOfNums strOfNums_bytesOf)
set_option linter.unusedVariables false
set_option linter.unusedSimpArgs false
theorem snocI (l : List Int) (i : Nat) (h : i < l.length) : l.take (i + 1) = l.take i ++ [l[i]] := by rw [List.take_add_one, List.getElem?_eq_getElem h]; rfl
theorem rnum_l0 (l : List Int) (hl : l.length ≤ 100000) (a : Nat) (ha : a + 8 ≤ l.length) (bad : Bool) : ∀ (f i k : Nat), i + f = 8 → f < k →
    hogsheadref5_Reader_Num.l0 k (num64 ((l.drop a).take i)) (i : Int) l (a : Int) bad = some (wrap64 (num64 ((l.drop a).take 8)), l, ((a + 8 : Nat) : Int), bad) := by
  intro f
  induction f with
  | zero =>
    intro i k hi hk
    obtain ⟨k, rfl⟩ : ∃ m, k = m + 1 := ⟨k - 1, by omega⟩
    obtain rfl : i = 8 := by omega
    rw [hogsheadref5_Reader_Num.l0, if_neg (by omega), wrap_in (a := (a : Int) + 8) (by omega) (by omega)]; rfl
  | succ f ih =>
    intro i k hi hk
    obtain ⟨k, rfl⟩ : ∃ m, k = m + 1 := ⟨k - 1, by omega⟩
    have hw : wrap64 ((a : Int) + (i : Int)) = ((a + i : Nat) : Int) := by rw [wrap_in (by omega) (by omega)]; omega
    have hlt : i < (l.drop a).length := by rw [List.length_drop]; omega
    have hrd : rd l ((a + i : Nat) : Int) = (l.drop a)[i] := by
      unfold rd
      rw [Int.toNat_natCast, List.getD_eq_getElem?_getD, List.getElem?_eq_getElem (by omega), List.getElem_drop]; rfl
    have := ih (i + 1) k (by omega) (by omega)
    rw [snocI _ i hlt, num64_snoc] at this
    rw [hogsheadref5_Reader_Num.l0, if_pos (by omega), hw, if_pos (by omega), if_pos (by omega), w_one i (by omega), hrd]
    exact this
theorem rnum (l : List Int) (hl : l.length ≤ 100000) (a : Nat) (ha : a ≤ l.length) (bad : Bool) (k : Nat) (hk : 20 ≤ k) :
    hogsheadref5_Reader_Num.f k l (a : Int) bad = some (if bad = true ∨ l.length < a + 8 then (0, l, (a : Int), true) else (wrap64 (num64 ((l.drop a).take 8)), l, ((a + 8 : Nat) : Int), false)) := by
  obtain ⟨k, rfl⟩ : ∃ m, k = m + 1 := ⟨k - 1, by omega⟩
  unfold hogsheadref5_Reader_Num.f
  cases bad
  case true => rw [if_pos rfl, if_pos (.inl rfl), hogsheadref5_Reader_Num.j0, if_pos rfl]
  rw [if_neg (by simp), wrap_in (by omega) (by omega), hogsheadref5_Reader_Num.j0]
  by_cases h : l.length < a + 8
  · rw [decide_eq_true (by omega), if_pos rfl, if_pos (.inr h)]
  · rw [decide_eq_false (by omega), if_neg (by simp), if_neg (by simp; omega)]
    exact rnum_l0 l hl a (by omega) false 8 0 k (by omega) (by omega)
theorem rnum_tot (l : List Int) (hl : l.length ≤ 100000) (a : Nat) (ha : a ≤ l.length) (bad : Bool) (k : Nat) (hk : 20 ≤ k) :
    ∃ (v : Int) (a' : Nat) (b' : Bool), hogsheadref5_Reader_Num.f k l (a : Int) bad = some (v, l, (a' : Int), b') ∧ a' ≤ l.length ∧ -9223372036854775808 ≤ v ∧ v ≤ 9223372036854775807 := by
  rw [rnum l hl a ha bad k hk]
  by_cases h : bad = true ∨ l.length < a + 8
  · rw [if_pos h]; exact ⟨_, _, _, rfl, ha, by omega, by omega⟩
  · rw [if_neg h]
    refine ⟨_, _, _, rfl, by rw [not_or] at h; omega, ?_, ?_⟩ <;> (unfold wrap64; omega)
theorem take_tot (l : List Int) (a : Nat) (ha : a ≤ l.length) (bad : Bool) (n : Int) :
    ∃ (s : ByteArray) (a' : Nat) (b' : Bool), hogsheadref5_Reader_Take.f l (a : Int) bad n = some (s, l, (a' : Int), b') ∧ a' ≤ l.length := by
  unfold hogsheadref5_Reader_Take.f
  rw [if_pos ⟨by omega, by omega⟩]
  by_cases h : bad = true ∨ n < 0 ∨ (l.length : Int) - (a : Int) < n
  · rw [if_pos h]; exact ⟨_, _, _, rfl, ha⟩
  · rw [if_neg h]
    rw [not_or, not_or] at h
    refine ⟨strOfNums ((l.take ((a : Int) + n).toNat).drop (a : Int).toNat), ((a : Int) + n).toNat, false, ?_, by omega⟩
    rw [show (((((a : Int) + n).toNat : Nat)) : Int) = (a : Int) + n by omega]
theorem text_tot (l : List Int) (hl : l.length ≤ 100000) (a : Nat) (ha : a ≤ l.length) (bad : Bool) (k : Nat) (hk : 20 ≤ k) :
    ∃ (s : ByteArray) (a' : Nat) (b' : Bool), hogsheadref5_Reader_Text.f k l (a : Int) bad = some (s, l, (a' : Int), b') ∧ a' ≤ l.length := by
  obtain ⟨v, a1, b1, e1, h1, hv1, hv2⟩ := rnum_tot l hl a ha bad k hk
  obtain ⟨s, a2, b2, e2, h2⟩ := take_tot l a1 h1 b1 v
  unfold hogsheadref5_Reader_Text.f
  rw [e1, some_bind, e2, some_bind]
  by_cases hb : b2 = true
  · rw [if_pos hb]; exact ⟨_, _, _, rfl, h2⟩
  rw [if_neg hb]
  by_cases hm : Int.tmod v 8 = 0
  · rw [if_pos hm]; exact ⟨_, _, _, rfl, h2⟩
  rw [if_neg hm]
  obtain ⟨s', a3, b3, e3, h3⟩ := take_tot l a2 h2 b2 (wrap64 (8 - Int.tmod v 8))
  rw [e3, some_bind]
  exact ⟨_, _, _, rfl, h3⟩
/-- What a reading may come to. -/
def good5 (b : List Int) (r : Option (List Nd × Int)) : Prop := r = some ([], 5) ∨ ∃ t, r = some (t, 0) ∧ mayT t = true ∧ enc t = b
theorem bytes_enc8 (n : Int) : Bytes (enc8 n) := by
  intro x hx
  obtain ⟨i, _, rfl⟩ := List.mem_map.1 hx
  unfold byteAt
  omega
theorem bytes_encT (s : ByteArray) : Bytes (encT s) := by
  unfold encT padN
  refine (bytes_enc8 _).append ((bytesOf_bytes s).append fun x hx => ?_)
  rw [List.mem_replicate] at hx
  omega
theorem bytes_enc (t : List Nd) : Bytes (enc t) := by
  unfold enc
  refine (bytes_encT _).append ((bytes_enc8 _).append fun x hx => ?_)
  obtain ⟨n, _, h⟩ := List.mem_flatMap.1 hx
  unfold encN at h
  exact ((bytes_encT _).append ((bytes_enc8 _).append (bytes_encT _))) x h
theorem end_good (b : List Int) (hb : Bytes b) (t : List Nd) (ht : t.length ≤ 1000) (bad : Bool) (k : Nat) (hk : 8000 ≤ k) :
    good5 b ((hogsheadref5_Lay.f k t).bind fun bt336 => (if bad = true then (some (([] : List Nd), 5)) else (if bt336.2 = 0 then (if (strOfNums bt336.1).toList = (strOfNums b).toList then (some (t, 0)) else (some (([] : List Nd), 5))) else (some (([] : List Nd), 5))))) := by
  rw [refLay_f t ht k hk, some_bind]
  by_cases h : bad = true
  · rw [if_pos h]; exact .inl rfl
  rw [if_neg h]
  by_cases hm : mayT t = true
  · rw [if_pos hm]
    show good5 b (if (0 : Int) = 0 then (if (strOfNums (enc t)).toList = (strOfNums b).toList then _ else _) else _)
    rw [if_pos rfl]
    by_cases he : (strOfNums (enc t)).toList = (strOfNums b).toList
    · rw [if_pos he]
      refine .inr ⟨t, rfl, hm, ?_⟩
      have h1 := Bs.toList_inj.1 he
      rw [← bytesOf_strOfNums (bytes_enc t), h1, bytesOf_strOfNums hb]
    · rw [if_neg he]; exact .inl rfl
  · rw [if_neg hm]
    show good5 b (if (7 : Int) = 0 then _ else _)
    rw [if_neg (by omega)]; exact .inl rfl
theorem loop_good (b : List Int) (hb : Bytes b) (hl : b.length ≤ 100000) (n : Nat) (hn : n ≤ 400) : ∀ (f j k : Nat) (t : List Nd) (a : Nat) (bad : Bool), j + f = n → t.length ≤ j → a ≤ b.length → 2 * f + 8010 < k →
    good5 b (hogsheadref5_Read.l0 k b (n : Int) t (j : Int) b (a : Int) bad) := by
  intro f
  induction f with
  | zero =>
    intro j k t a bad hj ht ha hk
    obtain ⟨k, rfl⟩ : ∃ m, k = m + 2 := ⟨k - 2, by omega⟩
    rw [hogsheadref5_Read.l0, if_neg (by omega), hogsheadref5_Read.j2, if_neg (by simp)]
    exact end_good b hb t (by omega) bad k (by omega)
  | succ f ih =>
    intro j k t a bad hj ht ha hk
    obtain ⟨k, rfl⟩ : ∃ m, k = m + 2 := ⟨k - 2, by omega⟩
    rw [hogsheadref5_Read.l0, if_pos (by omega), hogsheadref5_Read.j2]
    cases bad
    case true =>
      rw [if_neg (by simp)]
      exact end_good b hb t (by omega) true k (by omega)
    rw [if_pos (by rfl)]
    obtain ⟨s1, a1, b1, e1, h1⟩ := text_tot b hl a ha false k (by omega)
    rw [e1, some_bind]
    obtain ⟨v, a2, b2, e2, h2, _, _⟩ := rnum_tot b hl a1 h1 b1 k (by omega)
    show good5 b ((hogsheadref5_Reader_Num.f k b (a1 : Int) b1).bind _)
    rw [e2, some_bind]
    obtain ⟨s3, a3, b3, e3, h3⟩ := text_tot b hl a2 h2 b2 k (by omega)
    show good5 b ((hogsheadref5_Reader_Text.f k b (a2 : Int) b2).bind _)
    rw [e3, some_bind, if_pos (by omega), w_one j (by omega)]
    exact ih (j + 1) k _ a3 b3 (by omega) (by simp; omega) h3 (by omega)
theorem read_good (b : List Int) (hb : Bytes b) (hl : b.length ≤ 100000) (k : Nat) (hk : 10000 ≤ k) : good5 b (hogsheadref5_Read.f k b) := by
  obtain ⟨k, rfl⟩ : ∃ m, k = m + 1 := ⟨k - 1, by omega⟩
  unfold hogsheadref5_Read.f rd_make.f
  rw [some_bind]
  obtain ⟨s1, a1, b1, e1, h1⟩ := text_tot b hl 0 (by omega) false (k + 1) (by omega)
  show good5 b ((hogsheadref5_Reader_Text.f (k + 1) b ((0 : Nat) : Int) false).bind _)
  rw [e1, some_bind]
  obtain ⟨v, a2, b2, e2, h2, hv1, hv2⟩ := rnum_tot b hl a1 h1 b1 (k + 1) (by omega)
  show good5 b ((hogsheadref5_Reader_Num.f (k + 1) b (a1 : Int) b1).bind _)
  rw [e2, some_bind]
  show good5 b (if b2 = true then hogsheadref5_Read.j0 (k + 1) b v true b (a2 : Int) b2 else (if v < 0 then hogsheadref5_Read.j0 (k + 1) b v true b (a2 : Int) b2 else hogsheadref5_Read.j0 (k + 1) b v (decide (v > 400)) b (a2 : Int) b2))
  by_cases hb2 : b2 = true
  · rw [if_pos hb2, hogsheadref5_Read.j0, if_pos rfl]; exact .inl rfl
  rw [if_neg hb2]
  by_cases hv : v < 0
  · rw [if_pos hv, hogsheadref5_Read.j0, if_pos rfl]; exact .inl rfl
  rw [if_neg hv, hogsheadref5_Read.j0]
  by_cases h4 : v > 400
  · rw [decide_eq_true h4, if_pos rfl]; exact .inl rfl
  rw [decide_eq_false h4, if_neg (by simp)]
  obtain ⟨n, rfl⟩ := Int.eq_ofNat_of_zero_le (show 0 ≤ v by omega)
  exact loop_good b hb hl n (by omega) n 0 k [] a2 b2 (by omega) (by simp) h2 (by omega)
/-! ### a tree's bytes are read -/
theorem rnum_e (l rest : List Int) (hl : l.length ≤ 1000000) (a : Nat) (n : Int) (h0 : 0 ≤ n) (h1 : n < 4611686018427387904) (hd : l.drop a = enc8 n ++ rest) (hl2 : l.length ≤ 100000) (ha : a ≤ l.length) (k : Nat) (hk : 20 ≤ k) :
    hogsheadref5_Reader_Num.f k l (a : Int) false = some (n, l, ((a + 8 : Nat) : Int), false) ∧ a + 8 ≤ l.length ∧ l.drop (a + 8) = rest := by
  have hlen := congrArg List.length hd
  rw [List.length_drop, List.length_append, enc8_len] at hlen
  rw [rnum l hl2 a ha false k hk, if_neg (by simp; omega), hd, List.take_left' (enc8_len n), num64_enc8 n h0 h1, wrap_in (by omega) (by omega)]
  refine ⟨rfl, by omega, ?_⟩
  rw [← List.drop_drop, hd, List.drop_left' (enc8_len n)]
theorem take_e (l x rest : List Int) (a : Nat) (ha : a ≤ l.length) (hd : l.drop a = x ++ rest) :
    hogsheadref5_Reader_Take.f l (a : Int) false (x.length : Int) = some (strOfNums x, l, ((a + x.length : Nat) : Int), false) ∧ a + x.length ≤ l.length ∧ l.drop (a + x.length) = rest := by
  have hlen := congrArg List.length hd
  rw [List.length_drop, List.length_append] at hlen
  unfold hogsheadref5_Reader_Take.f
  rw [if_pos ⟨by omega, by omega⟩, if_neg (by simp; omega)]
  refine ⟨?_, by omega, by rw [← List.drop_drop, hd, List.drop_left]⟩
  have e : (l.take ((a : Int) + (x.length : Int)).toNat).drop (a : Int).toNat = x := by
    rw [show ((a : Int) + (x.length : Int)).toNat = a + x.length by omega, Int.toNat_natCast, List.drop_take, hd, show a + x.length - a = x.length by omega, List.take_left]
  rw [e]; rfl
theorem text_e (l rest : List Int) (hl : l.length ≤ 100000) (a : Nat) (ha : a ≤ l.length) (s : ByteArray) (hs : s.size ≤ 1000000) (hd : l.drop a = encT s ++ rest) (k : Nat) (hk : 20 ≤ k) :
    ∃ a' : Nat, hogsheadref5_Reader_Text.f k l (a : Int) false = some (s, l, (a' : Int), false) ∧ a' ≤ l.length ∧ l.drop a' = rest := by
  unfold encT at hd
  rw [List.append_assoc, List.append_assoc] at hd
  obtain ⟨e1, h1, d1⟩ := rnum_e l _ (by omega) a (s.size : Int) (by omega) (by omega) hd hl ha k hk
  obtain ⟨e2, h2, d2⟩ := take_e l (bytesOf s) _ (a + 8) h1 d1
  rw [bytesOf_length, strOfNums_bytesOf] at e2
  rw [bytesOf_length] at h2 d2
  unfold hogsheadref5_Reader_Text.f
  rw [e1, some_bind, e2, some_bind, if_neg (by simp)]
  have hp := padN_len s
  by_cases hm : Int.tmod (s.size : Int) 8 = 0
  · rw [if_pos hm]
    refine ⟨_, rfl, h2, ?_⟩
    rw [Int.tmod_eq_emod_of_nonneg (by omega)] at hm
    have : padN s = [] := List.eq_nil_of_length_eq_zero (by omega)
    rw [this] at d2
    exact d2
  · rw [if_neg hm]
    rw [Int.tmod_eq_emod_of_nonneg (by omega)] at hm ⊢
    obtain ⟨e3, h3, d3⟩ := take_e l (padN s) rest (a + 8 + s.size) h2 d2
    rw [show ((padN s).length : Int) = 8 - (s.size : Int) % 8 by omega] at e3
    rw [wrap_in (by omega) (by omega), e3, some_bind]
    exact ⟨_, rfl, h3, d3⟩
theorem loop_e (b : List Int) (hl : b.length ≤ 100000) (t : List Nd) (hm : mayT t = true) (he : enc t = b) : ∀ (f j k a : Nat), j + f = t.length → a ≤ b.length → b.drop a = (t.drop j).flatMap encN → 2 * f + 8010 < k →
    hogsheadref5_Read.l0 k b (t.length : Int) (t.take j) (j : Int) b (a : Int) false = some (t, 0) := by
  obtain ⟨g0, g1, g2⟩ := mayT_good hm
  intro f
  induction f with
  | zero =>
    intro j k a hj ha hd hk
    obtain ⟨k, rfl⟩ : ∃ m, k = m + 2 := ⟨k - 2, by omega⟩
    rw [hogsheadref5_Read.l0, if_neg (by omega), hogsheadref5_Read.j2, if_neg (by simp), List.take_of_length_le (by omega), refLay_f t (by omega) k (by omega), some_bind, if_pos hm, if_neg (by simp)]
    show (if (0 : Int) = 0 then (if (strOfNums (enc t)).toList = (strOfNums b).toList then _ else _) else _) = _
    rw [if_pos rfl, if_pos (by rw [he])]
  | succ f ih =>
    intro j k a hj ha hd hk
    obtain ⟨k, rfl⟩ : ∃ m, k = m + 2 := ⟨k - 2, by omega⟩
    have hjl : j < t.length := by omega
    obtain ⟨q1, q2, q3, q4⟩ := goodN_size (g2 _ (at_mem hjl))
    rw [← size_L] at q1 q2
    rw [List.drop_eq_getElem_cons hjl, List.flatMap_cons, ← at_lt t j hjl] at hd
    unfold encN at hd
    rw [List.append_assoc, List.append_assoc] at hd
    rw [hogsheadref5_Read.l0, if_pos (by omega), hogsheadref5_Read.j2, if_pos (by rfl)]
    obtain ⟨a1, e1, h1, d1⟩ := text_e b _ hl a ha (at_ t j).f0 (by omega) hd k (by omega)
    rw [e1, some_bind]
    obtain ⟨e2, h2, d2⟩ := rnum_e b _ (by omega) a1 (at_ t j).f1 (by omega) (by omega) d1 hl h1 k (by omega)
    show ((hogsheadref5_Reader_Num.f k b (a1 : Int) false).bind _) = _
    rw [e2, some_bind]
    obtain ⟨a3, e3, h3, d3⟩ := text_e b _ hl (a1 + 8) h2 (at_ t j).f2 (by omega) d2 k (by omega)
    show ((hogsheadref5_Reader_Text.f k b ((a1 + 8 : Nat) : Int) false).bind _) = _
    rw [e3, some_bind, if_pos (by rw [List.length_take]; omega), w_one j (by omega)]
    have ht : t.take (j + 1) = t.take j ++ [at_ t j] := by rw [at_lt t j hjl, List.take_add_one, List.getElem?_eq_getElem hjl]; rfl
    have := ih (j + 1) k a3 (by omega) h3 d3 (by omega)
    rw [ht] at this
    exact this
theorem read_e (b : List Int) (hl : b.length ≤ 100000) (t : List Nd) (hm : mayT t = true) (he : enc t = b) (k : Nat) (hk : 10000 ≤ k) : hogsheadref5_Read.f k b = some (t, 0) := by
  obtain ⟨k, rfl⟩ : ∃ m, k = m + 1 := ⟨k - 1, by omega⟩
  obtain ⟨g0, g1, g2⟩ := mayT_good hm
  unfold hogsheadref5_Read.f rd_make.f
  rw [some_bind]
  have hd : b.drop 0 = encT NarTh.mark ++ (enc8 (t.length : Int) ++ t.flatMap encN) := by rw [List.drop_zero, ← he]; rfl
  obtain ⟨a1, e1, h1, d1⟩ := text_e b _ hl 0 (by omega) NarTh.mark (by show (5 : Nat) ≤ _; omega) hd (k + 1) (by omega)
  show ((hogsheadref5_Reader_Text.f (k + 1) b ((0 : Nat) : Int) false).bind _) = _
  rw [e1, some_bind]
  obtain ⟨e2, h2, d2⟩ := rnum_e b _ (by omega) a1 (t.length : Int) (by omega) (by omega) d1 hl h1 (k + 1) (by omega)
  show ((hogsheadref5_Reader_Num.f (k + 1) b (a1 : Int) false).bind _) = _
  rw [e2, some_bind]
  show (if false = true then _ else (if (t.length : Int) < 0 then _ else hogsheadref5_Read.j0 (k + 1) b (t.length : Int) (decide ((t.length : Int) > 400)) b ((a1 + 8 : Nat) : Int) false)) = _
  rw [if_neg (by simp), if_neg (by omega), hogsheadref5_Read.j0, decide_eq_false (by omega), if_neg (by simp)]
  have := loop_e b hl t hm he t.length 0 k (a1 + 8) (by omega) h2 (by rw [List.drop_zero]; exact d2) (by omega)
  rw [List.take_zero] at this
  exact this
theorem refRead_f (b : List Int) (hb : Bytes b) (hl : b.length ≤ 100000) (k : Nat) (hk : 10000 ≤ k) : hogsheadref5_Read.f k b = some (read b) := by
  rcases read_cases b with ⟨t, e, hm, he⟩ | e
  · rw [e]; exact read_e b hl t hm he k hk
  · rw [e]
    rcases read_good b hb hl k hk with h | ⟨t, h, hm, he⟩
    · exact h
    · exfalso
      have := read_enc hm
      rw [he, e] at this
      injection this with _ this
      cases this
theorem overN_l0 : ∀ (f j k : Nat) (l : List Nd), l.length ≤ 1000000 → j + f = l.length → f < k → hogsheadlaw0_OverNodes.l0 k l (j : Int) = some () := by
  intro f
  induction f with
  | zero =>
    intro j k l hl hj hk
    obtain ⟨k, rfl⟩ : ∃ m, k = m + 1 := ⟨k - 1, by omega⟩
    rw [hogsheadlaw0_OverNodes.l0, if_neg (by omega), if_pos (by omega)]
  | succ f ih =>
    intro j k l hl hj hk
    obtain ⟨k, rfl⟩ : ∃ m, k = m + 1 := ⟨k - 1, by omega⟩
    rw [hogsheadlaw0_OverNodes.l0, if_pos (by omega), if_pos (by omega), w_one j (by omega), ih (j + 1) k _ (by rw [List.length_set]; omega) (by rw [List.length_set]; omega) (by omega)]
theorem overN_f (l : List Nd) (hl : l.length ≤ 1000000) (k : Nat) (hk : l.length < k) : hogsheadlaw0_OverNodes.f k l = some () := by
  unfold hogsheadlaw0_OverNodes.f
  exact overN_l0 l.length 0 k l hl (by omega) hk
theorem NarReads : hogsheadlaw5_NarReads.Pure := by
  intro b hl0 hl1 hw
  have hb : Bytes b := by
    intro x hx
    have := hw x hx
    have h2 : IntKind.u8.min ≤ x ∧ x ≤ IntKind.u8.max := by simpa [Lit.wf] using this
    exact ⟨h2.1, h2.2⟩
  refine ⟨800000, ?_⟩
  unfold hogsheadlaw5_NarReads.f
  by_cases h : (b.length : Int) > 6000
  · rw [if_pos h, awake_f _ (by omega), some_bind]
  rw [if_neg h]
  have hlen : (read b).1.length ≤ 1000 := by
    rcases read_cases b with ⟨t, e, hm, he⟩ | e
    · rw [e]; have := (mayT_good hm).2.1; show t.length ≤ _; omega
    · rw [e]; simp
  unfold hogsheadlaw0_LendBytes.f hogsheadlaw0_KeptBytes.f hogsheadlaw0_Num.f
  rw [if_pos (by omega), some_bind, read_f b (by omega) _ (by omega), some_bind, refRead_f b hb (by omega) _ (by omega), some_bind, sameN_f _ _ (by omega) _ (by omega), some_bind, if_pos (sameN_self _), some_bind, if_pos rfl, sameB_f b b (by omega) _ (by omega), some_bind, overN_f _ (by omega) _ (by omega), some_bind, if_pos (decide_eq_true rfl), some_bind, if_pos (decide_eq_true rfl), awake_f _ (by omega), some_bind]
end Go.Proofs.YtfklncdllfhgmaaDoor.Pure
