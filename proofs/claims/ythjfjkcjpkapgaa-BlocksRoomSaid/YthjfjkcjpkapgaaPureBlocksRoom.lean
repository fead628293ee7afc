/- For every number: 4000 unlike blocks find room, one more does not, one of them does. No condition. -/
import Derived.Test.YthjfjkcjpkapgaaTabTh
namespace Go.Proofs.Ythjfjkcjpkapgaa.Pure
open Go.RowKit Go.Proofs.YthjfjkcjpkapgaaX Go.Proofs.YthjfjkcjpkapgaaW.PrintWords Go.Proofs.YthjfjkcjpkapgaaW.PrintLast Go.Proofs.YthjfjkcjpkapgaaW.PrintMore Go.Proofs.Ythjfjkcjpkapgaa.P Go.Proofs.Ythjfjkcjpkapgaa.Bs Go.Proofs.Ythjfjkcjpkapgaa.Tab
set_option linter.unusedVariables false
set_option linter.unusedSimpArgs false
def blk (i : Int) : ByteArray := strOfNums [i % 256, (i / 256) % 256, 120]
theorem blk_bytes (i : Int) : bytesOf (blk i) = [i % 256, (i / 256) % 256, 120] := bytesOf_strOfNums (fun x hx => by
  simp only [List.mem_cons, List.not_mem_nil, or_false] at hx
  rcases hx with rfl | rfl | rfl <;> omega)
theorem blk_size (i : Int) : (blk i).size = 3 := by rw [size_bytes, blk_bytes]; rfl
theorem blk_inj {i j : Int} (h0 : 0 ≤ i) (h1 : i < 4000) (h2 : 0 ≤ j) (h3 : j < 4000) (h : blk i = blk j) : i = j := by
  have e := congrArg bytesOf h
  rw [blk_bytes, blk_bytes] at e
  simp only [List.cons.injEq, and_true] at e
  omega
theorem cut_blk {s : ByteArray} (h : s.size = 3) : cutL s = [s] := by rw [cutL_step, if_neg (by omega), if_neg (by omega)]
def LL (n : Nat) : List ByteArray := (List.range n).map (fun i : Nat => blk (i : Int))
theorem LL_len (n : Nat) : (LL n).length = n := by simp [LL]
theorem LL_at {n i : Nat} (h : i < (LL n).length) : (LL n)[i] = blk (i : Int) := by simp [LL]
theorem LL_succ (n : Nat) : LL (n + 1) = LL n ++ [blk (n : Int)] := by simp [LL, List.range_succ]
theorem LL_nodup (n : Nat) (hn : n ≤ 4000) : (LL n).Nodup := by
  refine List.pairwise_iff_getElem.2 (fun i j hi hj hij e => ?_)
  rw [LL_at, LL_at] at e
  rw [LL_len] at hi hj
  have := blk_inj (by omega) (by omega) (by omega) (by omega) e
  omega
theorem LL_pos {n i : Nat} (hn : n ≤ 4000) (hi : i < n) : pos (LL n) (blk (i : Int)) = some i := by
  have h := pos_of (LL_nodup n hn) (i := i) (by rw [LL_len]; exact hi)
  rwa [LL_at] at h
theorem LL_none {n : Nat} {p : ByteArray} (h : ∀ i : Nat, i < n → blk (i : Int) ≠ p) : pos (LL n) p = none := by
  refine pos_none.2 (fun hm => ?_)
  obtain ⟨i, hi, e⟩ := List.mem_iff_getElem.1 hm
  rw [LL_at] at e
  rw [LL_len] at hi
  exact h i hi e
theorem put_old {L : List ByteArray} {p : ByteArray} {i : Nat} (hp : pos L p = some i) (hl : L.length ≤ 4000) : putOf L [p] = ([(i : Int)], 0, L) := by
  have e : putGo L [] [p] = ([(i : Int)], []) := by rw [putGo, List.append_nil, hp]; rfl
  unfold putOf
  rw [e, if_neg (by simp; omega), List.append_nil]
theorem put_new {L : List ByteArray} {p : ByteArray} (hp : pos L p = none) : putOf L [p] = if 4000 < L.length + 1 then ([], 3, L) else ([(L.length : Int)], 0, L ++ [p]) := by
  have e : putGo L [] [p] = ([(L.length : Int)], [p]) := by rw [putGo, List.append_nil, hp]; rfl
  unfold putOf
  rw [e]; rfl
theorem low_f (x : Int) : ∃ i : Nat, i < 4000 ∧ hogsheadlaw0_Low.f x 4000 = some (i : Int) := by
  unfold hogsheadlaw0_Low.f
  rw [low_expr x 4000 (by omega) (by omega)]
  have h := low_range x 4000 (by omega)
  exact ⟨((x % 18446744073709551616) % 4000).toNat, by omega, by rw [Int.toNat_of_nonneg h.1]⟩
theorem new_none : pos (LL 4000) (⟨#[110, 101, 119]⟩ : ByteArray) = none := LL_none (fun i _ e => by
  have e1 := congrArg bytesOf e
  rw [blk_bytes, bytesOf_lit] at e1
  simp at e1)
theorem go (x : Int) : ∀ (d k i : Nat), i + d = 4000 → 2 * d + 20 ≤ k → hogsheadlaw18_BlocksRoom.l0 k x (i : Int) (LL i) false = some true
  | 0, k, i, hi, hk => by
    obtain rfl : i = 4000 := by omega
    obtain ⟨k, rfl⟩ : ∃ m, k = m + 1 := ⟨k - 1, by omega⟩
    rw [hogsheadlaw18_BlocksRoom.l0, if_neg (by omega)]
    obtain ⟨q, hq, hl⟩ := low_f x
    have h1 : putOf (LL 4000) [(⟨#[110, 101, 119]⟩ : ByteArray)] = ([], 3, LL 4000) := by rw [put_new new_none, LL_len, if_pos (by omega)]
    have h2 : putOf (LL 4000) [blk (q : Int)] = ([(q : Int)], 0, LL 4000) := put_old (LL_pos (by omega) hq) (by rw [LL_len]; omega)
    have h3 : (LL 4000).length = 4000 := LL_len 4000
    have h4 : strOfNums [(q : Int) % 256, ((q : Int) / 256) % 256, 120] = blk (q : Int) := rfl
    generalize LL 4000 = L at h1 h2 h3 ⊢
    rw [hl, some_bind, put_f (by show 3 / 64 < k; omega) (by show 3 ≤ 1000000; omega), some_bind, cut_blk (by rfl), h1]
    dsimp only
    rw [h4, put_f (by rw [blk_size]; omega) (by rw [blk_size]; omega), some_bind, cut_blk (blk_size _), h2]
    dsimp only
    rw [if_pos rfl, if_pos (by rfl), if_pos rfl, ints_f (by simp) (by simp; omega), some_bind, if_pos (by simp), blocks_Table_Len.f, some_bind, h3]
    dsimp only
    rw [if_pos (by rfl), awake_f (by omega), some_bind]
  | d + 1, k, i, hi, hk => by
    obtain ⟨k, rfl⟩ : ∃ m, k = m + 1 + 1 := ⟨k - 2, by omega⟩
    rw [hogsheadlaw18_BlocksRoom.l0, if_pos (by omega)]
    have hp : pos (LL i) (blk (i : Int)) = none := LL_none (fun j hj e => by
      have := blk_inj (by omega) (by omega) (by omega) (by omega) e
      omega)
    have h1 : putOf (LL i) [blk (i : Int)] = ([(i : Int)], 0, LL (i + 1)) := by rw [put_new hp, LL_len, if_neg (by omega), LL_succ]
    have h4 : strOfNums [(i : Int) % 256, ((i : Int) / 256) % 256, 120] = blk (i : Int) := rfl
    rw [h4, put_f (by rw [blk_size]; omega) (by rw [blk_size]; omega), some_bind, cut_blk (blk_size _), h1]
    dsimp only
    rw [if_pos rfl, if_pos (by rfl), if_pos (by simp)]
    rw [hogsheadlaw18_BlocksRoom.j1, if_neg (by simp [rd]), w_1 (by omega)]
    exact go x d k (i + 1) (by omega) (by omega)
theorem BlocksRoom : hogsheadlaw18_BlocksRoom.Pure := by
  intro a0 _
  refine ⟨8020, ?_⟩
  rw [hogsheadlaw18_BlocksRoom.f]
  show (Option.bind (some (([] : List ByteArray), false)) _) = _
  rw [some_bind]
  exact go a0 4000 8020 0 (by omega) (by omega)
end Go.Proofs.Ythjfjkcjpkapgaa.Pure
