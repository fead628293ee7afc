/- The reference's table answers as the program's does: its pieces, its places, its Put and Get. -/
import Derived.Test.YthjfjkcjpkapgaaPx6
import Derived.Test.YthjfjkcjpkapgaaPx5
import Derived.Test.YthjfjkcjpkapgaaPx4
import Derived.Test.YthjfjkcjpkapgaaPx3
import Derived.Test.YthjfjkcjpkapgaaPx2
import Derived.Test.YthjfjkcjpkapgaaBs
namespace Go.Proofs.Ythjfjkcjpkapgaa.Duo
open Go.RowKit Go.Proofs.YthjfjkcjpkapgaaX Go.Proofs.YthjfjkcjpkapgaaW.PrintWords Go.Proofs.YthjfjkcjpkapgaaW.PrintLast Go.Proofs.YthjfjkcjpkapgaaW.PrintMore Go.Proofs.Ythjfjkcjpkapgaa.P Go.Proofs.Ythjfjkcjpkapgaa.Bs
set_option linter.unusedVariables false
set_option linter.unusedSimpArgs false
theorem cut_size : ∀ k (x : ByteArray) acc r, blocks_Cut.l0 k x acc = some r → acc.length ≤ r.length ∧ x.size ≤ 64 * (r.length - acc.length)
  | 0, x, acc, r, h => by rw [blocks_Cut.l0] at h; cases h
  | k + 1, x, acc, r, h => by
    rw [blocks_Cut.l0] at h
    by_cases h1 : (x.size : Int) > 64
    · rw [if_pos h1, if_pos (by omega), if_pos (by omega)] at h
      by_cases h2 : acc.length < 8796093022208
      · rw [if_pos h2] at h
        have ih := cut_size k _ _ r h
        rw [List.length_append, List.length_singleton, ByteArray.size_extract] at ih
        omega
      · rw [if_neg h2] at h; cases h
    · rw [if_neg h1] at h
      by_cases h2 : x.toList = []
      · rw [if_pos h2] at h
        cases h
        have : x.size = 0 := by rw [size_bytes, toList_nil.1 h2]; rfl
        omega
      · rw [if_neg h2] at h
        by_cases h3 : acc.length < 8796093022208
        · rw [if_pos h3] at h
          cases h
          rw [List.length_append, List.length_singleton]
          omega
        · rw [if_neg h3] at h; cases h
theorem drop_ex (s : ByteArray) (i : Nat) (hi : i ≤ s.size) : bytesOf (s.extract i s.size) = (bytesOf s).drop i := by
  rw [bytesOf_extract, List.take_of_length_le (by rw [bytesOf_length]; omega)]
theorem cut_at (s : ByteArray) (hs : s.size ≤ 1000000000) : ∀ k (i : Nat) acc r, i ≤ s.size → blocks_Cut.l0 k (s.extract i s.size) acc = some r → ∀ k', k + 1 ≤ k' → hogsheadref18_Cut.l0 k' s acc (i : Int) = some r
  | 0, i, acc, r, hi, h, k', hk => by rw [blocks_Cut.l0] at h; cases h
  | k + 1, i, acc, r, hi, h, k', hk => by
    obtain ⟨k', rfl⟩ : ∃ m, k' = m + 1 + 1 := ⟨k' - 2, by omega⟩
    have hz : (s.extract i s.size).size = s.size - i := by rw [ByteArray.size_extract]; omega
    have hw : wrap64 ((i : Int) + 64) = ((i + 64 : Nat) : Int) := by rw [wrap_in (by omega) (by omega)]; omega
    rw [blocks_Cut.l0] at h
    rw [hogsheadref18_Cut.l0, hw]
    clear hw
    by_cases h1 : ((s.extract i s.size).size : Int) > 64
    · rw [if_pos h1, if_pos (by omega), if_pos (by omega)] at h
      have hm : mn ((i + 64 : Nat) : Int) (s.size : Int) = ((i + 64 : Nat) : Int) := by unfold mn; rw [if_neg (by omega)]
      rw [hm]
      by_cases h2 : acc.length < 8796093022208
      · rw [if_pos h2] at h
        have e1 : (s.extract i s.size).extract 0 64 = s.extract i (i + 64) := bytesOf_inj (by
          rw [bytesOf_extract, drop_ex s i hi, bytesOf_extract, List.drop_zero, List.drop_take]
          congr 1
          omega)
        have e2 : (s.extract i s.size).extract 64 (s.extract i s.size).size = s.extract (i + 64) s.size := bytesOf_inj (by
          rw [drop_ex _ 64 (by omega), drop_ex s i hi, drop_ex s (i + 64) (by omega), List.drop_drop])
        rw [e1, e2] at h
        rw [if_pos (by omega), if_pos (by omega), if_pos (by omega), if_pos (by omega), if_pos h2]
        exact cut_at s hs k (i + 64) _ r (by omega) h (k' + 1) (by omega)
      · rw [if_neg h2] at h; cases h
    · rw [if_neg h1] at h
      have hm : mn ((i + 64 : Nat) : Int) (s.size : Int) = (s.size : Int) := by
        unfold mn
        by_cases hc : (s.size : Int) < ((i + 64 : Nat) : Int)
        · rw [if_pos hc]
        · rw [if_neg hc]; omega
      rw [hm]
      by_cases h2 : (s.extract i s.size).toList = []
      · rw [if_pos h2] at h
        have : (s.extract i s.size).size = 0 := by rw [size_bytes, toList_nil.1 h2]; rfl
        rw [if_neg (by omega), h]
      · rw [if_neg h2] at h
        have hne : (s.extract i s.size).size ≠ 0 := fun e => h2 (toList_nil.2 (List.eq_nil_of_length_eq_zero (by rw [bytesOf_length]; exact e)))
        by_cases h3 : acc.length < 8796093022208
        · rw [if_pos h3] at h
          rw [if_pos (by omega), if_pos (by omega), if_pos (by omega), if_pos (by omega), if_pos h3, Int.toNat_natCast, Int.toNat_natCast, hogsheadref18_Cut.l0, if_neg (by omega), h]
        · rw [if_neg h3] at h; cases h
theorem cut_ref {k : Nat} {s : ByteArray} {ps : List ByteArray} (h : blocks_Cut.f k s = some ps) (hp : ps.length ≤ 1000000) : hogsheadref18_Cut.f (k + 1) s = some ps := by
  rw [blocks_Cut.f] at h
  have hs := (cut_size k s [] ps h).2
  have e : s.extract 0 s.size = s := bytesOf_inj (by rw [drop_ex s 0 (by omega), List.drop_zero])
  rw [List.length_nil] at hs
  exact cut_at s (by omega) k 0 [] ps (by omega) (by rw [e]; exact h) (k + 1) (by omega)
theorem rdO (xs : List ByteArray) (i : Nat) (h : i < xs.length) : rdOf ByteArray.empty xs (i : Int) = xs[i] := by
  unfold rdOf
  rw [Int.toNat_natCast, List.getD_eq_getElem?_getD, List.getElem?_eq_getElem h]; rfl
theorem w1 {i : Nat} (h : i ≤ 1000000000) : wrap64 ((i : Int) + 1) = ((i + 1 : Nat) : Int) := by rw [wrap_in (by omega) (by omega)]; omega
def place (o : Option Nat) : Int := match o with
  | some i => (i : Int)
  | none => -1
theorem at_l0 (L : List ByteArray) (p : ByteArray) (hl : L.length ≤ 100000000) : ∀ d k (i : Nat), i + d = L.length → d < k → hogsheadref18_at.l0 k L p (i : Int) = some (match pos (L.drop i) p with | some j => ((i + j : Nat) : Int) | none => -1)
  | d, 0, i, _, hk => absurd hk (by omega)
  | 0, k + 1, i, hi, _ => by
    rw [hogsheadref18_at.l0, if_neg (by omega), List.drop_of_length_le (by omega)]; rfl
  | d + 1, k + 1, i, hi, hk => by
    have hd : L.drop i = L[i]'(by omega) :: L.drop (i + 1) := List.drop_eq_getElem_cons (by omega)
    rw [hogsheadref18_at.l0, if_pos (by omega), if_pos (by omega), rdO L i (by omega), hd, pos]
    by_cases h : L[i]'(by omega) = p
    · rw [if_pos (by rw [h]), if_pos h]; rfl
    · rw [if_neg (fun e => h (toList_inj.1 e)), if_neg h, w1 (by omega), at_l0 L p hl d k (i + 1) (by omega) (by omega)]
      cases pos (L.drop (i + 1)) p with
      | none => rfl
      | some j => simp only [Option.map_some]; rw [show i + 1 + j = i + (j + 1) by omega]
theorem at_f {L : List ByteArray} {p : ByteArray} (hl : L.length ≤ 100000000) {k : Nat} (hk : L.length < k) : hogsheadref18_at.f k L p = some (place (pos L p)) := by
  have h := at_l0 L p hl L.length k 0 (by omega) hk
  rw [List.drop_zero] at h
  rw [hogsheadref18_at.f]
  refine h.trans ?_
  cases pos L p with
  | none => rfl
  | some j => simp [place]
theorem put_l0 (L ps : List ByteArray) (hL : L.length ≤ 4000) (hp : ps.length ≤ 1000000) : ∀ d k (j : Nat) F out, j + d = ps.length → d + 2000000 < k → F.length ≤ j → out.length = j → hogsheadref18_Table_Put.l0 k (L ++ F) out ps (j : Int) = if 4000 < L.length + (putGo L F (ps.drop j)).2.length then some ([], 3, []) else some (out ++ (putGo L F (ps.drop j)).1, 0, L ++ (putGo L F (ps.drop j)).2)
  | d, 0, j, F, out, _, hk, _, _ => absurd hk (by omega)
  | 0, k + 1, j, F, out, hj, hk, hF, ho => by
    rw [hogsheadref18_Table_Put.l0, if_neg (by omega), List.drop_of_length_le (by omega), putGo]
    have hlen : (L ++ F).length = L.length + F.length := List.length_append
    by_cases h : 4000 < L.length + F.length
    · rw [if_pos (by omega), if_pos h]
    · rw [if_neg (by omega), if_neg h, List.append_nil]
  | d + 1, k + 1, j, F, out, hj, hk, hF, ho => by
    have hlen : (L ++ F).length = L.length + F.length := List.length_append
    have hd : ps.drop j = ps[j]'(by omega) :: ps.drop (j + 1) := List.drop_eq_getElem_cons (by omega)
    rw [hogsheadref18_Table_Put.l0, if_pos (by omega), if_pos (by omega), rdO ps j (by omega), hd, putGo, at_f (by omega) (by omega), Option.bind_some]
    generalize ps[j]'(by omega) = p
    cases h : pos (L ++ F) p with
    | some i =>
      rw [show place (some i) = (i : Int) from rfl, if_neg (by omega), Option.bind_some, if_pos (by omega), w1 (by omega), put_l0 L ps hL hp d k (j + 1) F (out ++ [(i : Int)]) (by omega) (by omega) (by omega) (by rw [List.length_append, List.length_singleton, ho]), List.append_assoc]
      rfl
    | none =>
      have hq : pos (L ++ F ++ [p]) p = some (L.length + F.length) := by rw [pos_snoc, h, if_pos rfl, hlen]
      rw [show place none = -1 from rfl, if_pos (by omega), if_pos (by omega), Option.bind_some, at_f (by rw [List.length_append, List.length_singleton]; omega) (by rw [List.length_append, List.length_singleton]; omega), Option.bind_some, hq, if_pos (by omega), w1 (by omega), List.append_assoc, put_l0 L ps hL hp d k (j + 1) (F ++ [p]) (out ++ [place (some (L.length + F.length))]) (by omega) (by omega) (by rw [List.length_append, List.length_singleton]; omega) (by rw [List.length_append, List.length_singleton, ho]), List.append_assoc out]
      rfl
/-- What the program's Put answers the reference's does. -/
theorem put_ref {k : Nat} {L : List ByteArray} {b : Bool} {s : ByteArray} {r1 : List Int} {r2 : Int} {r3 : List ByteArray} {r4 : Bool} (hL : L.length ≤ 4000) (h : blocks_Table_Put.f k L b s = some (r1, r2, r3, r4)) :
    (r2 = 0 ∧ hogsheadref18_Table_Put.f (k + 4000000) L s = some (r1, r2, r3)) ∨ (r2 = 3 ∧ r3 = L ∧ hogsheadref18_Table_Put.f (k + 4000000) L s = some (r1, r2, [])) := by
  rw [blocks_Table_Put.f] at h
  obtain ⟨ps, hc, h⟩ := Option.bind_eq_some_iff.mp h
  by_cases hl : ps.length ≤ 1000000 ∧ ∀ p ∈ ps, p.size ≤ maxLen
  · rw [if_pos hl] at h
    have hc2 : hogsheadref18_Cut.f (k + 4000000) s = some ps := at_rounds (g := fun k => hogsheadref18_Cut.f k s) (fun k => hogsheadref18_Cut.mono s k) (show k + 1 ≤ k + 4000000 by omega) (cut_ref hc hl.1)
    have hp := put_l0 L ps hL hl.1 ps.length (k + 4000000) 0 [] [] (by omega) (by omega) (by simp) rfl
    rw [List.append_nil, List.drop_zero, List.nil_append] at hp
    have hf : hogsheadref18_Table_Put.f (k + 4000000) L s = hogsheadref18_Table_Put.l0 (k + 4000000) L [] ps ((0 : Nat) : Int) := by
      rw [hogsheadref18_Table_Put.f, if_pos (by rw [List.length_nil]; omega), hc2, Option.bind_some, List.nil_append]; rfl
    rw [hp] at hf
    unfold putOf at h
    by_cases hg : 4000 < L.length + (putGo L [] ps).2.length
    · rw [if_pos hg] at h hf
      simp only [Option.some.injEq, Prod.mk.injEq] at h
      obtain ⟨rfl, rfl, rfl, rfl⟩ := h
      exact .inr ⟨rfl, rfl, hf⟩
    · rw [if_neg hg] at h hf
      simp only [Option.some.injEq, Prod.mk.injEq] at h
      obtain ⟨rfl, rfl, rfl, rfl⟩ := h
      exact .inl ⟨rfl, hf⟩
  · rw [if_neg hl] at h
    cases h
theorem get_l0 (L : List ByteArray) (b : Bool) (ids : List Int) : ∀ k out (x : Int) r, blocks_Table_Get.l0 k out ids (ids.length : Int) x L b = some r → hogsheadref18_Table_Get.l0 k L ids out x = some (r.1, r.2.1) ∧ r.2.2 = (L, b)
  | 0, out, x, r, h => by rw [blocks_Table_Get.l0] at h; cases h
  | k + 1, out, x, r, h => by
    rw [blocks_Table_Get.l0] at h
    rw [hogsheadref18_Table_Get.l0]
    by_cases h1 : x < (ids.length : Int)
    · rw [if_pos h1] at h ⊢
      by_cases h2 : 0 ≤ x
      · rw [if_pos h2, if_pos h1] at h
        rw [if_pos h2]
        by_cases h3 : rd ids x < 0
        · rw [if_pos h3] at h ⊢
          cases h
          exact ⟨rfl, rfl⟩
        · rw [if_neg h3] at h ⊢
          by_cases h4 : rd ids x ≥ (L.length : Int)
          · rw [if_pos h4] at h ⊢
            cases h
            exact ⟨rfl, rfl⟩
          · rw [if_neg h4, if_pos (by omega), if_pos (by omega)] at h
            rw [if_neg h4, if_pos (by omega), if_pos (by omega)]
            by_cases h5 : out.length + (rdOf ByteArray.empty L (rd ids x)).size < 140737488355328
            · rw [if_pos h5] at h ⊢
              exact get_l0 L b ids k _ _ r h
            · rw [if_neg h5] at h; cases h
      · rw [if_neg h2] at h; cases h
    · rw [if_neg h1] at h ⊢
      cases h
      exact ⟨rfl, rfl⟩
theorem get_ref {k : Nat} {L : List ByteArray} {b : Bool} {ids : List Int} {r1 : ByteArray} {r2 : Bool} {r3 : List ByteArray} {r4 : Bool} (h : blocks_Table_Get.f k L b ids = some (r1, r2, r3, r4)) : hogsheadref18_Table_Get.f k L ids = some (r1, r2) ∧ r3 = L ∧ r4 = b := by
  have h1 := get_l0 L b ids k [] 0 _ h
  simp only [Prod.mk.injEq] at h1
  exact ⟨h1.1, h1.2.1, h1.2.2⟩
end Go.Proofs.Ythjfjkcjpkapgaa.Duo
