/- The plain law behind TreeRoom: the tree of up to 409 nodes, each node shown once. -/
import Derived.Test.YtpnfhnkjlcjdoaaDoorPx
import Derived.Test.YtpnfhnkjlcjdoaaDoorBs
namespace Go.Proofs.YtpnfhnkjlcjdoaaDoor.Pure
open Go.RowKit Go.Proofs.YtpnfhnkjlcjdoaaDoorX Go.Proofs.YtpnfhnkjlcjdoaaDoorW.PrintWords Go.Proofs.YtpnfhnkjlcjdoaaDoorW.PrintLast Go.Proofs.YtpnfhnkjlcjdoaaDoorW.PrintMore Go.Proofs.YtpnfhnkjlcjdoaaDoor.P Go.Proofs.YtpnfhnkjlcjdoaaDoor.Bs
set_option linter.unusedVariables false
set_option linter.unusedSimpArgs false
abbrev dg : ByteArray := ⟨#[48, 49, 50, 51, 52, 53, 54, 55, 56, 57]⟩
abbrev d1 (x : Int) : ByteArray := dg.extract ((wrap64 (Int.tdiv x 100)) : Int).toNat ((wrap64 ((wrap64 (Int.tdiv x 100)) + 1)) : Int).toNat
abbrev d2 (x : Int) : ByteArray := dg.extract ((Int.tmod (wrap64 (Int.tdiv x 10)) 10) : Int).toNat ((wrap64 ((Int.tmod (wrap64 (Int.tdiv x 10)) 10) + 1)) : Int).toNat
abbrev d3 (x : Int) : ByteArray := dg.extract ((Int.tmod x 10) : Int).toNat ((wrap64 ((Int.tmod x 10) + 1)) : Int).toNat
def nd (x : Int) : S24 := ⟨(d1 x ++ d2 x) ++ d3 x, 2, (⟨#[]⟩ : ByteArray)⟩
def conds (x : Int) : Bool := decide (0 ≤ wrap64 (Int.tdiv x 100)) && decide (wrap64 (Int.tdiv x 100) ≤ wrap64 ((wrap64 (Int.tdiv x 100)) + 1)) && decide (wrap64 ((wrap64 (Int.tdiv x 100)) + 1) ≤ 10) && decide (0 ≤ Int.tmod (wrap64 (Int.tdiv x 10)) 10) && decide (Int.tmod (wrap64 (Int.tdiv x 10)) 10 ≤ wrap64 ((Int.tmod (wrap64 (Int.tdiv x 10)) 10) + 1)) && decide (wrap64 ((Int.tmod (wrap64 (Int.tdiv x 10)) 10) + 1) ≤ 10) && decide ((d1 x).size + (d2 x).size ≤ 9223372036854775807) && decide (0 ≤ Int.tmod x 10) && decide (Int.tmod x 10 ≤ wrap64 ((Int.tmod x 10) + 1)) && decide (wrap64 ((Int.tmod x 10) + 1) ≤ 10) && decide ((d1 x ++ d2 x).size + (d3 x).size ≤ 9223372036854775807)
set_option maxRecDepth 100000 in
theorem conds_all : ∀ i : Nat, i < 410 → conds (i : Int) = true := by decide +kernel
def TT : List S24 := (⟨(⟨#[]⟩ : ByteArray), 1, (⟨#[]⟩ : ByteArray)⟩ : S24) :: (List.range 408).map (fun i => nd ((i + 1 : Nat) : Int))
def stepOk (j : Nat) : Bool := decide (tree_Good.f 300 (rd_T24 TT (j : Int)).f0 (rd_T24 TT (j : Int)).f1 (rd_T24 TT (j : Int)).f2 = some true) && decide (tree_follows.f 300 (rd_T24 TT (j : Int)).f0 (TT.take j) = some true) && decide ((rd_T24 TT (j : Int)).f0.size ≤ 1000)
set_option maxRecDepth 1000000 in
theorem step_all : ∀ j : Nat, j < 400 → stepOk j = true := by decide +kernel
theorem TT_len : TT.length = 409 := by simp [TT]
theorem TT_next (n : Nat) (hn : n < 408) : TT.take (n + 2) = TT.take (n + 1) ++ [nd ((n + 1 : Nat) : Int)] := by
  rw [List.take_add_one (i := n + 1)]
  have : TT[n + 1]? = some (nd ((n + 1 : Nat) : Int)) := by simp [TT, List.getElem?_range hn]
  rw [this]; rfl
theorem rd_take (n j : Nat) (hj : j < n) (hn : n ≤ 409) : rd_T24 (TT.take n) (j : Int) = rd_T24 TT (j : Int) := by
  unfold rd_T24
  rw [Int.toNat_natCast, List.getD_eq_getElem?_getD, List.getD_eq_getElem?_getD, List.getElem?_take_of_lt hj]
theorem bad_go (n k : Nat) (hn : n ≤ 409) (hk : 300 ≤ k) : ∀ f j, j + f = n → j ≤ 400 → tree_Bad.go k (TT.take n) f j = some (if 400 < n then 400 else -1) := by
  intro f
  induction f with
  | zero =>
    intro j hj h4
    rw [tree_Bad.go, if_neg (by omega)]
  | succ f ih =>
    intro j hj h4
    rw [tree_Bad.go]
    by_cases h : 400 ≤ j
    · obtain rfl : j = 400 := by omega
      rw [if_pos h, if_pos (by omega)]; rfl
    · have hs := step_all j (by omega)
      unfold stepOk at hs
      simp only [Bool.and_eq_true, decide_eq_true_eq] at hs
      obtain ⟨⟨h1, h2⟩, h3⟩ := hs
      rw [if_neg h, rd_take n j (by omega) hn, List.take_take, Nat.min_eq_left (by omega)]
      rw [at_rounds (g := fun k => tree_Good.f k (rd_T24 TT (j : Int)).f0 (rd_T24 TT (j : Int)).f1 (rd_T24 TT (j : Int)).f2) (fun k => tree_Good.mono _ _ _ k) hk h1, some_bind, if_pos rfl,
        at_rounds (g := fun k => tree_follows.f k (rd_T24 TT (j : Int)).f0 (TT.take j)) (fun k => tree_follows.mono _ _ k) hk h2, some_bind, if_pos rfl, if_pos (show (rd_T24 TT (j : Int)).f0.size ≤ maxLen by unfold maxLen; omega)]
      exact ih (j + 1) (by omega) (by omega)
theorem bad_f (n k : Nat) (h1 : 1 ≤ n) (hn : n ≤ 409) (hk : 300 ≤ k) : tree_Bad.f k (TT.take n) = some (if 400 < n then 400 else -1) := by
  have hl : (TT.take n).length = n := by rw [List.length_take, TT_len]; omega
  unfold tree_Bad.f
  rw [hl, if_neg (by omega), if_pos (by omega)]
  exact bad_go n k hn hk n 0 (by omega) (by omega)
theorem awake_300 : hogsheadlaw2_awake.f 300 = some true := by decide +kernel
theorem awake_f (k : Nat) (hk : 300 ≤ k) : hogsheadlaw2_awake.f k = some true := at_rounds (g := fun k => hogsheadlaw2_awake.f k) hogsheadlaw2_awake.mono hk awake_300
theorem room_end (x0 x4 : Int) (n k : Nat) (h1 : 1 ≤ n) (hn : n ≤ 409) (hk : 301 ≤ k) (hx : ¬ x4 < x0) : hogsheadlaw2_TreeRoom.l0 k x0 (TT.take n) x4 = some true := by
  obtain ⟨k, rfl⟩ : ∃ m, k = m + 1 := ⟨k - 1, by omega⟩
  have hl : (TT.take n).length = n := by rw [List.length_take, TT_len]; omega
  rw [hogsheadlaw2_TreeRoom.l0, if_neg hx, hl, bad_f n k h1 hn (by omega), some_bind, some_bind, awake_f k (by omega), some_bind]
  by_cases h : 400 < n
  · rw [if_pos (by omega), if_pos (by rw [if_pos h])]
  · rw [if_neg (by omega), if_pos (by rw [if_neg h])]
theorem w_two (n : Nat) (h : n ≤ 1000) : wrap64 (((n + 1 : Nat) : Int) + 1) = ((n + 2 : Nat) : Int) := by rw [wrap_in (by omega) (by omega)]; omega
theorem room_l0 (m : Nat) (hm : m ≤ 409) : ∀ (f i k : Nat), i + f = m → 1 ≤ i → f + 301 ≤ k → hogsheadlaw2_TreeRoom.l0 k (m : Int) (TT.take i) (i : Int) = some true := by
  intro f
  induction f with
  | zero => intro i k hi h1 hk; exact room_end _ _ i k h1 (by omega) (by omega) (by omega)
  | succ f ih =>
    intro i k hi h1 hk
    obtain ⟨k, rfl⟩ : ∃ m, k = m + 1 := ⟨k - 1, by omega⟩
    obtain ⟨n, rfl⟩ : ∃ n, i = n + 1 := ⟨i - 1, by omega⟩
    have hi' : (((n + 1 : Nat) : Int) < (m : Int)) := by omega
    have hl : (TT.take (n + 1)).length < 3518437208883 := by rw [List.length_take, TT_len]; omega
    have hh := ih (n + 2) k (by omega) (by omega) (by omega)
    have hw := w_two n (by omega)
    rw [TT_next n (by omega)] at hh
    have hc := conds_all (n + 1) (by omega)
    unfold conds at hc
    simp only [Bool.and_eq_true, decide_eq_true_eq] at hc
    obtain ⟨⟨⟨⟨⟨⟨⟨⟨⟨⟨c1, c2⟩, c3⟩, c4⟩, c5⟩, c6⟩, c7⟩, c8⟩, c9⟩, c10⟩, c11⟩ := hc
    rw [hogsheadlaw2_TreeRoom.l0, if_pos hi', if_pos c1, if_pos c2, if_pos c3, if_pos c4, if_pos c5, if_pos c6, if_pos c7, if_pos c8, if_pos c9, if_pos c10, if_pos c11, if_pos hl, hw]
    exact hh
theorem TreeRoom : hogsheadlaw2_TreeRoom.Pure := by
  intro a _
  refine ⟨1000, ?_⟩
  obtain ⟨h0, h1⟩ := low_range a 410 (by omega)
  unfold hogsheadlaw2_TreeRoom.f hogsheadlaw0_Low.f
  rw [low_expr a 410 (by omega) (by omega), some_bind]
  obtain ⟨m, hm⟩ := Int.eq_ofNat_of_zero_le h0
  rw [hm] at h1 ⊢
  have ht : TT.take 1 = [(⟨(⟨#[]⟩ : ByteArray), 1, (⟨#[]⟩ : ByteArray)⟩ : S24)] := rfl
  rw [← ht]
  by_cases h : 1 ≤ m
  · exact room_l0 m (by omega) (m - 1) 1 1000 (by omega) (by omega) (by omega)
  · exact room_end _ 1 1 1000 (by omega) (by omega) (by omega) (by omega)
end Go.Proofs.YtpnfhnkjlcjdoaaDoor.Pure
