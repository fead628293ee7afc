/- A stable sort of nodes that stand in order already changes nothing: insertion by blocks, and the merging of these, as the print has them. -/
import Derived.Test.YtfncpcmpapakjaaDoorTreeTh
namespace Go.Proofs.YtfncpcmpapakjaaDoor.SortTh
open Go.RowKit Go.Proofs.YtfncpcmpapakjaaDoorX Go.Proofs.YtfncpcmpapakjaaDoorW.PrintWords Go.Proofs.YtfncpcmpapakjaaDoorW.PrintLast Go.Proofs.YtfncpcmpapakjaaDoorW.PrintMore Go.Proofs.YtfncpcmpapakjaaDoor.P Go.Proofs.YtfncpcmpapakjaaDoor.Pa Go.Proofs.YtfncpcmpapakjaaDoor.PaTh Go.Proofs.YtfncpcmpapakjaaDoor.TreeTh
set_option linter.unusedVariables false
set_option linter.unusedSimpArgs false
/-- Strictly in order. -/
def up (t : List Nd) : Prop := ∀ i j, i < j → j < t.length → Op.bytesLess (L (at_ t i).f0) (L (at_ t j).f0) = true
theorem less_not {a b : List UInt8} (h : Op.bytesLess a b = true) : Op.bytesLess b a = false := by
  have := less_tri a b
  rw [h] at this
  rw [← this]
  rfl
theorem less_irr (a : List UInt8) : Op.bytesLess a a = false := by
  rw [← less_tri a a]; simp
theorem order_f (a b : Nd) : tree_order.f a.f0 a.f1 a.f2 b.f0 b.f1 b.f2 = some (if Op.bytesLess (L a.f0) (L b.f0) = true then -1 else if Op.bytesLess (L b.f0) (L a.f0) = true then 1 else 0) := by
  unfold tree_order.f cmp_Compare_string.f cmp_isNaN_string.f
  rw [bne_self_eq_false, bne_self_eq_false, some_bind, some_bind, if_neg (by simp), if_neg (by simp), toL, toL]
  by_cases h : Op.bytesLess (L a.f0) (L b.f0) = true
  · rw [if_pos h, if_pos h]; rfl
  rw [if_neg h, if_neg h]
  by_cases h2 : Op.bytesLess (L b.f0) (L a.f0) = true
  · rw [if_pos h2, if_pos h2]; rfl
  · rw [if_neg h2, if_neg h2]; rfl
theorem ord_ge {t : List Nd} (hu : up t) (x y : Int) (h0 : 0 ≤ y) (h1 : y ≤ x) (h2 : x < (t.length : Int)) :
    ∃ r, tree_order.f (rd_T32 t x).f0 (rd_T32 t x).f1 (rd_T32 t x).f2 (rd_T32 t y).f0 (rd_T32 t y).f1 (rd_T32 t y).f2 = some r ∧ ¬ r < 0 := by
  obtain ⟨i, rfl⟩ : ∃ i : Nat, x = (i : Int) := ⟨x.toNat, by omega⟩
  obtain ⟨j, rfl⟩ : ∃ j : Nat, y = (j : Int) := ⟨y.toNat, by omega⟩
  rw [rdN, rdN]
  refine ⟨_, order_f _ _, ?_⟩
  have hn : Op.bytesLess (L (at_ t i).f0) (L (at_ t j).f0) = false := by
    by_cases e : i = j
    · subst e; exact less_irr _
    · exact less_not (hu j i (by omega) (by omega))
  rw [if_neg (by rw [hn]; simp)]
  split <;> omega
theorem mid_ {x y : Int} (h0 : 0 ≤ x) (h1 : 0 ≤ y) (hx : x ≤ 1000000) (hy : y ≤ 1000000) : wrap64 ((IntKind.u64.wrap (wrap64 (x + y))) / 2) = (x + y) / 2 := by
  rw [wrap_in (a := x + y) (by omega) (by omega), show IntKind.u64.wrap (x + y) = x + y by show (x + y) % 18446744073709551616 = x + y; exact Int.emod_eq_of_lt (by omega) (by omega)]
  exact wrap_in (by omega) (by omega)
section
variable {t : List Nd} (hu : up t) (hl : t.length ≤ 1000000)
include hu hl
theorem ins_ : ∀ (f k : Nat) (a b i : Int), 0 ≤ a → a < i → b ≤ t.length → i ≤ b + 1 → b - i ≤ f → 2 * f + 2 ≤ k → api_Node_47.l0 k t a b i = some t := by
  intro f
  induction f with
  | zero =>
    intro k a b i h0 h1 h2 hi h3 h4
    obtain ⟨k, rfl⟩ : ∃ m, k = m + 1 := ⟨k - 1, by omega⟩
    rw [api_Node_47.l0, if_neg (by omega)]
  | succ f ih =>
    intro k a b i h0 h1 h2 hi h3 h4
    obtain ⟨k, rfl⟩ : ∃ m, k = m + 2 := ⟨k - 2, by omega⟩
    rw [api_Node_47.l0]
    by_cases h : i < b
    · obtain ⟨r, hr, hr0⟩ := ord_ge hu i (i - 1) (by omega) (by omega) (by omega)
      rw [if_pos h, api_Node_47.l1, if_pos (by omega), if_pos (by omega), if_pos (by omega), show wrap64 (i - 1) = i - 1 from wrap_in (by omega) (by omega), if_pos (by omega), if_pos (by omega), hr, some_bind, if_neg hr0,
        show wrap64 (i + 1) = i + 1 from wrap_in (by omega) (by omega)]
      exact ih k a b (i + 1) h0 (by omega) h2 (by omega) (by omega) (by omega)
    · rw [if_neg h]
theorem insert_ (k : Nat) (a b : Int) (z : Bool) (h0 : 0 ≤ a) (h1 : a ≤ b) (h2 : b ≤ t.length) (hk : 2 * (b - a).toNat + 2 ≤ k) : api_Node_47.f k t a b z = some t := by
  unfold api_Node_47.f
  rw [show wrap64 (a + 1) = a + 1 from wrap_in (by omega) (by omega)]
  exact ins_ hu hl (b - a).toNat k a b (a + 1) h0 (by omega) h2 (by omega) (by omega) hk
theorem sm0_ : ∀ (f k : Nat) (a j : Int), 0 ≤ a → a + 1 ≤ j → j ≤ t.length → j - (a + 1) ≤ f → f + 2 ≤ k → api_Node_48.l0 k t a (a + 1) j = some t := by
  intro f
  induction f with
  | zero =>
    intro k a j h0 h1 h2 h3 h4
    obtain ⟨k, rfl⟩ : ∃ m, k = m + 2 := ⟨k - 2, by omega⟩
    rw [api_Node_48.l0, if_neg (by omega), api_Node_48.l1, show wrap64 (a + 1 - 1) = a + 1 - 1 from wrap_in (by omega) (by omega), if_neg (by omega)]
  | succ f ih =>
    intro k a j h0 h1 h2 h3 h4
    obtain ⟨k, rfl⟩ : ∃ m, k = m + 2 := ⟨k - 2, by omega⟩
    rw [api_Node_48.l0]
    by_cases h : a + 1 < j
    · obtain ⟨r, hr, hr0⟩ := ord_ge hu ((a + 1 + j) / 2) a (by omega) (by omega) (by omega)
      rw [if_pos h, mid_ (by omega) (by omega) (by omega) (by omega), if_pos (by omega), if_pos (by omega), if_pos (by omega), if_pos (by omega), hr, some_bind, if_neg hr0]
      exact ih (k + 1) a _ h0 (by omega) (by omega) (by omega) (by omega)
    · rw [if_neg h, api_Node_48.l1, show wrap64 (a + 1 - 1) = a + 1 - 1 from wrap_in (by omega) (by omega), if_neg (by omega)]
theorem sm2_ : ∀ (f k : Nat) (m i : Int), 0 ≤ i → i ≤ m → m < t.length → m - i ≤ f → f + 2 ≤ k → api_Node_48.l2 k t m i m = some t := by
  intro f
  induction f with
  | zero =>
    intro k m i h0 h1 h2 h3 h4
    obtain ⟨k, rfl⟩ : ∃ m, k = m + 2 := ⟨k - 2, by omega⟩
    rw [api_Node_48.l2, if_neg (by omega), api_Node_48.l3, if_neg (by omega)]
  | succ f ih =>
    intro k m i h0 h1 h2 h3 h4
    obtain ⟨k, rfl⟩ : ∃ m, k = m + 2 := ⟨k - 2, by omega⟩
    rw [api_Node_48.l2]
    by_cases h : i < m
    · obtain ⟨r, hr, hr0⟩ := ord_ge hu m ((i + m) / 2) (by omega) (by omega) (by omega)
      rw [if_pos h, mid_ (by omega) (by omega) (by omega) (by omega), if_pos (by omega), if_pos (by omega), if_pos (by omega), if_pos (by omega), hr, some_bind, if_neg hr0, show wrap64 ((i + m) / 2 + 1) = (i + m) / 2 + 1 from wrap_in (by omega) (by omega)]
      exact ih (k + 1) m _ (by omega) (by omega) (by omega) (by omega) (by omega)
    · rw [if_neg h, api_Node_48.l3, if_neg (by omega)]
/-- The search for where two blocks that are in order part: it goes to its end. -/
theorem sm4_ (a m b mid n p r : Int) (z : Bool) (hn : n = mid + m) (hp : p = n - 1) (hr : r = mid ∧ mid ≤ m ∨ r = m ∧ m ≤ mid) (hm0 : 0 ≤ mid) (hm1 : 0 ≤ m) (hmid : mid < t.length) (hm : m < t.length) (hpl : ∀ c, 0 ≤ c → p - c < (t.length : Int) ∨ c < p - (t.length : Int) + 1) (K : Nat) :
    ∀ (f k : Nat) (s : Int), 0 ≤ s → s ≤ r → p - s < t.length → r - s ≤ f → K + f + 1 ≤ k → (∀ k', K ≤ k' → api_Node_48.j6 k' t a m b z mid r (n - r) false = some t) →
      api_Node_48.l4 k t a m b z mid n s r p = some t := by
  have hfin : ∀ k', K + 1 ≤ k' → (∀ k', K ≤ k' → api_Node_48.j6 k' t a m b z mid r (n - r) false = some t) → api_Node_48.l4 k' t a m b z mid n r r p = some t := by
    intro k hk hj
    obtain ⟨k, rfl⟩ : ∃ m, k = m + 1 := ⟨k - 1, by omega⟩
    rw [api_Node_48.l4, if_neg (by omega), show wrap64 (n - r) = n - r from wrap_in (by omega) (by omega)]
    by_cases h : r < m
    · rw [if_pos h, decide_eq_false (by omega)]
      exact hj k (by omega)
    · rw [if_neg h]
      exact hj k (by omega)
  intro f
  induction f with
  | zero =>
    intro k s h0 h1 h2 h3 h4 hj
    obtain rfl : s = r := by omega
    exact hfin k (by omega) hj
  | succ f ih =>
    intro k s h0 h1 h2 h3 h4 hj
    by_cases h : s < r
    · obtain ⟨k, rfl⟩ : ∃ m, k = m + 1 := ⟨k - 1, by omega⟩
      obtain ⟨x, hx, hx0⟩ := ord_ge hu (p - (s + r) / 2) ((s + r) / 2) (by omega) (by omega) (by omega)
      rw [api_Node_48.l4, if_pos h, mid_ (by omega) (by omega) (by omega) (by omega), show wrap64 (p - (s + r) / 2) = p - (s + r) / 2 from wrap_in (by omega) (by omega), if_pos (by omega), if_pos (by omega), if_pos (by omega), if_pos (by omega), hx, some_bind, if_neg hx0,
        show wrap64 ((s + r) / 2 + 1) = (s + r) / 2 + 1 from wrap_in (by omega) (by omega)]
      exact ih k _ (by omega) (by omega) (by omega) (by omega) (by omega) hj
    · obtain rfl : s = r := by omega
      exact hfin k (by omega) hj
theorem merge_ : ∀ (f k : Nat) (a m b : Int) (z : Bool), 0 ≤ a → a < m → m < b → b ≤ t.length → b - a ≤ f → 20 * f + 20 ≤ k → api_Node_48.f k t a m b z = some t := by
  intro f
  induction f using Nat.strongRecOn with
  | _ f ih =>
    intro k a m b z h0 h1 h2 h3 h4 h5
    obtain ⟨k, rfl⟩ : ∃ m, k = m + 1 := ⟨k - 1, by omega⟩
    rw [api_Node_48.f, show wrap64 (m - a) = m - a from wrap_in (by omega) (by omega)]
    by_cases e1 : m - a = 1
    · obtain rfl : m = a + 1 := by omega
      rw [if_pos e1]
      exact sm0_ hu hl f k a b h0 (by omega) h3 (by omega) (by omega)
    rw [if_neg e1, show wrap64 (b - m) = b - m from wrap_in (by omega) (by omega)]
    by_cases e2 : b - m = 1
    · rw [if_pos e2]
      exact sm2_ hu hl f k m a h0 (by omega) (by omega) (by omega) (by omega)
    rw [if_neg e2, mid_ (by omega) (by omega) (by omega) (by omega), show wrap64 ((a + b) / 2 + m) = (a + b) / 2 + m from wrap_in (by omega) (by omega), show wrap64 ((a + b) / 2 + m - b) = (a + b) / 2 + m - b from wrap_in (by omega) (by omega)]
    obtain ⟨k, rfl⟩ : ∃ m, k = m + 1 := ⟨k - 1, by omega⟩
    by_cases c : m > (a + b) / 2
    · rw [if_pos c, api_Node_48.j4, show wrap64 ((a + b) / 2 + m - 1) = (a + b) / 2 + m - 1 from wrap_in (by omega) (by omega)]
      refine sm4_ hu hl a m b ((a + b) / 2) ((a + b) / 2 + m) _ _ z rfl rfl (.inl ⟨rfl, by omega⟩) (by omega) (by omega) (by omega) (by omega) (fun c hc => by omega) (10 * f + 33) f k _ (by omega) (by omega) (by omega) (by omega) (by omega) ?_
      intro k hk
      obtain ⟨k, rfl⟩ : ∃ m, k = m + 3 := ⟨k - 3, by omega⟩
      rw [api_Node_48.j6, if_neg (by simp), api_Node_48.j7]
      have hrec : api_Node_48.j8 (k + 1) t a b z ((a + b) / 2) ((a + b) / 2) ((a + b) / 2 + m - (a + b) / 2) false = some t := by
        rw [api_Node_48.j8, if_neg (by simp)]
        rw [if_pos (by omega), if_pos (by omega), show (a + b) / 2 + m - (a + b) / 2 = m by omega, ih ((f + 1) / 2) (by omega) k ((a + b) / 2) m b z (by omega) (by omega) (by omega) (by omega) (by omega) (by omega)]
        rfl
      by_cases d : a < (a + b) / 2
      · rw [if_pos d, decide_eq_false (by omega)]; exact hrec
      · rw [if_neg d]; exact hrec
    · rw [if_neg c, api_Node_48.j4, show wrap64 ((a + b) / 2 + m - 1) = (a + b) / 2 + m - 1 from wrap_in (by omega) (by omega)]
      refine sm4_ hu hl a m b ((a + b) / 2) ((a + b) / 2 + m) _ _ z rfl rfl (.inr ⟨rfl, by omega⟩) (by omega) (by omega) (by omega) (by omega) (fun c hc => by omega) (10 * f + 33) f k _ (by omega) (by omega) (by omega) (by omega) (by omega) ?_
      intro k hk
      obtain ⟨k, rfl⟩ : ∃ m, k = m + 3 := ⟨k - 3, by omega⟩
      rw [api_Node_48.j6, if_neg (by simp), api_Node_48.j7, if_pos (by omega), api_Node_48.j8]
      by_cases d : m < (a + b) / 2
      · rw [decide_eq_true d, if_pos rfl, ih ((f + 1) / 2) (by omega) k a m ((a + b) / 2) z (by omega) (by omega) (by omega) (by omega) (by omega) (by omega), some_bind, if_neg (by omega)]
      · rw [decide_eq_false d, if_neg (by simp), if_neg (by omega)]
variable (hl60 : t.length ≤ 60)
include hl60
theorem st_l2 (K : Nat) (hK : 6000 ≤ K) (z : Bool) (b : Int) (hb : b = 20 ∨ b = 40) (hb1 : b < t.length) (hn : ∀ K, 5000 ≤ K → api_Node_38.l1 K t t.length z (b * 2) = some t) : api_Node_38.l2 K t t.length z b 0 (b * 2) = some t := by
  obtain ⟨K, rfl⟩ : ∃ m, K = m + 2 := ⟨K - 2, by omega⟩
  rw [api_Node_38.l2]
  by_cases h : b * 2 ≤ t.length
  · rw [if_pos h, show wrap64 (0 + b) = b by rw [wrap_in (by omega) (by omega)]; omega, merge_ hu hl 60 _ 0 b (b * 2) z (by omega) (by omega) (by omega) h (by omega) (by omega), some_bind, show wrap64 (2 * b) = 2 * b from wrap_in (by omega) (by omega), show wrap64 (b * 2 + 2 * b) = b * 2 + 2 * b from wrap_in (by omega) (by omega), api_Node_38.l2, if_neg (by omega),
      show wrap64 (b * 2 + b) = b * 2 + b from wrap_in (by omega) (by omega), if_neg (by omega), show wrap64 (b * 2) = b * 2 from wrap_in (by omega) (by omega)]
    exact hn K (by omega)
  · rw [if_neg h, show wrap64 (0 + b) = b by rw [wrap_in (by omega) (by omega)]; omega, if_pos hb1, merge_ hu hl 60 _ 0 b t.length z (by omega) (by omega) hb1 (by omega) (by omega) (by omega), some_bind, show wrap64 (b * 2) = b * 2 from wrap_in (by omega) (by omega)]
    exact hn (K + 1) (by omega)
theorem st_l1 (K : Nat) (hK : 8000 ≤ K) (z : Bool) : api_Node_38.l1 K t t.length z 20 = some t := by
  have h80 : ∀ K, 5000 ≤ K → api_Node_38.l1 K t t.length z 80 = some t := by
    intro K hK
    obtain ⟨K, rfl⟩ : ∃ m, K = m + 1 := ⟨K - 1, by omega⟩
    rw [api_Node_38.l1, if_neg (by omega)]
  have h40 : ∀ K, 7000 ≤ K → api_Node_38.l1 K t t.length z 40 = some t := by
    intro K hK
    obtain ⟨K, rfl⟩ : ∃ m, K = m + 1 := ⟨K - 1, by omega⟩
    rw [api_Node_38.l1]
    by_cases h : (40 : Int) < t.length
    · rw [if_pos h, show wrap64 (2 * 40) = 40 * 2 from by decide +kernel]
      exact st_l2 hu hl hl60 K (by omega) z 40 (.inr rfl) h h80
    · rw [if_neg h]
  obtain ⟨K, rfl⟩ : ∃ m, K = m + 1 := ⟨K - 1, by omega⟩
  rw [api_Node_38.l1]
  by_cases h : (20 : Int) < t.length
  · rw [if_pos h, show wrap64 (2 * 20) = 20 * 2 from by decide +kernel]
    obtain ⟨K, rfl⟩ : ∃ m, K = m + 2 := ⟨K - 2, by omega⟩
    by_cases h' : (40 : Int) < t.length
    · rw [api_Node_38.l2, if_pos (by omega), show wrap64 (0 + 20) = 20 from by decide +kernel, merge_ hu hl 60 _ 0 20 (20 * 2) z (by omega) (by omega) (by omega) (by omega) (by omega) (by omega), some_bind, show wrap64 (20 * 2 + wrap64 (2 * 20)) = 80 from by decide +kernel,
        api_Node_38.l2]
      by_cases h6 : (80 : Int) ≤ t.length
      · omega
      rw [if_neg h6, show wrap64 (20 * 2 + 20) = 60 from by decide +kernel, if_neg (by omega), show wrap64 (20 * 2) = 40 from by decide +kernel]
      exact h40 K (by omega)
    · by_cases h4 : (20 * 2 : Int) ≤ t.length
      · rw [api_Node_38.l2, if_pos h4, show wrap64 (0 + 20) = 20 from by decide +kernel, merge_ hu hl 60 _ 0 20 (20 * 2) z (by omega) (by omega) (by omega) (by omega) (by omega) (by omega), some_bind, show wrap64 (20 * 2 + wrap64 (2 * 20)) = 80 from by decide +kernel,
          api_Node_38.l2, if_neg (by omega), show wrap64 (20 * 2 + 20) = 60 from by decide +kernel, if_neg (by omega), show wrap64 (20 * 2) = 40 from by decide +kernel]
        exact h40 K (by omega)
      · rw [api_Node_38.l2, if_neg h4, show wrap64 (0 + 20) = 20 from by decide +kernel, if_pos h, merge_ hu hl 60 _ 0 20 t.length z (by omega) (by omega) h (by omega) (by omega) (by omega), some_bind, show wrap64 (20 * 2) = 40 from by decide +kernel]
        exact h40 (K + 1) (by omega)
  · rw [if_neg h]
theorem st_l0 : ∀ (f K : Nat) (z : Bool) (a : Int), 0 ≤ a → a ≤ t.length → t.length - a ≤ 20 * f → 9000 + f ≤ K → api_Node_38.l0 K t t.length z 20 a (a + 20) = some t := by
  intro f
  induction f with
  | zero =>
    intro K z a h0 h1 h2 h3
    obtain ⟨K, rfl⟩ : ∃ m, K = m + 1 := ⟨K - 1, by omega⟩
    rw [api_Node_38.l0, if_neg (by omega), insert_ hu hl K a t.length z h0 h1 (by omega) (by omega), some_bind]
    exact st_l1 hu hl hl60 K (by omega) z
  | succ f ih =>
    intro K z a h0 h1 h2 h3
    obtain ⟨K, rfl⟩ : ∃ m, K = m + 1 := ⟨K - 1, by omega⟩
    rw [api_Node_38.l0]
    by_cases h : a + 20 ≤ t.length
    · rw [if_pos h, insert_ hu hl K a (a + 20) z h0 (by omega) (by omega) (by omega), some_bind, show wrap64 (a + 20 + 20) = a + 20 + 20 from wrap_in (by omega) (by omega)]
      exact ih K z (a + 20) (by omega) h (by omega) (by omega)
    · rw [if_neg h, insert_ hu hl K a t.length z h0 h1 (by omega) (by omega), some_bind]
      exact st_l1 hu hl hl60 K (by omega) z
end
theorem sort_up {t : List Nd} (hu : up t) (hl : t.length ≤ 60) (K : Nat) (hK : 20000 ≤ K) : tree_Sort.f K t = some t := by
  unfold tree_Sort.f api_Node_28.f api_Node_29.f api_Node_38.f
  rw [some_bind, if_pos (by simp only [List.length_nil]; omega), some_bind, List.nil_append]
  have := st_l0 hu (by omega) hl 3 K true 0 (by omega) (by omega) (by omega) (by omega)
  rw [show (0 : Int) + 20 = 20 from rfl] at this
  rw [this]
  rfl
end Go.Proofs.YtfncpcmpapakjaaDoor.SortTh
