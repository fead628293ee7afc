/- Laid by a program of this session (wip/pr), after the printer of the kit: the functions that a statement reaches as plain Lean functions, and that the calls of the machine come to them. No condition. -/
import Derived.Test.YtiamdmlbhmgnjaaDoorPx0
import Derived.Test.YtiamdmlbhmgnjaaDoorPx1
import Derived.Test.YtiamdmlbhmgnjaaDoorPx14
namespace Go.Proofs.YtiamdmlbhmgnjaaDoor.P
open Go.RowKit Go.Proofs.YtiamdmlbhmgnjaaDoorX Go.Proofs.YtiamdmlbhmgnjaaDoorW.PrintWords Go.Proofs.YtiamdmlbhmgnjaaDoorW.PrintLast Go.Proofs.YtiamdmlbhmgnjaaDoorW.PrintMore
attribute [local go_sem] max2_int min2_int max_two min_two
set_option linter.unusedVariables false
set_option linter.unusedSimpArgs false

attribute [local go_sem high] eqA37
/-- Values as they were laid, one cell each. -/
def rawV : Kd Value where
 sz := 1
 E := []
 K := fun _ x cs => cs = [x] ∧ x.oneCell' = true
 M := fun _ _ _ x cs => cs = [x] ∧ x.oneCell' = true
 K_len := by
  rintro w x cs ⟨rfl, _⟩; rfl
 K_one := by
  rintro w x cs ⟨rfl, h⟩ u hu; rw [List.mem_singleton.1 hu]; exact h
 K_below := fun _ h => h
 K_of_M := fun h => h
 M_mono := fun _ h => h
 M_bound := fun h => ⟨h.1, h.2⟩
 M_move := fun _ h => h
 M_lower := fun _ h => h
theorem rawV_two {w : World} {base : Nat} {okp : Nat → Prop} {a b : Value} (ha : a.oneCell' = true) (hb : b.oneCell' = true) : Reps (rawV.M w base okp) 1 [a, b] [a, b] := by
 refine ⟨rfl, fun j p hp => ?_⟩
 match j with
 | 0 =>
  obtain rfl : a = p := by simpa using hp
  exact ⟨rfl, ha⟩
 | 1 =>
  obtain rfl : b = p := by simpa using hp
  exact ⟨rfl, hb⟩
 | j + 2 => simp at hp
/-- union.Of of two trees that are written out as a list. -/
def union_Two.f (k : Nat) (p : Int) (a b : List (S37)) : Option (List (S37) × Int) := union_Of.f k p [a, b]
theorem union_Two.mono : ∀ p a b k, LeO (union_Two.f k p a b) (union_Two.f (k + 1) p a b) := by
 intro p a b k; unfold union_Two.f
 exact union_Of.mono _ _ k
theorem union_Two.calls (k : Nat) (p : Int) (A1 : Option Addr) (c1 : Nat) (a : List (S37)) (A2 : Option Addr) (c2 : Nat) (b : List (S37)) (r1 : List (S37)) (r2 : Int) (A : Option Addr) (c : Nat) (w : World) (hr0 : Kd.C rawV w A 2 [.slice A1 a.length c1, .slice A2 b.length c2]) (hc0 : 2 ≤ c) (hr1 : Kd.C k37 w A1 a.length a) (hc1 : a.length ≤ c1) (hr2 : Kd.C k37 w A2 b.length b) (hc2 : b.length ≤ c2) (h : union_Two.f k p a b = some (r1, r2)) :
  Calls Tryd.prog 9 #[.int .i64 p, .slice A 2 c] w fun e w' => ∃ v0_ : Value, e = .returned (.tuple #[v0_, .int .i64 r2]) ∧ Kd.R k37 37 w' w.heap.size (fun _ => True) v0_ r1 ∧ Below w.heap.size w w' := by
 refine union_Of.calls k p A c [a, b] r1 r2 w ?_ hc0 h
 obtain ⟨h1, h2, h3⟩ := hr0; refine ⟨h1, h2, fun h0 => ?_⟩
 obtain ⟨ad, e, hc⟩ := h3 h0; refine ⟨ad, e, fun j q hq => ?_⟩
 match j with
 | 0 =>
  obtain ⟨cs, l, ⟨rfl, _⟩, hcell⟩ := hc 0 _ rfl; obtain rfl : a = q := by simpa using hq
  exact ⟨_, l, ⟨A1, c1, rfl, hc1, hr1⟩, hcell⟩
 | 1 =>
  obtain ⟨cs, l, ⟨rfl, _⟩, hcell⟩ := hc 1 _ rfl; obtain rfl : b = q := by simpa using hq
  exact ⟨_, l, ⟨A2, c2, rfl, hc2, hr2⟩, hcell⟩
 | j + 2 => simp at hq

/-! ### hogsheadlaw0_SameNodes: function 11 -/
def hogsheadlaw0_SameNodes.l0 : Nat → List (S37) → List (S37) → Int → Option (Bool)
 | 0, _, _, _ => none
 | k + 1, x0, x1, x5 => if x5 < (x0.length : Int) then (if 0 ≤ x5 then (if x5 < (x1.length : Int) then (if (!((((rd_T37 x0 x5).f0).toList) == (((rd_T37 x1 x5).f0).toList)) || (!(((rd_T37 x0 x5).f1) == ((rd_T37 x1 x5).f1)) || (!((((rd_T37 x0 x5).f2).toList) == (((rd_T37 x1 x5).f2).toList))))) = true then (some false) else (hogsheadlaw0_SameNodes.l0 k x0 x1 (wrap64 (x5 + 1)))) else (none)) else (none)) else (some true)
def hogsheadlaw0_SameNodes.f (k : Nat) (l0 : List (S37)) (l1 : List (S37)) : Option (Bool) := if (l0.length : Int) = (l1.length : Int) then (hogsheadlaw0_SameNodes.l0 k l0 l1 0) else (some false)
theorem hogsheadlaw0_SameNodes.mono_l : ∀ k, (∀ y0 y1 y2, LeO (hogsheadlaw0_SameNodes.l0 k y0 y1 y2) (hogsheadlaw0_SameNodes.l0 (k + 1) y0 y1 y2))
 | 0 => fun _ _ _ r h => by simp [hogsheadlaw0_SameNodes.l0] at h
 | k + 1 => by
  have ih0 := hogsheadlaw0_SameNodes.mono_l k
  ·intro y0 y1 y2
   unfold hogsheadlaw0_SameNodes.l0
   repeat' with_reducible first | exact ih0 _ _ _ | exact LeO.refl _ | exact LeO.none _ | refine LeO.ite ?_ ?_ | refine LeO.bind ?_ (fun _ => ?_)
theorem hogsheadlaw0_SameNodes.mono : ∀ a0 a1 k, LeO (hogsheadlaw0_SameNodes.f k a0 a1) (hogsheadlaw0_SameNodes.f (k + 1) a0 a1) := by
 intro a0 a1 k; have ih0 := hogsheadlaw0_SameNodes.mono_l k; unfold hogsheadlaw0_SameNodes.f
 repeat' with_reducible first | exact ih0 _ _ _ | exact LeO.refl _ | exact LeO.none _ | refine LeO.ite ?_ ?_ | refine LeO.bind ?_ (fun _ => ?_)
set_option maxHeartbeats 8000000 in
set_option maxRecDepth 100000 in
theorem hogsheadlaw0_SameNodes.calls (k : Nat) (A0 : Option Addr) (c0 : Nat) (l0 : List (S37)) (A1 : Option Addr) (c1 : Nat) (l1 : List (S37)) (r : Bool) (w : World) (hr0 : Kd.C k37 w A0 l0.length l0) (hc0 : l0.length ≤ c0) (hr1 : Kd.C k37 w A1 l1.length l1) (hc1 : l1.length ≤ c1) (h : hogsheadlaw0_SameNodes.f k l0 l1 = some r) :
  Calls Tryd.prog 11 #[.slice A0 l0.length c0, .slice A1 l1.length c1] w fun e w' => e = .returned (.bool r) ∧ Drawn0 w w' := by
 have hu37 := Tryd.underlying37; have HR0 := am hr0; have HC0 := am hc0; clear hr0 hc0; have HR1 := am hr1; have HC1 := am hc1; clear hr1 hc1; have H : (if (l0.length : Int) = (l1.length : Int) then (hogsheadlaw0_SameNodes.l0 k l0 l1 0) else (some false)) = some r := h; clear h; by_cases c3 : (l0.length : Int) = (l1.length : Int)
 ·rw [if_pos c3] at H
  have c3b0 : ((l0.length : Int) == (l1.length : Int)) = true := beq_iff_eq.mpr c3; have c3b1 : ((l0.length : Int) != (l1.length : Int)) = false := bne_eq_false_iff_eq.mpr c3; have c3b2 : (l0.length == l1.length) = true := by first | simpa using c3 | (simp at c3 ⊢; omega)
  clear c3; have H' := am H; clear H; go_enter Tryd.func11, Tryd.ntmps11; go_wp2
  repeat (go_quiet (fail); try go_wp2)
  go_loopg [5] k (fun kq v5 w' => ∃ (x5_1 : Int), v5 = .int .i64 x5_1 ∧ Aside0 (hogsheadlaw0_SameNodes.l0 kq l0 l1 x5_1 = some r) ∧ Aside0 (kq ≤ k) ∧ Drawn0 w w')
  case atStart => exact ⟨(0), (by first | rfl | (simp; done) | (simp [*]; done)), H', ⟨Nat.le_refl _⟩, dz⟩
  case round =>
   clear H'; (try clear c1); (try clear p2); (try clear c3); (try clear c3b0); (try clear c3b1); (try clear c3b2); obtain ⟨x5_1, rfl, HA, HK1, ⟨m1, rfl⟩⟩ := hrel; cases gk with
   | zero => exact absurd HA.out (by simp [hogsheadlaw0_SameNodes.l0])
   | succ k1 =>
    have H := HA.out; clear HA; simp only [hogsheadlaw0_SameNodes.l0] at H
    by_cases c4 : x5_1 < (l0.length : Int)
    ·rw [if_pos c4] at H
     have c4b0 : decide (x5_1 < (l0.length : Int)) = true := decide_eq_true c4; clear c4; by_cases c5 : 0 ≤ x5_1
     ·rw [if_pos c5] at H
      have c5b0 : decide (0 ≤ x5_1) = true := decide_eq_true c5; clear c5; by_cases c6 : x5_1 < (l1.length : Int)
      ·rw [if_pos c6] at H
       have c6b0 : decide (x5_1 < (l1.length : Int)) = true := decide_eq_true c6; clear c6; by_cases c7 : (!((((rd_T37 l0 x5_1).f0).toList) == (((rd_T37 l1 x5_1).f0).toList)) || (!(((rd_T37 l0 x5_1).f1) == ((rd_T37 l1 x5_1).f1)) || (!((((rd_T37 l0 x5_1).f2).toList) == (((rd_T37 l1 x5_1).f2).toList))))) = true
       ·rw [if_pos c7] at H
        have c7b0 : (!((((rd_T37 l0 x5_1).f0).toList) == (((rd_T37 l1 x5_1).f0).toList)) || (!(((rd_T37 l0 x5_1).f1) == ((rd_T37 l1 x5_1).f1)) || (!((((rd_T37 l0 x5_1).f2).toList) == (((rd_T37 l1 x5_1).f2).toList))))) = true := c7; clear c7; obtain rfl := Option.some.inj H; have p233 : 0 ≤ (x5_1 : Int) := of_decide_eq_true (by assumption); have q233 : x5_1 < (l0.length : Int) := of_decide_eq_true (by assumption); obtain ⟨ad233, e233, hx233_0, hx233_1, hx233_2⟩ := at_T37 HR0.out x5_1 p233 q233; cases e233; replace p233 := eq_true p233; replace q233 := eq_true q233; have p234 : 0 ≤ (x5_1 : Int) := of_decide_eq_true (by assumption); have q234 : x5_1 < (l1.length : Int) := of_decide_eq_true (by assumption); obtain ⟨ad234, e234, hx234_0, hx234_1, hx234_2⟩ := at_T37 HR1.out x5_1 p234 q234; cases e234; replace p234 := eq_true p234; replace q234 := eq_true q234; go_wp2
        repeat (go_quiet (fail); try go_wp2)
        go_ret; exact ⟨by first | rfl | (simp; done) | (simp [*]; done), dz⟩
       ·rw [if_neg c7] at H
        have c7b0 : (!((((rd_T37 l0 x5_1).f0).toList) == (((rd_T37 l1 x5_1).f0).toList)) || (!(((rd_T37 l0 x5_1).f1) == ((rd_T37 l1 x5_1).f1)) || (!((((rd_T37 l0 x5_1).f2).toList) == (((rd_T37 l1 x5_1).f2).toList))))) = false := by simpa using c7
        clear c7; have H' := am H; clear H; have p233 : 0 ≤ (x5_1 : Int) := of_decide_eq_true (by assumption); have q233 : x5_1 < (l0.length : Int) := of_decide_eq_true (by assumption); obtain ⟨ad233, e233, hx233_0, hx233_1, hx233_2⟩ := at_T37 HR0.out x5_1 p233 q233; cases e233; replace p233 := eq_true p233; replace q233 := eq_true q233; have p234 : 0 ≤ (x5_1 : Int) := of_decide_eq_true (by assumption); have q234 : x5_1 < (l1.length : Int) := of_decide_eq_true (by assumption); obtain ⟨ad234, e234, hx234_0, hx234_1, hx234_2⟩ := at_T37 HR1.out x5_1 p234 q234; cases e234; replace p234 := eq_true p234; replace q234 := eq_true q234; go_wp2
        repeat (go_quiet (fail); try go_wp2)
        go_roundg k1
        case measure => have := HK1.out; omega
        case rel => exact ⟨(wrap64 (x5_1 + 1)), (by first | rfl | (simp; done) | (simp [*]; done)), H', ⟨by have := HK1.out; omega⟩, dz⟩
      ·rw [if_neg c6] at H
       exact absurd H (by simp)
     ·rw [if_neg c5] at H
      exact absurd H (by simp)
    ·rw [if_neg c4] at H
     have c4b0 : decide (x5_1 < (l0.length : Int)) = false := decide_eq_false c4; clear c4; obtain rfl := Option.some.inj H; go_wp2
     repeat (go_quiet (fail); try go_wp2)
     go_ret; exact ⟨by first | rfl | (simp; done) | (simp [*]; done), dz⟩
 ·rw [if_neg c3] at H
  have c3b0 : ((l0.length : Int) == (l1.length : Int)) = false := beq_eq_false_iff_ne.mpr c3; have c3b1 : ((l0.length : Int) != (l1.length : Int)) = true := bne_iff_ne.mpr c3; have c3b2 : (l0.length == l1.length) = false := by first | simpa using c3 | (simp at c3 ⊢; omega)
  obtain rfl := Option.some.inj H; go_enter Tryd.func11, Tryd.ntmps11; go_wp2
  repeat (go_quiet (fail); try go_wp2)
  go_ret; exact ⟨by first | rfl | (simp; done) | (simp [*]; done), dz⟩

/-! ### hogsheadlaw4_awake: function 8 -/
def hogsheadlaw4_awake.f (k : Nat)  : Option (Bool) := (some (([(⟨(⟨#[]⟩ : ByteArray), 1, (⟨#[]⟩ : ByteArray)⟩ : S37), (⟨(⟨#[97]⟩ : ByteArray), 2, (⟨#[49]⟩ : ByteArray)⟩ : S37)] : List (S37)) : List (S37))).bind fun y235 => ((some (([(⟨(⟨#[]⟩ : ByteArray), 1, (⟨#[]⟩ : ByteArray)⟩ : S37), (⟨(⟨#[97]⟩ : ByteArray), 1, (⟨#[]⟩ : ByteArray)⟩ : S37), (⟨(⟨#[97, 47, 98]⟩ : ByteArray), 2, (⟨#[]⟩ : ByteArray)⟩ : S37)] : List (S37)) : List (S37))).bind fun y238 => ((union_Two.f k 1 y235 y238).bind fun bt241 => ((union_Two.f k 0 y235 y238).bind fun bt245 => ((hogsheadlaw0_SameNodes.f k bt241.1 y235).bind fun t249 => (if t249 = true then (if bt241.2 = 0 then (some (bt245.2 == 9)) else (some false)) else (some false))))))
theorem hogsheadlaw4_awake.mono : ∀ k, LeO (hogsheadlaw4_awake.f k ) (hogsheadlaw4_awake.f (k + 1) ) := by
 intro  k; unfold hogsheadlaw4_awake.f
 repeat' with_reducible first | exact union_Two.mono _ _ _ _ | exact hogsheadlaw0_SameNodes.mono _ _ _ | exact LeO.refl _ | exact LeO.none _ | refine LeO.ite ?_ ?_ | refine LeO.bind ?_ (fun _ => ?_)
set_option maxHeartbeats 8000000 in
set_option maxRecDepth 100000 in
theorem hogsheadlaw4_awake.calls (k : Nat)  (r : Bool) (w : World) (h : hogsheadlaw4_awake.f k  = some true) :
  Calls Tryd.prog 8 #[] w fun e w' => e = .returned (.bool true) ∧ Below w.heap.size w w' := by
 have hu37 := Tryd.underlying37; have HB := am (Below.refl w.heap.size w); have H : ((some (([(⟨(⟨#[]⟩ : ByteArray), 1, (⟨#[]⟩ : ByteArray)⟩ : S37), (⟨(⟨#[97]⟩ : ByteArray), 2, (⟨#[49]⟩ : ByteArray)⟩ : S37)] : List (S37)) : List (S37))).bind fun y235 => ((some (([(⟨(⟨#[]⟩ : ByteArray), 1, (⟨#[]⟩ : ByteArray)⟩ : S37), (⟨(⟨#[97]⟩ : ByteArray), 1, (⟨#[]⟩ : ByteArray)⟩ : S37), (⟨(⟨#[97, 47, 98]⟩ : ByteArray), 2, (⟨#[]⟩ : ByteArray)⟩ : S37)] : List (S37)) : List (S37))).bind fun y238 => ((union_Two.f k 1 y235 y238).bind fun bt241 => ((union_Two.f k 0 y235 y238).bind fun bt245 => ((hogsheadlaw0_SameNodes.f k bt241.1 y235).bind fun t249 => (if t249 = true then (if bt241.2 = 0 then (some (bt245.2 == 9)) else (some false)) else (some false))))))) = some true := h; clear h; refine bL H ?_; clear H; intro y235 hy235 H
 have Ny235 := am hy235; clear hy235; refine bL H ?_; clear H; intro y238 hy238 H
 have Ny238 := am hy238; clear hy238; replace H := oB H; obtain ⟨⟨t241, t242⟩, A10, H⟩ := H; replace H : ((union_Two.f k 0 y235 y238).bind fun bt245 => ((hogsheadlaw0_SameNodes.f k t241 y235).bind fun t249 => (if t249 = true then (if t242 = 0 then (some (bt245.2 == 9)) else (some false)) else (some false)))) = some true := H; have A1 := am A10; clear A10; replace H := oB H; obtain ⟨⟨t245, t246⟩, A20, H⟩ := H; replace H : ((hogsheadlaw0_SameNodes.f k t241 y235).bind fun t249 => (if t249 = true then (if t242 = 0 then (some (t246 == 9)) else (some false)) else (some false))) = some true := H; have A2 := am A20; clear A20; refine oR H ?_; clear H; intro t249 A3 H; by_cases c4 : t249 = true
 ·subst c4
  have H1 : (if t242 = 0 then (some (t246 == 9)) else (some false)) = some true := by rw [if_pos rfl] at H; exact H
  clear H; have H := H1; clear H1; by_cases c5 : t242 = 0
  ·rw [if_pos c5] at H
   have c5b0 : (t242 == 0) = true := beq_iff_eq.mpr c5; have c5b1 : (t242 != 0) = false := bne_eq_false_iff_eq.mpr c5; clear c5; have hr_ := Option.some.inj H; go_enter Tryd.func8, Tryd.ntmps8; go_wp2_with (first | ((with_reducible refine gate_dst (N := 9) rfl ?_); refine Kd.R_lit k37 _ 37 ?hg (N := 9) ?hd (xs := ([(⟨(⟨#[]⟩ : ByteArray), 1, (⟨#[]⟩ : ByteArray)⟩ : S37), (⟨(⟨#[97]⟩ : ByteArray), 2, (⟨#[49]⟩ : ByteArray)⟩ : S37)] : List (S37))) (inner := [.string (⟨#[]⟩ : ByteArray), .int .i64 1, .string (⟨#[]⟩ : ByteArray), .string (⟨#[97]⟩ : ByteArray), .int .i64 2, .string (⟨#[49]⟩ : ByteArray)]) (ok := fun _ => True) (okp := fun _ => True) ?hr ?hp (fun _ hk => hk) trivial (Below.refl _ _) (Nat.le_refl _) (by simp) ?_; (case hd => rfl); (case hg => rfl); (case hr => first | (go_simp; done) | (go_simp; rfl)); (case hp => exact (Reps.c3 (show Kd.M k37 _ _ _ (⟨(⟨#[]⟩ : ByteArray), 1, (⟨#[]⟩ : ByteArray)⟩ : S37) [.string (⟨#[]⟩ : ByteArray), .int .i64 1, .string (⟨#[]⟩ : ByteArray)] from (k37_mkM _ _ _ (⟨(⟨#[]⟩ : ByteArray), 1, (⟨#[]⟩ : ByteArray)⟩ : S37) )) (Reps.c3 (show Kd.M k37 _ _ _ (⟨(⟨#[97]⟩ : ByteArray), 2, (⟨#[49]⟩ : ByteArray)⟩ : S37) [.string (⟨#[97]⟩ : ByteArray), .int .i64 2, .string (⟨#[49]⟩ : ByteArray)] from (k37_mkM _ _ _ (⟨(⟨#[97]⟩ : ByteArray), 2, (⟨#[49]⟩ : ByteArray)⟩ : S37) )) (Reps.none _ _)))); intro v236 w6 ho7 hb hg_ hnew_; clear hg_ hnew_; (first | rw [← Ny235.out] at ho7 | (simp only [Int.reduceToNat] at ho7; rw [← Ny235.out] at ho7)); have HO237 := am (Kd.R_lower ho7 siz); replace HB := bs hb; clear hb ho7) | ((with_reducible refine gate_dst (N := 13) rfl ?_); refine Kd.R_lit k37 _ 37 ?hg (N := 13) ?hd (xs := ([(⟨(⟨#[]⟩ : ByteArray), 1, (⟨#[]⟩ : ByteArray)⟩ : S37), (⟨(⟨#[97]⟩ : ByteArray), 1, (⟨#[]⟩ : ByteArray)⟩ : S37), (⟨(⟨#[97, 47, 98]⟩ : ByteArray), 2, (⟨#[]⟩ : ByteArray)⟩ : S37)] : List (S37))) (inner := [.string (⟨#[]⟩ : ByteArray), .int .i64 1, .string (⟨#[]⟩ : ByteArray), .string (⟨#[97]⟩ : ByteArray), .int .i64 1, .string (⟨#[]⟩ : ByteArray), .string (⟨#[97, 47, 98]⟩ : ByteArray), .int .i64 2, .string (⟨#[]⟩ : ByteArray)]) (ok := fun _ => True) (okp := fun _ => True) ?hr ?hp (fun _ hk => hk) trivial (Below.refl _ _) (Nat.le_refl _) (by simp) ?_; (case hd => rfl); (case hg => rfl); (case hr => first | (go_simp; done) | (go_simp; rfl)); (case hp => exact (Reps.c3 (show Kd.M k37 _ _ _ (⟨(⟨#[]⟩ : ByteArray), 1, (⟨#[]⟩ : ByteArray)⟩ : S37) [.string (⟨#[]⟩ : ByteArray), .int .i64 1, .string (⟨#[]⟩ : ByteArray)] from (k37_mkM _ _ _ (⟨(⟨#[]⟩ : ByteArray), 1, (⟨#[]⟩ : ByteArray)⟩ : S37) )) (Reps.c3 (show Kd.M k37 _ _ _ (⟨(⟨#[97]⟩ : ByteArray), 1, (⟨#[]⟩ : ByteArray)⟩ : S37) [.string (⟨#[97]⟩ : ByteArray), .int .i64 1, .string (⟨#[]⟩ : ByteArray)] from (k37_mkM _ _ _ (⟨(⟨#[97]⟩ : ByteArray), 1, (⟨#[]⟩ : ByteArray)⟩ : S37) )) (Reps.c3 (show Kd.M k37 _ _ _ (⟨(⟨#[97, 47, 98]⟩ : ByteArray), 2, (⟨#[]⟩ : ByteArray)⟩ : S37) [.string (⟨#[97, 47, 98]⟩ : ByteArray), .int .i64 2, .string (⟨#[]⟩ : ByteArray)] from (k37_mkM _ _ _ (⟨(⟨#[97, 47, 98]⟩ : ByteArray), 2, (⟨#[]⟩ : ByteArray)⟩ : S37) )) (Reps.none _ _))))); intro v239 w8 ho9 hb hg_ hnew_; clear hg_ hnew_; (first | rw [← Ny238.out] at ho9 | (simp only [Int.reduceToNat] at ho9; rw [← Ny238.out] at ho9)); have HO240 := am (Kd.R_lower (Kd.R_new' ho9 (Kd.R_lt (rz HO237.out))) siz); replace HO237 := am (Kd.R_elder' (rz HO237.out) (Kd.R_base ho9) hb); replace HB := bs hb; clear hb ho9; obtain ⟨Ao10, co10, eo10⟩ := Kd.R_slice HO237.out; subst eo10; obtain ⟨Ao11, co11, eo11⟩ := Kd.R_slice HO240.out; subst eo11) | ((with_reducible refine gate_dst (N := 17) rfl ?_); refine Kd.R_lit rawV _ 25 ?hg (N := 17) ?hd (xs := [.slice Ao10 y235.length co10, .slice Ao11 y238.length co11]) (inner := [.slice Ao10 y235.length co10, .slice Ao11 y238.length co11]) (ok := fun _ => True) (okp := fun _ => True) ?hr ?hp (fun _ hk => hk) trivial (Below.refl _ _) (Nat.le_refl _) (by simp) ?_; (case hd => rfl); (case hg => rfl); (case hr => first | (go_simp; done) | (go_simp; rfl)); (case hp => exact rawV_two rfl rfl); intro v17_ w17_ ho_ hb hg_ hnew_; clear hg_ hnew_; obtain ⟨A17_, c17_, e17_⟩ := Kd.R_slice ho_; subst e17_; have HV17 := am ho_; (try (have n_ := am (Kd.R_below (rz HO237.out) hb); clear HO237; have HO237 := n_; clear n_)); (try (have n_ := am (Kd.R_below (rz HO240.out) hb); clear HO240; have HO240 := n_; clear n_)); (try (have n_ := am (Kd.R_below (rz HO244.out) hb); clear HO244; have HO244 := n_; clear n_)); (try (have n_ := am (Kd.R_below (rz HO248.out) hb); clear HO248; have HO248 := n_; clear n_)); have n_ := bs hb; clear HB; have HB := n_; clear n_; clear hb ho_) | ((with_reducible refine gate_callee (f := 9) rfl ?_); refine gL (some 18) Tryd.func9 #[.int .i64 1, .slice A17_ 2 c17_] ?_; (with_reducible refine (union_Two.calls k 1 Ao10 co10 y235 Ao11 co11 y238 t241 t242 A17_ c17_ _ ?sideV ?sideW ?side1 ?side2 ?side3 ?side4 A1.out).mono ?_); (case sideV => exact cz (Kd.R_reads' HV17.out).2.2); (case sideW => exact (Kd.R_reads' HV17.out).2.1); (case side1 => exact cz (Kd.R_reads' HO237.out).2.2); (case side2 => exact (Kd.R_reads' HO237.out).2.1); (case side3 => exact cz (Kd.R_reads' HO240.out).2.2); (case side4 => exact (Kd.R_reads' HO240.out).2.1); rintro e w12 ⟨v243, rfl, ho0, hb⟩; refine ⟨_, rfl, ?_⟩; have HO244 := am (Kd.R_lower (Kd.R_new' (Kd.R_new' ho0 (Kd.R_lt (rz HO237.out))) (Kd.R_lt (rz HO240.out))) siz); replace HO237 := am (Kd.R_elder' (rz HO237.out) (Kd.R_base ho0) hb); replace HO240 := am (Kd.R_elder' (rz HO240.out) (Kd.R_base ho0) hb); replace HB := bs hb; (try clear ho0)) | ((with_reducible refine gate_dst (N := 24) rfl ?_); refine Kd.R_lit rawV _ 25 ?hg (N := 24) ?hd (xs := [.slice Ao10 y235.length co10, .slice Ao11 y238.length co11]) (inner := [.slice Ao10 y235.length co10, .slice Ao11 y238.length co11]) (ok := fun _ => True) (okp := fun _ => True) ?hr ?hp (fun _ hk => hk) trivial (Below.refl _ _) (Nat.le_refl _) (by simp) ?_; (case hd => rfl); (case hg => rfl); (case hr => first | (go_simp; done) | (go_simp; rfl)); (case hp => exact rawV_two rfl rfl); intro v24_ w24_ ho_ hb hg_ hnew_; clear hg_ hnew_; obtain ⟨A24_, c24_, e24_⟩ := Kd.R_slice ho_; subst e24_; have HV24 := am ho_; (try (have n_ := am (Kd.R_below (rz HO237.out) hb); clear HO237; have HO237 := n_; clear n_)); (try (have n_ := am (Kd.R_below (rz HO240.out) hb); clear HO240; have HO240 := n_; clear n_)); (try (have n_ := am (Kd.R_below (rz HO244.out) hb); clear HO244; have HO244 := n_; clear n_)); (try (have n_ := am (Kd.R_below (rz HO248.out) hb); clear HO248; have HO248 := n_; clear n_)); have n_ := bs hb; clear HB; have HB := n_; clear n_; clear hb ho_) | ((with_reducible refine gate_callee (f := 9) rfl ?_); refine gL (some 25) Tryd.func9 #[.int .i64 0, .slice A24_ 2 c24_] ?_; (with_reducible refine (union_Two.calls k 0 Ao10 co10 y235 Ao11 co11 y238 t245 t246 A24_ c24_ _ ?sideV ?sideW ?side1 ?side2 ?side3 ?side4 A2.out).mono ?_); (case sideV => exact cz (Kd.R_reads' HV24.out).2.2); (case sideW => exact (Kd.R_reads' HV24.out).2.1); (case side1 => exact cz (Kd.R_reads' HO237.out).2.2); (case side2 => exact (Kd.R_reads' HO237.out).2.1); (case side3 => exact cz (Kd.R_reads' HO240.out).2.2); (case side4 => exact (Kd.R_reads' HO240.out).2.1); rintro e w13 ⟨v247, rfl, ho0, hb⟩; refine ⟨_, rfl, ?_⟩; have HO248 := am (Kd.R_lower (Kd.R_new' (Kd.R_new' (Kd.R_new' ho0 (Kd.R_lt (rz HO237.out))) (Kd.R_lt (rz HO240.out))) (Kd.R_lt (rz HO244.out))) siz); replace HO237 := am (Kd.R_elder' (rz HO237.out) (Kd.R_base ho0) hb); replace HO240 := am (Kd.R_elder' (rz HO240.out) (Kd.R_base ho0) hb); replace HO244 := am (Kd.R_elder' (rz HO244.out) (Kd.R_base ho0) hb); replace HB := bs hb; (try clear ho0); obtain ⟨Ao14, co14, eo14⟩ := Kd.R_slice HO244.out; subst eo14) | ((with_reducible refine gate_callee (f := 11) rfl ?_); refine gL (some 30) Tryd.func11 #[.slice Ao14 t241.length co14, .slice Ao10 y235.length co10] ?_; (with_reducible refine (hogsheadlaw0_SameNodes.calls k _ _ t241 _ _ y235 true _ ?side1 ?side2 ?side3 ?side4 A3.out).mono ?_); (case side1 => exact cz (Kd.R_reads' HO244.out).2.2); (case side2 => exact (Kd.R_reads' HO244.out).2.1); (case side3 => exact cz (Kd.R_reads' HO237.out).2.2); (case side4 => exact (Kd.R_reads' HO237.out).2.1); rintro e w' ⟨rfl, ⟨nd, rfl⟩⟩; refine ⟨_, rfl, ?_⟩))
   go_ret; exact ⟨ez, bz⟩
  ·rw [if_neg c5] at H
   exact absurd H (by simp)
 ·replace c4 := Bool.eq_false_iff.mpr c4
  subst c4; have H1 : (some false) = some true := by rw [if_neg (show ¬ (false = true) by decide)] at H; exact H
  exact absurd H1 (by simp)
/-! ### hogsheadlaw0_Low: function 14 -/
def hogsheadlaw0_Low.f (a0 : Int) (a1 : Int) : Option (Int) := if (IntKind.u64.wrap (a1)) = 0 then (none) else (some (wrap64 (Int.tmod (IntKind.u64.wrap (a0)) (IntKind.u64.wrap (a1)))))
set_option maxHeartbeats 8000000 in
set_option maxRecDepth 100000 in
theorem hogsheadlaw0_Low.calls (a0 : Int) (a1 : Int) (r : Int) (w : World) (h : hogsheadlaw0_Low.f a0 a1 = some r) :
  Calls Tryd.prog 14 #[.int .i64 a0, .int .i64 a1] w fun e w' => e = .returned (.int .i64 r) ∧ Drawn0 w w' := by
 have H : (if (IntKind.u64.wrap (a1)) = 0 then (none) else (some (wrap64 (Int.tmod (IntKind.u64.wrap (a0)) (IntKind.u64.wrap (a1)))))) = some r := h; clear h; by_cases c3 : (IntKind.u64.wrap (a1)) = 0
 ·rw [if_pos c3] at H
  exact absurd H (by simp)
 ·rw [if_neg c3] at H
  have c3b0 : ((IntKind.u64.wrap (a1)) == 0) = false := beq_eq_false_iff_ne.mpr c3; have c3b1 : ((IntKind.u64.wrap (a1)) != 0) = true := bne_iff_ne.mpr c3; obtain rfl := Option.some.inj H; go_enter Tryd.func14, Tryd.ntmps14; go_wp2
  go_ret; exact ⟨by first | rfl | (simp; done) | (simp [*]; done), dz⟩

/-- Trees that lie somewhere: the cells that lead to them, as a world has them. -/
def borrowK (w0 : World) : Kd (List (S37)) where
 sz := 1
 E := []
 K := fun _ xs cs => ∃ A c, cs = [.slice A xs.length c] ∧ xs.length ≤ c ∧ Kd.C k37 w0 A xs.length xs
 M := fun _ _ _ xs cs => ∃ A c, cs = [.slice A xs.length c] ∧ xs.length ≤ c ∧ Kd.C k37 w0 A xs.length xs
 K_len := by
  rintro w x cs ⟨A, c, rfl, _⟩; rfl
 K_one := by
  rintro w x cs ⟨A, c, rfl, _⟩ u hu; rw [List.mem_singleton.1 hu]; rfl
 K_below := fun _ h => h
 K_of_M := fun h => h
 M_mono := fun _ h => h
 M_bound := fun h => h
 M_move := fun _ h => h
 M_lower := fun _ h => h
theorem borrow_of {w w1 : World} {A : Option Addr} {n : Nat} {xs : List (List (S37))} (h : Kd.C (Kd.slice 37 k37) w A n xs) (hb : Below w.heap.size w w1) : Kd.C (borrowK w) w1 A n xs := Kd.C_below (show Kd.C (borrowK w) w A n xs from h) hb
theorem borrow_back {w0 w : World} {A : Option Addr} {n : Nat} {xs : List (List (S37))} (h : Kd.C (borrowK w0) w A n xs) (hb : Below w0.heap.size w0 w) : Kd.C (Kd.slice 37 k37) w A n xs := by
 obtain ⟨h1, h2, h3⟩ := h; refine ⟨h1, h2, fun h0 => ?_⟩
 obtain ⟨ad, e, hc⟩ := h3 h0; refine ⟨ad, e, fun j q hq => ?_⟩
 obtain ⟨cs, hl, ⟨A1, c1, hcs, hc1, hr1⟩, hcell⟩ := hc j q hq; exact ⟨cs, hl, ⟨A1, c1, hcs, hc1, Kd.C_below hr1 hb⟩, hcell⟩
theorem borrow_one {w0 w : World} {base : Nat} {okp : Nat → Prop} {A : Option Addr} {c : Nat} {xs : List (S37)} (h : Kd.C k37 w0 A xs.length xs) (hc : xs.length ≤ c) : Reps ((borrowK w0).M w base okp) 1 [xs] [.slice A xs.length c] := by
 refine ⟨rfl, fun j p hp => ?_⟩
 match j with
 | 0 =>
  obtain rfl : xs = p := by simpa using hp
  exact ⟨A, c, rfl, hc, h⟩
 | j + 1 => simp at hp
theorem infoRows : (Tryd.prog.info? 25).map (fun i => (i.zero, i.size, i.bytes)) = some (some (.slice none 0 0), 1, 24) := by kernel_rfl
theorem borrow_step {w0 w1 : World} {e base : Nat} {ok : Nat → Prop} {v : Value} {xs : List (List (S37))} (h : Kd.R (borrowK w0) e w1 base ok v xs) (hb : Below w0.heap.size w0 w1) : Aside0 (Below w0.heap.size w0 w1) := ⟨hb⟩
/-- A list of one that is written out: a tree of the call's own. -/
theorem borrow_lit {P : Program} {ops : Array Oper} {rest : List Oper} {o : Oper} {a : Act} {Q : Exit → Act → World → Prop} {w0 W : World} {e0 b0 : Nat} {ok0 : Nat → Prop} {A : Option Addr} {c : Nat} {xs : List (S37)} (HO : Kd.R k37 e0 w0 b0 ok0 (.slice A xs.length c) xs) (e : Nat) (hgd : o.guard = none) {N : Tmp} (hd : o.dst = some N)
  (hrun : (execOp a.eval o).run P W = .ok (.value (.slice (some ⟨W.heap.size, 0, none⟩) 1 1)) (W.alloc (.cells #[.slice A xs.length c] e)))
  (h : ∀ v1 w1, Kd.R (borrowK w0) e w1 W.heap.size (fun _ => True) v1 [xs] → Below W.heap.size W w1 → wpList P ops Q rest (a.put o.dst v1) w1) : wpList P ops Q (o :: rest) a W :=
 Kd.R_lit (borrowK w0) W.heap.size e hgd hd (xs := [xs]) (inner := [.slice A xs.length c]) (ok := fun _ => True) (okp := fun _ => True) hrun (borrow_one (Kd.R_reads' HO).2.2 (Kd.R_reads' HO).2.1) (fun _ hk => hk) trivial (Below.refl _ _) (Nat.le_refl _) (by simp) (fun v1 w1 h1 h2 _ _ => h v1 w1 h1 h2)
/-- Trees that lie somewhere, put behind such of the call's own. -/
theorem borrow_rows {P : Program} {ops : Array Oper} {rest : List Oper} {o : Oper} {a : Act} {Q : Exit → Act → World → Prop} {w0 w' W : World} {e : TypeId} {v : Value} {xs ys : List (List (S37))} (HV : Kd.R (borrowK w0) e W w'.heap.size (fun _ => True) v xs) (HX : Below w'.heap.size w' W) (hgd : o.guard = none) (s x : Operand) (t : TypeId)
  (ho : o.op = .call { callee := .builtin .append, args := #[s, x], argTypes := #[t, t] }) (ht : P.underlying t = some (.slice e)) (hinfo : (P.info? e).map (fun i => (i.zero, i.size, i.bytes)) = some (some (.slice none 0 0), 1, 24)) (A : Option Addr) (m c : Nat) (hs : a.eval s = v) (hx : a.eval x = .slice A m c) (HR : Kd.C (borrowK w0) W A m ys) (hl : xs.length + m ≤ 5000000000000)
  (h : ∀ v1 w1, Kd.R (borrowK w0) e w1 w'.heap.size (fun _ => True) v1 (xs ++ ys) → Below w'.heap.size w' w1 → wpList P ops Q rest (a.put o.dst v1) w1) : wpList P ops Q (o :: rest) a W :=
 Kd.R_append_rows (borrowK w0) w'.heap.size hgd s x t e (.slice none 0 0) 24 ho ht hinfo rfl Nat.zero_lt_one (by omega) v xs ys A m c (fun _ => True) (fun _ => False) hs hx HV HR (fun _ _ h_ => h_) (fun _ hk => hk.elim) (fun _ _ => trivial) HX HX.size (by omega) (fun v1 w1 h1 h2 _ _ => h v1 w1 h1 h2)
/-- A slice that is cut at its own length and capacity. -/
theorem cut_full {P : Program} (t e : TypeId) {i : TypeInfo} (ht : P.underlying t = some (.slice e)) (hi : P.info? e = some i) (A : Option Addr) (n c : Nat) (hc : n ≤ c) :
  ∀ W : World, (Instr.slice t (.slice A n c) none (some (.int .i64 (n : Int))) (some (.int .i64 (n : Int)))).run P W = .ok (.slice A n n) W := by
 intro W; have hel : P.elem t = e := by simp [Program.elem, ht]
 have hu : P.underlying t = some (.slice (P.elem t)) := by rw [hel]; exact ht
 have ha : (A.map fun x => x.add 0) = A := by cases A <;> simp [Addr.add]
 rw [run_slice_hm W t A n c hu .i64 .i64 (n : Int) (n : Int) (by omega) (by omega) (by omega), hel]; simp [sizeOf, typeInfo, hi, sliced, Result.andThen, ha]
theorem borrow_none {w : World} {A : Option Addr} {n : Nat} {xs : List (List (S37))} (h : Kd.C (Kd.slice 37 k37) w A n xs) (e : A = none) : n = 0 := by
 rcases Nat.eq_zero_or_pos n with h0 | h0
 ·exact h0
 ·obtain ⟨ad, h1, _⟩ := h.2.2 h0
  rw [e] at h1; cases h1
/-- One more behind a slice that has no room: a row of the call's own. -/
theorem borrow_append {P : Program} {ops : Array Oper} {rest : List Oper} {o : Oper} {a : Act} {Q : Exit → Act → World → Prop} {w0 W : World} (hgd : o.guard = none) (s x : Operand) (t e : TypeId)
  (ho : o.op = .call { callee := .builtin .append, args := #[s, x], argTypes := #[t, t] }) (ht : P.underlying t = some (.slice e)) (hinfo : (P.info? e).map (fun i => (i.zero, i.size, i.bytes)) = some (some (.slice none 0 0), 1, 24))
  (A : Option Addr) (n : Nat) (xs : List (List (S37))) (A1 : Option Addr) (c : Nat) (y : List (S37)) (hs : a.eval s = .slice A n n) (hx : a.eval x = .slice A1 1 c) (HR : Kd.C (borrowK w0) W A n xs) (HX : Kd.C (borrowK w0) W A1 1 [y]) (h0 : A = none → n = 0) (hl : n ≤ 1000000000)
  (h : ∀ v1 w1, Kd.R (borrowK w0) e w1 W.heap.size (fun _ => True) v1 (xs ++ [y]) → Below W.heap.size W w1 → wpList P ops Q rest (a.put o.dst v1) w1) : wpList P ops Q (o :: rest) a W := by
 obtain ⟨i, hi, hzz⟩ := Option.map_eq_some_iff.1 hinfo; simp only [Prod.mk.injEq] at hzz
 obtain ⟨hz0, hz1, hz2⟩ := hzz; have hn : xs.length = n := HR.1; obtain ⟨ad, rfl, _⟩ := HX.2.2 (by omega); obtain ⟨news, hnr, hnc⟩ := ReadsRow.inner_ HX; have hold : ∃ olds, Reps ((borrowK w0).K W) 1 xs olds ∧ ∀ b, A = some b → ∀ j u, olds[j]? = some u → W.cell? (b.add j) = some u := by
  cases A with
  | none =>
   have hn0 := h0 rfl; have : xs = [] := List.eq_nil_of_length_eq_zero (by omega); rw [this]; exact ⟨[], Reps.none _ _, fun b hb => by cases hb⟩
  | some b =>
   obtain ⟨olds, h1, h2⟩ := ReadsRow.inner_ HR; exact ⟨olds, h1, fun b' hb => by cases hb; exact h2⟩
 obtain ⟨olds, hor, hoc⟩ := hold; have hlo : olds.length = n * 1 := by rw [hor.1, hn]
 have hln : news.length = 1 * 1 := hnr.1; refine wpList_append_grows W hgd s x t ho e i (.slice none 0 0) 1 24 ht hi hz0 hz1 hz2 rfl (by decide) A n n olds hs (fun e => ⟨h0 e, h0 e⟩) hlo hoc ad 1 c news hx hln hnc (fun u hu => ?_) (by omega) (by unfold maxLen; omega) (by omega) (fun v1 w1 hown hg => ?_)
 ·have h1 := hnr.2 0 y rfl
  rw [Nat.zero_mul, List.drop_zero, List.take_of_length_le (show news.length ≤ (borrowK w0).sz from Nat.le_of_eq hln)] at h1; exact (borrowK w0).K_one h1 u hu
 ·refine h v1 w1 ⟨fun _ _ => trivial, olds ++ news, ?_, ?_⟩ ⟨hg.os, hg.tape, hg.output, hg.size, fun k hk => hg.block k hk (by simp)⟩
  ·rw [List.length_append, hn]
   exact hown
  ·exact Kd.reps_append hor hnr

/-- union.Of of trees, one more ahead of them and behind. -/
def union_Bare.f (k : Nat) (p : Int) (a : List (S37)) (l : List (List (S37))) : Option (List (S37) × Int) := if l.length ≤ 1000000000 then union_Of.f k p (a :: (l ++ [a])) else none
theorem union_Bare.mono : ∀ p a l k, LeO (union_Bare.f k p a l) (union_Bare.f (k + 1) p a l) := by
 intro p a l k; unfold union_Bare.f
 by_cases h : l.length ≤ 1000000000
 ·rw [if_pos h, if_pos h]; exact union_Of.mono _ _ k
 ·rw [if_neg h, if_neg h]; exact LeO.refl _
theorem union_Bare.lim {k : Nat} {p : Int} {a : List (S37)} {l : List (List (S37))} {r} (h : union_Bare.f k p a l = some r) : l.length ≤ 1000000000 := by
 unfold union_Bare.f at h
 by_cases hl : l.length ≤ 1000000000
 ·exact hl
 ·rw [if_neg hl] at h; cases h
theorem union_Bare.calls (k : Nat) (p : Int) {w0 w1 : World} {e b : Nat} {ok : Nat → Prop} {v : Value} {xs : List (List (S37))} (_hw : Kd.R (borrowK w0) e w1 b ok v xs) (a : List (S37)) (l : List (List (S37))) (A : Option Addr) (c : Nat) (r1 : List (S37)) (r2 : Int) (w : World) (hB : Below w0.heap.size w0 w) (hr0 : Kd.C (borrowK w0) w A ([a] ++ (l ++ [a])).length ([a] ++ (l ++ [a]))) (hc0 : ([a] ++ (l ++ [a])).length ≤ c) (h : union_Bare.f k p a l = some (r1, r2)) :
  Calls Tryd.prog 9 #[.int .i64 p, .slice A ([a] ++ (l ++ [a])).length c] w fun e w' => ∃ v0_ : Value, e = .returned (.tuple #[v0_, .int .i64 r2]) ∧ Kd.R k37 37 w' w.heap.size (fun _ => True) v0_ r1 ∧ Below w.heap.size w w' := by
 have hl := union_Bare.lim h; unfold union_Bare.f at h
 rw [if_pos hl] at h; exact union_Of.calls k p A c ([a] ++ (l ++ [a])) r1 r2 w (borrow_back hr0 hB) hc0 h

/-- union.Of of a tree, and trees behind it. -/
def union_Cons.f (k : Nat) (p : Int) (a : List (S37)) (l : List (List (S37))) : Option (List (S37) × Int) := if l.length ≤ 1000000000 then union_Of.f k p (a :: l) else none
theorem union_Cons.mono : ∀ p a l k, LeO (union_Cons.f k p a l) (union_Cons.f (k + 1) p a l) := by
 intro p a l k; unfold union_Cons.f
 by_cases h : l.length ≤ 1000000000
 ·rw [if_pos h, if_pos h]; exact union_Of.mono _ _ k
 ·rw [if_neg h, if_neg h]; exact LeO.refl _
theorem union_Cons.lim {k : Nat} {p : Int} {a : List (S37)} {l : List (List (S37))} {r} (h : union_Cons.f k p a l = some r) : l.length ≤ 1000000000 := by
 unfold union_Cons.f at h
 by_cases hl : l.length ≤ 1000000000
 ·exact hl
 ·rw [if_neg hl] at h; cases h
theorem union_Cons.calls (k : Nat) (p : Int) {w0 w1 : World} {e b : Nat} {ok : Nat → Prop} {v : Value} {xs : List (List (S37))} (_hw : Kd.R (borrowK w0) e w1 b ok v xs) (a : List (S37)) (l : List (List (S37))) (A : Option Addr) (c : Nat) (r1 : List (S37)) (r2 : Int) (w : World) (hB : Below w0.heap.size w0 w) (hr0 : Kd.C (borrowK w0) w A ([a] ++ l).length ([a] ++ l)) (hc0 : ([a] ++ l).length ≤ c) (h : union_Cons.f k p a l = some (r1, r2)) :
  Calls Tryd.prog 9 #[.int .i64 p, .slice A ([a] ++ l).length c] w fun e w' => ∃ v0_ : Value, e = .returned (.tuple #[v0_, .int .i64 r2]) ∧ Kd.R k37 37 w' w.heap.size (fun _ => True) v0_ r1 ∧ Below w.heap.size w w' := by
 have hl := union_Cons.lim h; unfold union_Cons.f at h
 rw [if_pos hl] at h; exact union_Of.calls k p A c ([a] ++ l) r1 r2 w (borrow_back hr0 hB) hc0 h

end Go.Proofs.YtiamdmlbhmgnjaaDoor.P
