/- Laid by a program of this session (wip/pr), after the printer of the kit: the functions that a statement reaches as plain Lean functions, and that the calls of the machine come to them. No condition. -/
import Derived.Test.YtiamdmlbhmgnjaaDoorPx0
import Derived.Test.YtiamdmlbhmgnjaaDoorPx1
import Derived.Test.YtiamdmlbhmgnjaaDoorPx11
import Derived.Test.YtiamdmlbhmgnjaaDoorPx14
namespace Go.Proofs.YtiamdmlbhmgnjaaDoor.P
open Go.RowKit Go.Proofs.YtiamdmlbhmgnjaaDoorX Go.Proofs.YtiamdmlbhmgnjaaDoorW.PrintWords Go.Proofs.YtiamdmlbhmgnjaaDoorW.PrintLast Go.Proofs.YtiamdmlbhmgnjaaDoorW.PrintMore
attribute [local go_sem] max2_int min2_int max_two min_two
set_option linter.unusedVariables false
set_option linter.unusedSimpArgs false

attribute [local go_sem high] eqA37
/-- Values as they were laid, one cell each. -/
def rawV : Kd Value where
 sz := 1
 E := []
 K := fun _ x cs => cs = [x] ∧ x.oneCell' = true
 M := fun _ _ _ x cs => cs = [x] ∧ x.oneCell' = true
 K_len := by
  rintro w x cs ⟨rfl, _⟩; rfl
 K_one := by
  rintro w x cs ⟨rfl, h⟩ u hu; rw [List.mem_singleton.1 hu]; exact h
 K_below := fun _ h => h
 K_of_M := fun h => h
 M_mono := fun _ h => h
 M_bound := fun h => ⟨h.1, h.2⟩
 M_move := fun _ h => h
 M_lower := fun _ h => h
theorem rawV_two {w : World} {base : Nat} {okp : Nat → Prop} {a b : Value} (ha : a.oneCell' = true) (hb : b.oneCell' = true) : Reps (rawV.M w base okp) 1 [a, b] [a, b] := by
 refine ⟨rfl, fun j p hp => ?_⟩
 match j with
 | 0 =>
  obtain rfl : a = p := by simpa using hp
  exact ⟨rfl, ha⟩
 | 1 =>
  obtain rfl : b = p := by simpa using hp
  exact ⟨rfl, hb⟩
 | j + 2 => simp at hp
/-- union.Of of two trees that are written out as a list. -/
def union_Two.f (k : Nat) (p : Int) (a b : List (S37)) : Option (List (S37) × Int) := union_Of.f k p [a, b]
theorem union_Two.mono : ∀ p a b k, LeO (union_Two.f k p a b) (union_Two.f (k + 1) p a b) := by
 intro p a b k; unfold union_Two.f
 exact union_Of.mono _ _ k
theorem union_Two.calls (k : Nat) (p : Int) (A1 : Option Addr) (c1 : Nat) (a : List (S37)) (A2 : Option Addr) (c2 : Nat) (b : List (S37)) (r1 : List (S37)) (r2 : Int) (A : Option Addr) (c : Nat) (w : World) (hr0 : Kd.C rawV w A 2 [.slice A1 a.length c1, .slice A2 b.length c2]) (hc0 : 2 ≤ c) (hr1 : Kd.C k37 w A1 a.length a) (hc1 : a.length ≤ c1) (hr2 : Kd.C k37 w A2 b.length b) (hc2 : b.length ≤ c2) (h : union_Two.f k p a b = some (r1, r2)) :
  Calls Tryd.prog 9 #[.int .i64 p, .slice A 2 c] w fun e w' => ∃ v0_ : Value, e = .returned (.tuple #[v0_, .int .i64 r2]) ∧ Kd.R k37 37 w' w.heap.size (fun _ => True) v0_ r1 ∧ Below w.heap.size w w' := by
 refine union_Of.calls k p A c [a, b] r1 r2 w ?_ hc0 h
 obtain ⟨h1, h2, h3⟩ := hr0; refine ⟨h1, h2, fun h0 => ?_⟩
 obtain ⟨ad, e, hc⟩ := h3 h0; refine ⟨ad, e, fun j q hq => ?_⟩
 match j with
 | 0 =>
  obtain ⟨cs, l, ⟨rfl, _⟩, hcell⟩ := hc 0 _ rfl; obtain rfl : a = q := by simpa using hq
  exact ⟨_, l, ⟨A1, c1, rfl, hc1, hr1⟩, hcell⟩
 | 1 =>
  obtain ⟨cs, l, ⟨rfl, _⟩, hcell⟩ := hc 1 _ rfl; obtain rfl : b = q := by simpa using hq
  exact ⟨_, l, ⟨A2, c2, rfl, hc2, hr2⟩, hcell⟩
 | j + 2 => simp at hq

/-! ### hogsheadlaw0_SameNodes: function 11 -/
def hogsheadlaw0_SameNodes.l0 : Nat → List (S37) → List (S37) → Int → Option (Bool)
 | 0, _, _, _ => none
 | k + 1, x0, x1, x5 => if x5 < (x0.length : Int) then (if 0 ≤ x5 then (if x5 < (x1.length : Int) then (if (!((((rd_T37 x0 x5).f0).toList) == (((rd_T37 x1 x5).f0).toList)) || (!(((rd_T37 x0 x5).f1) == ((rd_T37 x1 x5).f1)) || (!((((rd_T37 x0 x5).f2).toList) == (((rd_T37 x1 x5).f2).toList))))) = true then (some false) else (hogsheadlaw0_SameNodes.l0 k x0 x1 (wrap64 (x5 + 1)))) else (none)) else (none)) else (some true)
def hogsheadlaw0_SameNodes.f (k : Nat) (l0 : List (S37)) (l1 : List (S37)) : Option (Bool) := if (l0.length : Int) = (l1.length : Int) then (hogsheadlaw0_SameNodes.l0 k l0 l1 0) else (some false)
theorem hogsheadlaw0_SameNodes.mono_l : ∀ k, (∀ y0 y1 y2, LeO (hogsheadlaw0_SameNodes.l0 k y0 y1 y2) (hogsheadlaw0_SameNodes.l0 (k + 1) y0 y1 y2))
 | 0 => fun _ _ _ r h => by simp [hogsheadlaw0_SameNodes.l0] at h
 | k + 1 => by
  have ih0 := hogsheadlaw0_SameNodes.mono_l k
  ·intro y0 y1 y2
   unfold hogsheadlaw0_SameNodes.l0
   repeat' with_reducible first | exact ih0 _ _ _ | exact LeO.refl _ | exact LeO.none _ | refine LeO.ite ?_ ?_ | refine LeO.bind ?_ (fun _ => ?_)
theorem hogsheadlaw0_SameNodes.mono : ∀ a0 a1 k, LeO (hogsheadlaw0_SameNodes.f k a0 a1) (hogsheadlaw0_SameNodes.f (k + 1) a0 a1) := by
 intro a0 a1 k; have ih0 := hogsheadlaw0_SameNodes.mono_l k; unfold hogsheadlaw0_SameNodes.f
 repeat' with_reducible first | exact ih0 _ _ _ | exact LeO.refl _ | exact LeO.none _ | refine LeO.ite ?_ ?_ | refine LeO.bind ?_ (fun _ => ?_)
set_option maxHeartbeats 8000000 in
set_option maxRecDepth 100000 in
theorem hogsheadlaw0_SameNodes.calls (k : Nat) (A0 : Option Addr) (c0 : Nat) (l0 : List (S37)) (A1 : Option Addr) (c1 : Nat) (l1 : List (S37)) (r : Bool) (w : World) (hr0 : Kd.C k37 w A0 l0.length l0) (hc0 : l0.length ≤ c0) (hr1 : Kd.C k37 w A1 l1.length l1) (hc1 : l1.length ≤ c1) (h : hogsheadlaw0_SameNodes.f k l0 l1 = some r) :
  Calls Tryd.prog 11 #[.slice A0 l0.length c0, .slice A1 l1.length c1] w fun e w' => e = .returned (.bool r) ∧ Drawn0 w w' := by
 have hu37 := Tryd.underlying37; have HR0 := am hr0; have HC0 := am hc0; clear hr0 hc0; have HR1 := am hr1; have HC1 := am hc1; clear hr1 hc1; have H : (if (l0.length : Int) = (l1.length : Int) then (hogsheadlaw0_SameNodes.l0 k l0 l1 0) else (some false)) = some r := h; clear h; by_cases c3 : (l0.length : Int) = (l1.length : Int)
 ·rw [if_pos c3] at H
  have c3b0 : ((l0.length : Int) == (l1.length : Int)) = true := beq_iff_eq.mpr c3; have c3b1 : ((l0.length : Int) != (l1.length : Int)) = false := bne_eq_false_iff_eq.mpr c3; have c3b2 : (l0.length == l1.length) = true := by first | simpa using c3 | (simp at c3 ⊢; omega)
  clear c3; have H' := am H; clear H; go_enter Tryd.func11, Tryd.ntmps11; go_wp2
  repeat (go_quiet (fail); try go_wp2)
  go_loopg [5] k (fun kq v5 w' => ∃ (x5_1 : Int), v5 = .int .i64 x5_1 ∧ Aside0 (hogsheadlaw0_SameNodes.l0 kq l0 l1 x5_1 = some r) ∧ Aside0 (kq ≤ k) ∧ Drawn0 w w')
  case atStart => exact ⟨(0), (by first | rfl | (simp; done) | (simp [*]; done)), H', ⟨Nat.le_refl _⟩, dz⟩
  case round =>
   clear H'; (try clear c1); (try clear p2); (try clear c3); (try clear c3b0); (try clear c3b1); (try clear c3b2); obtain ⟨x5_1, rfl, HA, HK1, ⟨m1, rfl⟩⟩ := hrel; cases gk with
   | zero => exact absurd HA.out (by simp [hogsheadlaw0_SameNodes.l0])
   | succ k1 =>
    have H := HA.out; clear HA; simp only [hogsheadlaw0_SameNodes.l0] at H
    by_cases c4 : x5_1 < (l0.length : Int)
    ·rw [if_pos c4] at H
     have c4b0 : decide (x5_1 < (l0.length : Int)) = true := decide_eq_true c4; clear c4; by_cases c5 : 0 ≤ x5_1
     ·rw [if_pos c5] at H
      have c5b0 : decide (0 ≤ x5_1) = true := decide_eq_true c5; clear c5; by_cases c6 : x5_1 < (l1.length : Int)
      ·rw [if_pos c6] at H
       have c6b0 : decide (x5_1 < (l1.length : Int)) = true := decide_eq_true c6; clear c6; by_cases c7 : (!((((rd_T37 l0 x5_1).f0).toList) == (((rd_T37 l1 x5_1).f0).toList)) || (!(((rd_T37 l0 x5_1).f1) == ((rd_T37 l1 x5_1).f1)) || (!((((rd_T37 l0 x5_1).f2).toList) == (((rd_T37 l1 x5_1).f2).toList))))) = true
       ·rw [if_pos c7] at H
        have c7b0 : (!((((rd_T37 l0 x5_1).f0).toList) == (((rd_T37 l1 x5_1).f0).toList)) || (!(((rd_T37 l0 x5_1).f1) == ((rd_T37 l1 x5_1).f1)) || (!((((rd_T37 l0 x5_1).f2).toList) == (((rd_T37 l1 x5_1).f2).toList))))) = true := c7; clear c7; obtain rfl := Option.some.inj H; have p233 : 0 ≤ (x5_1 : Int) := of_decide_eq_true (by assumption); have q233 : x5_1 < (l0.length : Int) := of_decide_eq_true (by assumption); obtain ⟨ad233, e233, hx233_0, hx233_1, hx233_2⟩ := at_T37 HR0.out x5_1 p233 q233; cases e233; replace p233 := eq_true p233; replace q233 := eq_true q233; have p234 : 0 ≤ (x5_1 : Int) := of_decide_eq_true (by assumption); have q234 : x5_1 < (l1.length : Int) := of_decide_eq_true (by assumption); obtain ⟨ad234, e234, hx234_0, hx234_1, hx234_2⟩ := at_T37 HR1.out x5_1 p234 q234; cases e234; replace p234 := eq_true p234; replace q234 := eq_true q234; go_wp2
        repeat (go_quiet (fail); try go_wp2)
        go_ret; exact ⟨by first | rfl | (simp; done) | (simp [*]; done), dz⟩
       ·rw [if_neg c7] at H
        have c7b0 : (!((((rd_T37 l0 x5_1).f0).toList) == (((rd_T37 l1 x5_1).f0).toList)) || (!(((rd_T37 l0 x5_1).f1) == ((rd_T37 l1 x5_1).f1)) || (!((((rd_T37 l0 x5_1).f2).toList) == (((rd_T37 l1 x5_1).f2).toList))))) = false := by simpa using c7
        clear c7; have H' := am H; clear H; have p233 : 0 ≤ (x5_1 : Int) := of_decide_eq_true (by assumption); have q233 : x5_1 < (l0.length : Int) := of_decide_eq_true (by assumption); obtain ⟨ad233, e233, hx233_0, hx233_1, hx233_2⟩ := at_T37 HR0.out x5_1 p233 q233; cases e233; replace p233 := eq_true p233; replace q233 := eq_true q233; have p234 : 0 ≤ (x5_1 : Int) := of_decide_eq_true (by assumption); have q234 : x5_1 < (l1.length : Int) := of_decide_eq_true (by assumption); obtain ⟨ad234, e234, hx234_0, hx234_1, hx234_2⟩ := at_T37 HR1.out x5_1 p234 q234; cases e234; replace p234 := eq_true p234; replace q234 := eq_true q234; go_wp2
        repeat (go_quiet (fail); try go_wp2)
        go_roundg k1
        case measure => have := HK1.out; omega
        case rel => exact ⟨(wrap64 (x5_1 + 1)), (by first | rfl | (simp; done) | (simp [*]; done)), H', ⟨by have := HK1.out; omega⟩, dz⟩
      ·rw [if_neg c6] at H
       exact absurd H (by simp)
     ·rw [if_neg c5] at H
      exact absurd H (by simp)
    ·rw [if_neg c4] at H
     have c4b0 : decide (x5_1 < (l0.length : Int)) = false := decide_eq_false c4; clear c4; obtain rfl := Option.some.inj H; go_wp2
     repeat (go_quiet (fail); try go_wp2)
     go_ret; exact ⟨by first | rfl | (simp; done) | (simp [*]; done), dz⟩
 ·rw [if_neg c3] at H
  have c3b0 : ((l0.length : Int) == (l1.length : Int)) = false := beq_eq_false_iff_ne.mpr c3; have c3b1 : ((l0.length : Int) != (l1.length : Int)) = true := bne_iff_ne.mpr c3; have c3b2 : (l0.length == l1.length) = false := by first | simpa using c3 | (simp at c3 ⊢; omega)
  obtain rfl := Option.some.inj H; go_enter Tryd.func11, Tryd.ntmps11; go_wp2
  repeat (go_quiet (fail); try go_wp2)
  go_ret; exact ⟨by first | rfl | (simp; done) | (simp [*]; done), dz⟩

/-! ### hogsheadlaw4_awake: function 8 -/
def hogsheadlaw4_awake.f (k : Nat)  : Option (Bool) := (some (([(⟨(⟨#[]⟩ : ByteArray), 1, (⟨#[]⟩ : ByteArray)⟩ : S37), (⟨(⟨#[97]⟩ : ByteArray), 2, (⟨#[49]⟩ : ByteArray)⟩ : S37)] : List (S37)) : List (S37))).bind fun y235 => ((some (([(⟨(⟨#[]⟩ : ByteArray), 1, (⟨#[]⟩ : ByteArray)⟩ : S37), (⟨(⟨#[97]⟩ : ByteArray), 1, (⟨#[]⟩ : ByteArray)⟩ : S37), (⟨(⟨#[97, 47, 98]⟩ : ByteArray), 2, (⟨#[]⟩ : ByteArray)⟩ : S37)] : List (S37)) : List (S37))).bind fun y238 => ((union_Two.f k 1 y235 y238).bind fun bt241 => ((union_Two.f k 0 y235 y238).bind fun bt245 => ((hogsheadlaw0_SameNodes.f k bt241.1 y235).bind fun t249 => (if t249 = true then (if bt241.2 = 0 then (some (bt245.2 == 9)) else (some false)) else (some false))))))
theorem hogsheadlaw4_awake.mono : ∀ k, LeO (hogsheadlaw4_awake.f k ) (hogsheadlaw4_awake.f (k + 1) ) := by
 intro  k; unfold hogsheadlaw4_awake.f
 repeat' with_reducible first | exact union_Two.mono _ _ _ _ | exact hogsheadlaw0_SameNodes.mono _ _ _ | exact LeO.refl _ | exact LeO.none _ | refine LeO.ite ?_ ?_ | refine LeO.bind ?_ (fun _ => ?_)
set_option maxHeartbeats 8000000 in
set_option maxRecDepth 100000 in
theorem hogsheadlaw4_awake.calls (k : Nat)  (r : Bool) (w : World) (h : hogsheadlaw4_awake.f k  = some true) :
  Calls Tryd.prog 8 #[] w fun e w' => e = .returned (.bool true) ∧ Below w.heap.size w w' := by
 have hu37 := Tryd.underlying37; have HB := am (Below.refl w.heap.size w); have H : ((some (([(⟨(⟨#[]⟩ : ByteArray), 1, (⟨#[]⟩ : ByteArray)⟩ : S37), (⟨(⟨#[97]⟩ : ByteArray), 2, (⟨#[49]⟩ : ByteArray)⟩ : S37)] : List (S37)) : List (S37))).bind fun y235 => ((some (([(⟨(⟨#[]⟩ : ByteArray), 1, (⟨#[]⟩ : ByteArray)⟩ : S37), (⟨(⟨#[97]⟩ : ByteArray), 1, (⟨#[]⟩ : ByteArray)⟩ : S37), (⟨(⟨#[97, 47, 98]⟩ : ByteArray), 2, (⟨#[]⟩ : ByteArray)⟩ : S37)] : List (S37)) : List (S37))).bind fun y238 => ((union_Two.f k 1 y235 y238).bind fun bt241 => ((union_Two.f k 0 y235 y238).bind fun bt245 => ((hogsheadlaw0_SameNodes.f k bt241.1 y235).bind fun t249 => (if t249 = true then (if bt241.2 = 0 then (some (bt245.2 == 9)) else (some false)) else (some false))))))) = some true := h; clear h; refine bL H ?_; clear H; intro y235 hy235 H
 have Ny235 := am hy235; clear hy235; refine bL H ?_; clear H; intro y238 hy238 H
 have Ny238 := am hy238; clear hy238; replace H := oB H; obtain ⟨⟨t241, t242⟩, A10, H⟩ := H; replace H : ((union_Two.f k 0 y235 y238).bind fun bt245 => ((hogsheadlaw0_SameNodes.f k t241 y235).bind fun t249 => (if t249 = true then (if t242 = 0 then (some (bt245.2 == 9)) else (some false)) else (some false)))) = some true := H; have A1 := am A10; clear A10; replace H := oB H; obtain ⟨⟨t245, t246⟩, A20, H⟩ := H; replace H : ((hogsheadlaw0_SameNodes.f k t241 y235).bind fun t249 => (if t249 = true then (if t242 = 0 then (some (t246 == 9)) else (some false)) else (some false))) = some true := H; have A2 := am A20; clear A20; refine oR H ?_; clear H; intro t249 A3 H; by_cases c4 : t249 = true
 ·subst c4
  have H1 : (if t242 = 0 then (some (t246 == 9)) else (some false)) = some true := by rw [if_pos rfl] at H; exact H
  clear H; have H := H1; clear H1; by_cases c5 : t242 = 0
  ·rw [if_pos c5] at H
   have c5b0 : (t242 == 0) = true := beq_iff_eq.mpr c5; have c5b1 : (t242 != 0) = false := bne_eq_false_iff_eq.mpr c5; clear c5; have hr_ := Option.some.inj H; go_enter Tryd.func8, Tryd.ntmps8; go_wp2_with (first | ((with_reducible refine gate_dst (N := 9) rfl ?_); refine Kd.R_lit k37 _ 37 ?hg (N := 9) ?hd (xs := ([(⟨(⟨#[]⟩ : ByteArray), 1, (⟨#[]⟩ : ByteArray)⟩ : S37), (⟨(⟨#[97]⟩ : ByteArray), 2, (⟨#[49]⟩ : ByteArray)⟩ : S37)] : List (S37))) (inner := [.string (⟨#[]⟩ : ByteArray), .int .i64 1, .string (⟨#[]⟩ : ByteArray), .string (⟨#[97]⟩ : ByteArray), .int .i64 2, .string (⟨#[49]⟩ : ByteArray)]) (ok := fun _ => True) (okp := fun _ => True) ?hr ?hp (fun _ hk => hk) trivial (Below.refl _ _) (Nat.le_refl _) (by simp) ?_; (case hd => rfl); (case hg => rfl); (case hr => first | (go_simp; done) | (go_simp; rfl)); (case hp => exact (Reps.c3 (show Kd.M k37 _ _ _ (⟨(⟨#[]⟩ : ByteArray), 1, (⟨#[]⟩ : ByteArray)⟩ : S37) [.string (⟨#[]⟩ : ByteArray), .int .i64 1, .string (⟨#[]⟩ : ByteArray)] from (k37_mkM _ _ _ (⟨(⟨#[]⟩ : ByteArray), 1, (⟨#[]⟩ : ByteArray)⟩ : S37) )) (Reps.c3 (show Kd.M k37 _ _ _ (⟨(⟨#[97]⟩ : ByteArray), 2, (⟨#[49]⟩ : ByteArray)⟩ : S37) [.string (⟨#[97]⟩ : ByteArray), .int .i64 2, .string (⟨#[49]⟩ : ByteArray)] from (k37_mkM _ _ _ (⟨(⟨#[97]⟩ : ByteArray), 2, (⟨#[49]⟩ : ByteArray)⟩ : S37) )) (Reps.none _ _)))); intro v236 w6 ho7 hb hg_ hnew_; clear hg_ hnew_; (first | rw [← Ny235.out] at ho7 | (simp only [Int.reduceToNat] at ho7; rw [← Ny235.out] at ho7)); have HO237 := am (Kd.R_lower ho7 siz); replace HB := bs hb; clear hb ho7) | ((with_reducible refine gate_dst (N := 13) rfl ?_); refine Kd.R_lit k37 _ 37 ?hg (N := 13) ?hd (xs := ([(⟨(⟨#[]⟩ : ByteArray), 1, (⟨#[]⟩ : ByteArray)⟩ : S37), (⟨(⟨#[97]⟩ : ByteArray), 1, (⟨#[]⟩ : ByteArray)⟩ : S37), (⟨(⟨#[97, 47, 98]⟩ : ByteArray), 2, (⟨#[]⟩ : ByteArray)⟩ : S37)] : List (S37))) (inner := [.string (⟨#[]⟩ : ByteArray), .int .i64 1, .string (⟨#[]⟩ : ByteArray), .string (⟨#[97]⟩ : ByteArray), .int .i64 1, .string (⟨#[]⟩ : ByteArray), .string (⟨#[97, 47, 98]⟩ : ByteArray), .int .i64 2, .string (⟨#[]⟩ : ByteArray)]) (ok := fun _ => True) (okp := fun _ => True) ?hr ?hp (fun _ hk => hk) trivial (Below.refl _ _) (Nat.le_refl _) (by simp) ?_; (case hd => rfl); (case hg => rfl); (case hr => first | (go_simp; done) | (go_simp; rfl)); (case hp => exact (Reps.c3 (show Kd.M k37 _ _ _ (⟨(⟨#[]⟩ : ByteArray), 1, (⟨#[]⟩ : ByteArray)⟩ : S37) [.string (⟨#[]⟩ : ByteArray), .int .i64 1, .string (⟨#[]⟩ : ByteArray)] from (k37_mkM _ _ _ (⟨(⟨#[]⟩ : ByteArray), 1, (⟨#[]⟩ : ByteArray)⟩ : S37) )) (Reps.c3 (show Kd.M k37 _ _ _ (⟨(⟨#[97]⟩ : ByteArray), 1, (⟨#[]⟩ : ByteArray)⟩ : S37) [.string (⟨#[97]⟩ : ByteArray), .int .i64 1, .string (⟨#[]⟩ : ByteArray)] from (k37_mkM _ _ _ (⟨(⟨#[97]⟩ : ByteArray), 1, (⟨#[]⟩ : ByteArray)⟩ : S37) )) (Reps.c3 (show Kd.M k37 _ _ _ (⟨(⟨#[97, 47, 98]⟩ : ByteArray), 2, (⟨#[]⟩ : ByteArray)⟩ : S37) [.string (⟨#[97, 47, 98]⟩ : ByteArray), .int .i64 2, .string (⟨#[]⟩ : ByteArray)] from (k37_mkM _ _ _ (⟨(⟨#[97, 47, 98]⟩ : ByteArray), 2, (⟨#[]⟩ : ByteArray)⟩ : S37) )) (Reps.none _ _))))); intro v239 w8 ho9 hb hg_ hnew_; clear hg_ hnew_; (first | rw [← Ny238.out] at ho9 | (simp only [Int.reduceToNat] at ho9; rw [← Ny238.out] at ho9)); have HO240 := am (Kd.R_lower (Kd.R_new' ho9 (Kd.R_lt (rz HO237.out))) siz); replace HO237 := am (Kd.R_elder' (rz HO237.out) (Kd.R_base ho9) hb); replace HB := bs hb; clear hb ho9; obtain ⟨Ao10, co10, eo10⟩ := Kd.R_slice HO237.out; subst eo10; obtain ⟨Ao11, co11, eo11⟩ := Kd.R_slice HO240.out; subst eo11) | ((with_reducible refine gate_dst (N := 17) rfl ?_); refine Kd.R_lit rawV _ 25 ?hg (N := 17) ?hd (xs := [.slice Ao10 y235.length co10, .slice Ao11 y238.length co11]) (inner := [.slice Ao10 y235.length co10, .slice Ao11 y238.length co11]) (ok := fun _ => True) (okp := fun _ => True) ?hr ?hp (fun _ hk => hk) trivial (Below.refl _ _) (Nat.le_refl _) (by simp) ?_; (case hd => rfl); (case hg => rfl); (case hr => first | (go_simp; done) | (go_simp; rfl)); (case hp => exact rawV_two rfl rfl); intro v17_ w17_ ho_ hb hg_ hnew_; clear hg_ hnew_; obtain ⟨A17_, c17_, e17_⟩ := Kd.R_slice ho_; subst e17_; have HV17 := am ho_; (try (have n_ := am (Kd.R_below (rz HO237.out) hb); clear HO237; have HO237 := n_; clear n_)); (try (have n_ := am (Kd.R_below (rz HO240.out) hb); clear HO240; have HO240 := n_; clear n_)); (try (have n_ := am (Kd.R_below (rz HO244.out) hb); clear HO244; have HO244 := n_; clear n_)); (try (have n_ := am (Kd.R_below (rz HO248.out) hb); clear HO248; have HO248 := n_; clear n_)); have n_ := bs hb; clear HB; have HB := n_; clear n_; clear hb ho_) | ((with_reducible refine gate_callee (f := 9) rfl ?_); refine gL (some 18) Tryd.func9 #[.int .i64 1, .slice A17_ 2 c17_] ?_; (with_reducible refine (union_Two.calls k 1 Ao10 co10 y235 Ao11 co11 y238 t241 t242 A17_ c17_ _ ?sideV ?sideW ?side1 ?side2 ?side3 ?side4 A1.out).mono ?_); (case sideV => exact cz (Kd.R_reads' HV17.out).2.2); (case sideW => exact (Kd.R_reads' HV17.out).2.1); (case side1 => exact cz (Kd.R_reads' HO237.out).2.2); (case side2 => exact (Kd.R_reads' HO237.out).2.1); (case side3 => exact cz (Kd.R_reads' HO240.out).2.2); (case side4 => exact (Kd.R_reads' HO240.out).2.1); rintro e w12 ⟨v243, rfl, ho0, hb⟩; refine ⟨_, rfl, ?_⟩; have HO244 := am (Kd.R_lower (Kd.R_new' (Kd.R_new' ho0 (Kd.R_lt (rz HO237.out))) (Kd.R_lt (rz HO240.out))) siz); replace HO237 := am (Kd.R_elder' (rz HO237.out) (Kd.R_base ho0) hb); replace HO240 := am (Kd.R_elder' (rz HO240.out) (Kd.R_base ho0) hb); replace HB := bs hb; (try clear ho0)) | ((with_reducible refine gate_dst (N := 24) rfl ?_); refine Kd.R_lit rawV _ 25 ?hg (N := 24) ?hd (xs := [.slice Ao10 y235.length co10, .slice Ao11 y238.length co11]) (inner := [.slice Ao10 y235.length co10, .slice Ao11 y238.length co11]) (ok := fun _ => True) (okp := fun _ => True) ?hr ?hp (fun _ hk => hk) trivial (Below.refl _ _) (Nat.le_refl _) (by simp) ?_; (case hd => rfl); (case hg => rfl); (case hr => first | (go_simp; done) | (go_simp; rfl)); (case hp => exact rawV_two rfl rfl); intro v24_ w24_ ho_ hb hg_ hnew_; clear hg_ hnew_; obtain ⟨A24_, c24_, e24_⟩ := Kd.R_slice ho_; subst e24_; have HV24 := am ho_; (try (have n_ := am (Kd.R_below (rz HO237.out) hb); clear HO237; have HO237 := n_; clear n_)); (try (have n_ := am (Kd.R_below (rz HO240.out) hb); clear HO240; have HO240 := n_; clear n_)); (try (have n_ := am (Kd.R_below (rz HO244.out) hb); clear HO244; have HO244 := n_; clear n_)); (try (have n_ := am (Kd.R_below (rz HO248.out) hb); clear HO248; have HO248 := n_; clear n_)); have n_ := bs hb; clear HB; have HB := n_; clear n_; clear hb ho_) | ((with_reducible refine gate_callee (f := 9) rfl ?_); refine gL (some 25) Tryd.func9 #[.int .i64 0, .slice A24_ 2 c24_] ?_; (with_reducible refine (union_Two.calls k 0 Ao10 co10 y235 Ao11 co11 y238 t245 t246 A24_ c24_ _ ?sideV ?sideW ?side1 ?side2 ?side3 ?side4 A2.out).mono ?_); (case sideV => exact cz (Kd.R_reads' HV24.out).2.2); (case sideW => exact (Kd.R_reads' HV24.out).2.1); (case side1 => exact cz (Kd.R_reads' HO237.out).2.2); (case side2 => exact (Kd.R_reads' HO237.out).2.1); (case side3 => exact cz (Kd.R_reads' HO240.out).2.2); (case side4 => exact (Kd.R_reads' HO240.out).2.1); rintro e w13 ⟨v247, rfl, ho0, hb⟩; refine ⟨_, rfl, ?_⟩; have HO248 := am (Kd.R_lower (Kd.R_new' (Kd.R_new' (Kd.R_new' ho0 (Kd.R_lt (rz HO237.out))) (Kd.R_lt (rz HO240.out))) (Kd.R_lt (rz HO244.out))) siz); replace HO237 := am (Kd.R_elder' (rz HO237.out) (Kd.R_base ho0) hb); replace HO240 := am (Kd.R_elder' (rz HO240.out) (Kd.R_base ho0) hb); replace HO244 := am (Kd.R_elder' (rz HO244.out) (Kd.R_base ho0) hb); replace HB := bs hb; (try clear ho0); obtain ⟨Ao14, co14, eo14⟩ := Kd.R_slice HO244.out; subst eo14) | ((with_reducible refine gate_callee (f := 11) rfl ?_); refine gL (some 30) Tryd.func11 #[.slice Ao14 t241.length co14, .slice Ao10 y235.length co10] ?_; (with_reducible refine (hogsheadlaw0_SameNodes.calls k _ _ t241 _ _ y235 true _ ?side1 ?side2 ?side3 ?side4 A3.out).mono ?_); (case side1 => exact cz (Kd.R_reads' HO244.out).2.2); (case side2 => exact (Kd.R_reads' HO244.out).2.1); (case side3 => exact cz (Kd.R_reads' HO237.out).2.2); (case side4 => exact (Kd.R_reads' HO237.out).2.1); rintro e w' ⟨rfl, ⟨nd, rfl⟩⟩; refine ⟨_, rfl, ?_⟩))
   go_ret; exact ⟨ez, bz⟩
  ·rw [if_neg c5] at H
   exact absurd H (by simp)
 ·replace c4 := Bool.eq_false_iff.mpr c4
  subst c4; have H1 : (some false) = some true := by rw [if_neg (show ¬ (false = true) by decide)] at H; exact H
  exact absurd H1 (by simp)
/-- The first place, from one on, at which a function says so. -/
def idxN (p : S37 → Bool) : List S37 → Nat → Int
 | [], _ => -1
 | x :: l, i => if p x = true then (i : Int) else idxN p l (i + 1)
set_option maxHeartbeats 1000000 in
/-- slices.IndexFunc of nodes, at whatever function value that answers as a plain function and keeps what lay. -/
theorem fn_IndexFuncN (p : S37 → Bool) (g : Nat) (lb : Array Value) (eg : ∀ args w, (callFunc g args).run Tryd.prog w = .ok (.enter g args) w) (A : Option Addr) (n c : Nat) (l : List S37) (w : World) (hr : Kd.C k37 w A n l)
  (hp : ∀ x ∈ l, ∀ W : World, Below w.heap.size w W → Calls Tryd.prog g (#[.agg #[.string x.f0, .int .i64 x.f1, .string x.f2]] ++ lb) W fun e w' => e = .returned (.bool (p x)) ∧ Below W.heap.size W w') :
  Calls Tryd.prog 33 #[.slice A n c, .func (.func g) #[] lb] w fun e w' => e = .returned (.int .i64 (idxN p l 0)) ∧ Below w.heap.size w w' := by
 have hu37 := Tryd.underlying37; have hn : l.length = n := hr.1; have hbig : n ≤ 9223372036854775807 := hr.2.1; have HR := am hr; have HP := am hp; clear hr hp; go_enter Tryd.func33, Tryd.ntmps33; go_wp2
 go_loopg [5, 8] n (fun gg _ s8 wr => ∃ kk : Nat, kk ≤ n ∧ n - kk ≤ gg ∧ s8 = .int .i64 kk ∧ Aside0 (Below w.heap.size w wr) ∧ Aside0 (idxN p l 0 = idxN p (l.drop kk) kk))
 case atStart => exact ⟨0, Nat.zero_le _, by omega, rfl, ⟨Below.refl _ _⟩, ⟨rfl⟩⟩
 case round =>
  obtain ⟨kk, hkk, hg, rfl, HB, AA⟩ := hrel; by_cases hlt : kk < n
  ·have hltz : (kk : Int) < (n : Int) := by omega
   have hl : kk < l.length := by omega
   obtain ⟨ad, e1, hx0, hx1, hx2⟩ := at_T37 (Kd.C_below HR.out HB.out) (kk : Int) (by omega) (by omega); subst e1; rw [Int.toNat_natCast] at hx0 hx1 hx2; have hy0 : rd_T37 l (kk : Int) = l[kk]'hl := by unfold rd_T37; rw [Int.toNat_natCast, List.getD_eq_getElem?_getD, List.getElem?_eq_getElem hl]; rfl
   rw [hy0] at hx0 hx1 hx2; have T : Aside0 (l.drop kk = l[kk]'hl :: l.drop (kk + 1)) := ⟨List.drop_eq_getElem_cons hl⟩; have D : Aside0 (l[kk]'hl ∈ l) := ⟨List.getElem_mem hl⟩; clear hy0; generalize l[kk]'hl = y at hx0 hx1 hx2 T D
   have hcall := fun W h => HP.out y D.out W h
   cases hq : p y with
   | true =>
    simp only [hq] at hcall
    go_wp2_with (go_at_fn g; refine (hcall _ (by repeat (first | exact HB.out | apply bA | apply bN | apply bO))).mono ?_; rintro e w' ⟨rfl, hb⟩; have HB2 := am (below_step (by repeat (first | exact HB.out | apply bA | apply bN | apply bO)) hb); clear hb)
    go_ret; exact ⟨by rw [AA.out, T.out, idxN, if_pos hq]; rfl, by repeat (first | exact HB2.out | apply bA | apply bN | apply bO)⟩
   | false =>
    simp only [hq] at hcall
    go_wp2_with (go_at_fn g; refine (hcall _ (by repeat (first | exact HB.out | apply bA | apply bN | apply bO))).mono ?_; rintro e w' ⟨rfl, hb⟩; have HB2 := am (below_step (by repeat (first | exact HB.out | apply bA | apply bN | apply bO)) hb); clear hb)
    go_roundg (n - (kk + 1))
    case measure => omega
    case rel => exact ⟨kk + 1, by omega, by omega, by go_num, ⟨by repeat (first | exact HB2.out | apply bA | apply bN | apply bO)⟩, ⟨by rw [AA.out, T.out, idxN, if_neg (by rw [hq]; simp)]⟩⟩
  ·have hltz : ¬ (kk : Int) < (n : Int) := by omega
   have : kk = n := by omega
   subst this; go_wp2
   go_ret; exact ⟨by have a := AA.out; rw [List.drop_of_length_le (by omega)] at a; rw [a]; rfl, by repeat (first | exact HB.out | apply bA | apply bN | apply bO)⟩

/-- find.at: where a node stands at a path, in a tree that is one. -/
def find_at.f (k : Nat) (l0 : List S37) (a1 : ByteArray) : Option Int := (tree_May.f k l0).bind fun b => if b = true then some (idxN (fun n => n.f0.toList == a1.toList) l0 0) else some (-1)
theorem find_at.mono : ∀ a0 a1 k, LeO (find_at.f k a0 a1) (find_at.f (k + 1) a0 a1) := by
 intro a0 a1 k; unfold find_at.f
 exact LeO.bind (tree_May.mono a0 k) fun _ => LeO.refl _
set_option maxHeartbeats 1000000 in
theorem find_at1.calls (x0 : ByteArray) (x1 : Int) (x2 : ByteArray) (ad : Addr) (p : ByteArray) (w : World) (hp : w.cell? ad = some (.string p)) :
  Calls Tryd.prog 34 #[.agg #[.string x0, .int .i64 x1, .string x2], .pointer (some ad)] w fun e w' => e = .returned (.bool (x0.toList == p.toList)) ∧ Below w.heap.size w w' := by
 have hu37 := Tryd.underlying37; have HP := am hp; clear hp; go_enter Tryd.func34, Tryd.ntmps34; go_wp2_with ((with_reducible refine gate_dst (N := 2) rfl ?_); refine bx 2 #[.string x0, .int .i64 x1, .string x2] 37 ?_; intro gb hg w9 hbox hb; have BK := am hbox; have HB := am hb; have hc0 : w9.cell? ⟨gb, 0, none⟩ = some (.string x0) := (blk_cell BK.out 0).trans rfl; have hc1 := (HB.out.cell (wB w _ HP.out)).trans HP.out; clear hb hbox hg)
 go_ret; exact ⟨rfl, by repeat (first | exact HB.out | apply bA | apply bN | apply bO)⟩
set_option maxHeartbeats 1000000 in
theorem find_at.calls (k : Nat) (A0 : Option Addr) (c0 : Nat) (l0 : List S37) (a1 : ByteArray) (r : Int) (w : World) (hr0 : Kd.C k37 w A0 l0.length l0) (hc0 : l0.length ≤ c0) (h : find_at.f k l0 a1 = some r) :
  Calls Tryd.prog 25 #[.slice A0 l0.length c0, .string a1] w fun e w' => e = .returned (.int .i64 r) ∧ Below w.heap.size w w' := by
 unfold find_at.f at h
 obtain ⟨b, hb0, h⟩ := oB h; have HR := am hr0; have HC := am hc0; have HM := am hb0; clear hr0 hc0 hb0; have H := am h; clear h; go_enter Tryd.func25, Tryd.ntmps25; cases b with
 | false =>
  have H2 : -1 = r := by have := H.out; simpa using this
  subst H2; go_wp2_with (first | ((with_reducible refine gate_dst (N := 3) rfl ?_); refine bx 3 #[.string a1] 9 ?_; intro gb hg w9 hbox hb; have BK := am hbox; have HB := am hb; clear hb hbox hg) | (go_at_call 15; (with_reducible refine (tree_May.calls k _ _ l0 _ _ ?side1 ?side2 HM.out).mono ?_); (case side1 => exact Kd.C_below HR.out (by repeat (first | exact HB.out | apply bA | apply bN | apply bO))); (case side2 => exact HC.out); rintro e w' ⟨rfl, hb⟩; have HB2 := am (below_step (by repeat (first | exact HB.out | apply bA | apply bN | apply bO)) hb); clear hb))
  go_ret; exact ⟨rfl, by repeat (first | exact HB2.out | apply bA | apply bN | apply bO)⟩
 | true =>
  have H2 : idxN (fun n => n.f0.toList == a1.toList) l0 0 = r := by have := H.out; simpa using this
  subst H2; go_wp2_with (first | ((with_reducible refine gate_dst (N := 3) rfl ?_); refine bx 3 #[.string a1] 9 ?_; intro gb hg w9 hbox hb; have BK := am hbox; have HB := am hb; clear hb hbox hg) | (go_at_call 15; (with_reducible refine (tree_May.calls k _ _ l0 _ _ ?side1 ?side2 HM.out).mono ?_); (case side1 => exact Kd.C_below HR.out (by repeat (first | exact HB.out | apply bA | apply bN | apply bO))); (case side2 => exact HC.out); rintro e w' ⟨rfl, hb⟩; have HB2 := am (below_step (by repeat (first | exact HB.out | apply bA | apply bN | apply bO)) hb); have hcell := (hb.cell (wB _ _ ((blk_cell BK.out 0).trans rfl))).trans ((blk_cell BK.out 0).trans rfl : w9.cell? ⟨gb, 0, none⟩ = some (.string a1)); clear hb) | (go_at_call 33; (refine (fn_IndexFuncN (fun n => n.f0.toList == a1.toList) 34 #[.pointer (some ⟨gb, 0, none⟩)] (enters_of Tryd.func34 (by kernel_rfl) rfl) _ _ _ l0 _ ?side1 ?side2).mono ?_); (case side1 => exact Kd.C_below HR.out (by repeat (first | exact HB2.out | apply bA | apply bN | apply bO))); (case side2 => intro x hx W hW; exact find_at1.calls x.f0 x.f1 x.f2 ⟨gb, 0, none⟩ a1 W ((hW.cell (wB _ _ hcell)).trans hcell)); rintro e w2 ⟨rfl, hb⟩; have HB3 := am (below_step (by repeat (first | exact HB2.out | apply bA | apply bN | apply bO)) hb); clear hb))
  go_ret; exact ⟨rfl, by repeat (first | exact HB3.out | apply bA | apply bN | apply bO)⟩

/-! ### find_Lookup: function 16 -/
def find_Lookup.f (k : Nat) (l0 : List (S37)) (a1 : ByteArray) : Option (ByteArray × Int × ByteArray × Bool) := (find_at.f k l0 a1).bind fun t251 => (if t251 < 0 then (some ((⟨#[]⟩ : ByteArray), 0, (⟨#[]⟩ : ByteArray), false)) else (if 0 ≤ t251 then (if t251 < (l0.length : Int) then (some ((rd_T37 l0 t251).f0, (rd_T37 l0 t251).f1, (rd_T37 l0 t251).f2, true)) else (none)) else (none)))
theorem find_Lookup.mono : ∀ a0 a1 k, LeO (find_Lookup.f k a0 a1) (find_Lookup.f (k + 1) a0 a1) := by
 intro a0 a1 k; unfold find_Lookup.f
 repeat' with_reducible first | exact find_at.mono _ _ _ | exact LeO.refl _ | exact LeO.none _ | refine LeO.ite ?_ ?_ | refine LeO.bind ?_ (fun _ => ?_)
set_option maxHeartbeats 8000000 in
set_option maxRecDepth 100000 in
theorem find_Lookup.calls (k : Nat) (A0 : Option Addr) (c0 : Nat) (l0 : List (S37)) (a1 : ByteArray) (r1 : ByteArray) (r2 : Int) (r3 : ByteArray) (r4 : Bool) (w : World) (hr0 : Kd.C k37 w A0 l0.length l0) (hc0 : l0.length ≤ c0) (h : find_Lookup.f k l0 a1 = some (r1, r2, r3, r4)) :
  Calls Tryd.prog 16 #[.slice A0 l0.length c0, .string a1] w fun e w' => e = .returned (.tuple #[.agg #[.string r1, .int .i64 r2, .string r3], .bool r4]) ∧ Below w.heap.size w w' := by
 have hu37 := Tryd.underlying37; have HR0 := am hr0; have HC0 := am hc0; clear hr0 hc0; have HB := am (Below.refl w.heap.size w); have H : ((find_at.f k l0 a1).bind fun t251 => (if t251 < 0 then (some ((⟨#[]⟩ : ByteArray), 0, (⟨#[]⟩ : ByteArray), false)) else (if 0 ≤ t251 then (if t251 < (l0.length : Int) then (some ((rd_T37 l0 t251).f0, (rd_T37 l0 t251).f1, (rd_T37 l0 t251).f2, true)) else (none)) else (none)))) = some (r1, r2, r3, r4) := h; clear h; refine oR H ?_; clear H; intro t251 A3 H; by_cases c4 : t251 < 0
 ·rw [if_pos c4] at H
  have c4b0 : decide (t251 < 0) = true := decide_eq_true c4; clear c4; simp only [Option.some.injEq, Prod.mk.injEq] at H
  obtain ⟨rfl, rfl, rfl, rfl⟩ := H; go_enter Tryd.func16, Tryd.ntmps16; go_wp2_with (first | ((with_reducible refine gate_dst (N := 4) rfl ?_); refine bx 4 #[.string (⟨#[]⟩ : ByteArray), .int .i64 0, .string (⟨#[]⟩ : ByteArray)] 37 ?_; intro gb250 hg w5 hbox hb; have BK250 := am (hbox); have GW250 := gz hg; have GE250 := gz hg; replace HB := bs hb; clear hb hbox hg) | ((with_reducible refine gate_callee (f := 25) rfl ?_); refine gL (some 9) Tryd.func25 #[.slice A0 l0.length c0, .string a1] ?_; (with_reducible refine (find_at.calls k _ _ l0 a1 t251 _ ?side1 ?side2 A3.out).mono ?_); (case side1 => exact cz (Kd.C_below HR0.out HB.out)); (case side2 => exact HC0.out); rintro e w6 ⟨rfl, hb⟩; refine ⟨_, rfl, ?_⟩; replace BK250 := am (blk_below (g := gb250) (o := .cells #[.string (⟨#[]⟩ : ByteArray), .int .i64 0, .string (⟨#[]⟩ : ByteArray)] 37 (0, 0)) (bk BK250.out) hb); replace HB := bw hb; obtain ⟨hcz7_0, hcz7_1, hcz7_2⟩ := cq3 BK250.out; obtain ⟨hfz7_0, hfz7_1, hfz7_2⟩ := fq3 BK250.out))
  refine bodyPost_ret (results_ct rfl _ _ gb250 37 #[.string (⟨#[]⟩ : ByteArray), .int .i64 0, .string (⟨#[]⟩ : ByteArray)] (0, 0) _ rfl (by (with_reducible repeat (first | refine kN ?_ _ | refine kD ?_ | refine kA ?_ _)); refine blk_put (cs := #[.string (⟨#[]⟩ : ByteArray), .int .i64 0, .string (⟨#[]⟩ : ByteArray)]) ?_ 2 _ rfl; (with_reducible repeat (first | refine kN ?_ _ | refine kD ?_ | refine kA ?_ _)); refine blk_put (cs := #[.string (⟨#[]⟩ : ByteArray), .int .i64 0, .string (⟨#[]⟩ : ByteArray)]) ?_ 1 _ rfl; (with_reducible repeat (first | refine kN ?_ _ | refine kD ?_ | refine kA ?_ _)); refine blk_put (cs := #[.string (⟨#[]⟩ : ByteArray), .int .i64 0, .string (⟨#[]⟩ : ByteArray)]) ?_ 0 _ rfl; (with_reducible repeat (first | refine kN ?_ _ | refine kD ?_ | refine kA ?_ _)); exact BK250.out) Tryd.underlying37 rfl (by kernel_rfl)) rfl ?_
  exact ⟨ez, bq⟩
 ·rw [if_neg c4] at H
  have c4b0 : decide (t251 < 0) = false := decide_eq_false c4; clear c4; by_cases c8 : 0 ≤ t251
  ·rw [if_pos c8] at H
   have c8b0 : decide (0 ≤ t251) = true := decide_eq_true c8; clear c8; by_cases c9 : t251 < (l0.length : Int)
   ·rw [if_pos c9] at H
    have c9b0 : decide (t251 < (l0.length : Int)) = true := decide_eq_true c9; clear c9; simp only [Option.some.injEq, Prod.mk.injEq] at H
    obtain ⟨rfl, rfl, rfl, rfl⟩ := H; go_enter Tryd.func16, Tryd.ntmps16; go_wp2_with (first | ((with_reducible refine gate_dst (N := 4) rfl ?_); refine bx 4 #[.string (⟨#[]⟩ : ByteArray), .int .i64 0, .string (⟨#[]⟩ : ByteArray)] 37 ?_; intro gb250 hg w10 hbox hb; have BK250 := am (hbox); have GW250 := gz hg; have GE250 := gz hg; replace HB := bs hb; clear hb hbox hg) | ((with_reducible refine gate_callee (f := 25) rfl ?_); refine gL (some 9) Tryd.func25 #[.slice A0 l0.length c0, .string a1] ?_; (with_reducible refine (find_at.calls k _ _ l0 a1 t251 _ ?side1 ?side2 A3.out).mono ?_); (case side1 => exact cz (Kd.C_below HR0.out HB.out)); (case side2 => exact HC0.out); rintro e w11 ⟨rfl, hb⟩; refine ⟨_, rfl, ?_⟩; replace BK250 := am (blk_below (g := gb250) (o := .cells #[.string (⟨#[]⟩ : ByteArray), .int .i64 0, .string (⟨#[]⟩ : ByteArray)] 37 (0, 0)) (bk BK250.out) hb); replace HB := bw hb; have p252 : 0 ≤ (t251 : Int) := of_decide_eq_true (by assumption); have q252 : t251 < (l0.length : Int) := of_decide_eq_true (by assumption); obtain ⟨ad252, e252, hx252_0, hx252_1, hx252_2⟩ := at_T37 HR0.out t251 p252 q252; cases e252; replace hx252_0 := (HB.out.cell (wB w _ hx252_0)).trans hx252_0; replace hx252_1 := (HB.out.cell (wB w _ hx252_1)).trans hx252_1; replace hx252_2 := (HB.out.cell (wB w _ hx252_2)).trans hx252_2; replace p252 := eq_true p252; replace q252 := eq_true q252; obtain ⟨hcz12_0, hcz12_1, hcz12_2⟩ := cq3 BK250.out; obtain ⟨hfz12_0, hfz12_1, hfz12_2⟩ := fq3 BK250.out))
    refine bodyPost_ret (results_ct rfl _ _ gb250 37 #[.string ((rd_T37 l0 t251).f0), .int .i64 ((rd_T37 l0 t251).f1), .string ((rd_T37 l0 t251).f2)] (0, 0) _ rfl (by (with_reducible repeat (first | refine kN ?_ _ | refine kD ?_ | refine kA ?_ _)); refine blk_put (cs := #[.string ((rd_T37 l0 t251).f0), .int .i64 ((rd_T37 l0 t251).f1), .string (⟨#[]⟩ : ByteArray)]) ?_ 2 _ rfl; (with_reducible repeat (first | refine kN ?_ _ | refine kD ?_ | refine kA ?_ _)); refine blk_put (cs := #[.string ((rd_T37 l0 t251).f0), .int .i64 0, .string (⟨#[]⟩ : ByteArray)]) ?_ 1 _ rfl; (with_reducible repeat (first | refine kN ?_ _ | refine kD ?_ | refine kA ?_ _)); refine blk_put (cs := #[.string (⟨#[]⟩ : ByteArray), .int .i64 0, .string (⟨#[]⟩ : ByteArray)]) ?_ 0 _ rfl; (with_reducible repeat (first | refine kN ?_ _ | refine kD ?_ | refine kA ?_ _)); exact BK250.out) Tryd.underlying37 rfl (by kernel_rfl)) rfl ?_
    exact ⟨ez, bq⟩
   ·rw [if_neg c9] at H
    exact absurd H (by simp)
  ·rw [if_neg c8] at H
   exact absurd H (by simp)

def pickT (ts : List (List (S37))) (i : Int) : List (S37) := ts.getD i.toNat []
/-- Trees of what came in, by their numbers: the cells that lead to them, at the call's begin. -/
def pickK (w0 : World) (ts : List (List (S37))) : Kd Int where
 sz := 1
 E := []
 K := fun _ x cs => ∃ A c, cs = [.slice A (pickT ts x).length c] ∧ (pickT ts x).length ≤ c ∧ Kd.C k37 w0 A (pickT ts x).length (pickT ts x)
 M := fun _ _ _ x cs => ∃ A c, cs = [.slice A (pickT ts x).length c] ∧ (pickT ts x).length ≤ c ∧ Kd.C k37 w0 A (pickT ts x).length (pickT ts x)
 K_len := by
  rintro w x cs ⟨A, c, rfl, _⟩; rfl
 K_one := by
  rintro w x cs ⟨A, c, rfl, _⟩ u hu; rw [List.mem_singleton.1 hu]; rfl
 K_below := fun _ h => h
 K_of_M := fun h => h
 M_mono := fun _ h => h
 M_bound := fun h => h
 M_move := fun _ h => h
 M_lower := fun _ h => h
theorem infoRows : (Tryd.prog.info? 25).map (fun i => (i.zero, i.size, i.bytes)) = some (some (.slice none 0 0), 1, 24) := by kernel_rfl
/-- union.Of of trees that are picked, by their numbers, of what came in. -/
def union_Rev.f (k : Nat) (p : Int) (ts : List (List (S37))) (l : List Int) : Option (List (S37) × Int) := union_Of.f k p (l.map (pickT ts))
theorem union_Rev.mono : ∀ p ts l k, LeO (union_Rev.f k p ts l) (union_Rev.f (k + 1) p ts l) := by
 intro p ts l k; unfold union_Rev.f
 exact union_Of.mono _ _ k
theorem union_Rev.calls (k : Nat) (p : Int) {w0 : World} (ts : List (List (S37))) (A : Option Addr) (c : Nat) (l : List Int) (r1 : List (S37)) (r2 : Int) (w : World) (hB : Below w0.heap.size w0 w) (hr0 : Kd.C (pickK w0 ts) w A l.length l) (hc0 : l.length ≤ c) (h : union_Rev.f k p ts l = some (r1, r2)) :
  Calls Tryd.prog 9 #[.int .i64 p, .slice A l.length c] w fun e w' => ∃ v0_ : Value, e = .returned (.tuple #[v0_, .int .i64 r2]) ∧ Kd.R k37 37 w' w.heap.size (fun _ => True) v0_ r1 ∧ Below w.heap.size w w' := by
 have hr : Kd.C (Kd.slice 37 k37) w A (l.map (pickT ts)).length (l.map (pickT ts)) := by
  obtain ⟨h1, h2, h3⟩ := hr0; rw [List.length_map]; refine ⟨by rw [List.length_map], h2, fun h0 => ?_⟩
  obtain ⟨ad, e, hc⟩ := h3 h0; refine ⟨ad, e, fun j q hq => ?_⟩
  rw [List.getElem?_map, Option.map_eq_some_iff] at hq; obtain ⟨x, hx, rfl⟩ := hq; obtain ⟨cs, hl, ⟨A1, c1, hcs, hc1, hr1⟩, hcell⟩ := hc j x hx; exact ⟨cs, hl, ⟨A1, c1, hcs, hc1, Kd.C_below hr1 hB⟩, hcell⟩
 have := union_Of.calls k p A c (l.map (pickT ts)) r1 r2 w hr (by rw [List.length_map]; exact hc0) h; rw [List.length_map] at this; exact this

end Go.Proofs.YtiamdmlbhmgnjaaDoor.P
