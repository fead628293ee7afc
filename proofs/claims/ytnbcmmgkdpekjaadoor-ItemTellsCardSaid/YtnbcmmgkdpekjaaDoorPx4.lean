/- Laid by a program of this session (wip/pr), after the printer of the kit: the functions that a statement reaches as plain Lean functions, and that the calls of the machine come to them. No condition. -/
import Derived.Test.YtnbcmmgkdpekjaaDoorPx0
import Derived.Test.YtnbcmmgkdpekjaaDoorPx3
namespace Go.Proofs.YtnbcmmgkdpekjaaDoor.P
open Go.RowKit Go.Proofs.YtnbcmmgkdpekjaaDoorX Go.Proofs.YtnbcmmgkdpekjaaDoorW.PrintWords Go.Proofs.YtnbcmmgkdpekjaaDoorW.PrintLast Go.Proofs.YtnbcmmgkdpekjaaDoorW.PrintMore
attribute [local go_sem] max2_int min2_int max_two min_two
set_option linter.unusedVariables false
set_option linter.unusedSimpArgs false

/-- What a literal's elements stand for: their cells as they were laid, no more. -/
def rawK (f : ByteArray → List Value) : Kd ByteArray where
 sz := 3
 E := []
 K := fun _ x cs => cs = f x ∧ cs.length = 3 ∧ ∀ u ∈ cs, u.oneCell' = true
 M := fun _ _ _ x cs => cs = f x ∧ cs.length = 3 ∧ ∀ u ∈ cs, u.oneCell' = true
 K_len := fun h => h.2.1
 K_one := fun h => h.2.2
 K_below := fun _ h => h
 K_of_M := fun h => h
 M_mono := fun _ h => h
 M_bound := fun h => ⟨h.1, h.2.1, h.2.2⟩
 M_move := fun _ h => h
 M_lower := fun _ h => h
theorem raw_one {w : World} {base : Nat} {okp : Nat → Prop} {x : ByteArray} {a b c : Value} (ha : a.oneCell' = true) (hb : b.oneCell' = true) (hc : c.oneCell' = true) : Reps ((rawK fun _ => [a, b, c]).M w base okp) 3 [x] [a, b, c] := by
 refine ⟨rfl, fun j p hp => ?_⟩
 cases j with
 | zero =>
  refine ⟨rfl, rfl, fun u hu => ?_⟩
  rcases List.mem_cons.1 hu with rfl | hu
  ·exact ha
  rcases List.mem_cons.1 hu with rfl | hu
  ·exact hb
  rcases List.mem_cons.1 hu with rfl | hu
  ·exact hc
  ·cases hu
 | succ j => simp at hp
theorem R_one {α : Type} {d : Kd α} {e : Nat} {w : World} {base : Nat} {ok : Nat → Prop} {v : Value} {xs : List α} (h : Kd.R d e w base ok v xs) : v.oneCell' = true := by
 obtain ⟨A, c, rfl, _⟩ := Kd.R_reads h; rfl
theorem raw_item {w : World} {A : Option Addr} {n : Nat} {x : ByteArray} {f : ByteArray → List Value} {y : S34} (h : Kd.C (rawK f) w A n [x]) (hk : k34.K w y (f x)) : Kd.C k34 w A n [y] := by
 obtain ⟨h1, h2, h3⟩ := h; refine ⟨h1, h2, fun h0 => ?_⟩
 obtain ⟨ad, e, hc⟩ := h3 h0; refine ⟨ad, e, fun j p hp => ?_⟩
 cases j with
 | zero =>
  obtain ⟨c, l, ⟨rfl, _, _⟩, hcell⟩ := hc 0 x rfl; obtain rfl : y = p := by simpa using hp
  exact ⟨_, l, hk, hcell⟩
 | succ j => simp at hp
/-- Are two items, each in a list of its own, the same? (The lists are told beside them.) -/
def item_LitSame.f (k : Nat) (a0_0 : ByteArray) (l0_1 : List ByteArray) (l0_2 : List S45) (_ : List ByteArray) (a1_0 : ByteArray) (l1_1 : List ByteArray) (l1_2 : List S45) (_ : List ByteArray) : Option Bool := hogsheadlaw0_SameItems.f k ([⟨a0_0, l0_1, l0_2⟩] : List S34) ([⟨a1_0, l1_1, l1_2⟩] : List S34)
theorem item_LitSame.mono : ∀ a0_0 l0_1 l0_2 l1 a1_0 l1_1 l1_2 l3 k, LeO (item_LitSame.f k a0_0 l0_1 l0_2 l1 a1_0 l1_1 l1_2 l3) (item_LitSame.f (k + 1) a0_0 l0_1 l0_2 l1 a1_0 l1_1 l1_2 l3) := fun _ _ _ _ _ _ _ _ k => hogsheadlaw0_SameItems.mono _ _ k
theorem item_LitSame.calls (k : Nat) (a0_0 : ByteArray) (A0_1 : Option Addr) (c0_1 : Nat) (l0_1 : List ByteArray) (A0_2 : Option Addr) (c0_2 : Nat) (l0_2 : List S45) (A1 : Option Addr) (c1 : Nat) (l1 : List ByteArray) (a2_0 : ByteArray) (A2_1 : Option Addr) (c2_1 : Nat) (l2_1 : List ByteArray) (A2_2 : Option Addr) (c2_2 : Nat) (l2_2 : List S45) (A3 : Option Addr) (c3 : Nat) (l3 : List ByteArray) (r : Bool) (w : World)
  (hr0_1 : Kd.C Kd.string w A0_1 l0_1.length l0_1) (hc0_1 : l0_1.length ≤ c0_1) (hr0_2 : Kd.C k45 w A0_2 l0_2.length l0_2) (hc0_2 : l0_2.length ≤ c0_2)
  (hr1 : Kd.C (rawK fun _ => [.string a0_0, .slice A0_1 l0_1.length c0_1, .slice A0_2 l0_2.length c0_2]) w A1 l1.length l1) (hc1 : l1.length ≤ c1)
  (hr2_1 : Kd.C Kd.string w A2_1 l2_1.length l2_1) (hc2_1 : l2_1.length ≤ c2_1) (hr2_2 : Kd.C k45 w A2_2 l2_2.length l2_2) (hc2_2 : l2_2.length ≤ c2_2)
  (hr3 : Kd.C (rawK fun _ => [.string a2_0, .slice A2_1 l2_1.length c2_1, .slice A2_2 l2_2.length c2_2]) w A3 l3.length l3) (hc3 : l3.length ≤ c3)
  (h : item_LitSame.f k a0_0 l0_1 l0_2 l1 a2_0 l2_1 l2_2 l3 = some r)
  (e1 : l1 = ([(⟨#[]⟩ : ByteArray)] : List ByteArray) := by exact Aside0.out (by assumption)) (e3 : l3 = ([(⟨#[]⟩ : ByteArray)] : List ByteArray) := by exact Aside0.out (by assumption)) :
  Calls Tryd.prog 13 #[.slice A1 l1.length c1, .slice A3 l3.length c3] w fun e w' => e = .returned (.bool r) ∧ Below w.heap.size w w' := by
 subst e1; subst e3; exact hogsheadlaw0_SameItems.calls k A1 c1 [⟨a0_0, l0_1, l0_2⟩] A3 c3 [⟨a2_0, l2_1, l2_2⟩] r w (raw_item hr1 (k34_mk w ⟨a0_0, l0_1, l0_2⟩ hc0_1 hr0_1 hc0_2 hr0_2)) hc1 (raw_item hr3 (k34_mk w ⟨a2_0, l2_1, l2_2⟩ hc2_1 hr2_1 hc2_2 hr2_2)) hc3 h

/-! ### hogsheadlaw0_GreatTexts: function 26 -/
mutual
def hogsheadlaw0_GreatTexts.l0 : Nat → List ByteArray → Int → Int → Int → Option (Bool)
 | 0, _, _, _, _ => none
 | k + 1, x0, x1, x2, x7 => if x7 < (x0.length : Int) then (hogsheadlaw0_GreatTexts.j1 k x0 x1 x2 x7 (decide ((x0.length : Int) ≤ x1))) else (hogsheadlaw0_GreatTexts.j1 k x0 x1 x2 x7 false)
def hogsheadlaw0_GreatTexts.j1 : Nat → List ByteArray → Int → Int → Int → Bool → Option (Bool)
 | 0, _, _, _, _, _ => none
 | k + 1, x0, x1, x2, x7, x17 => if x17 = true then (if 0 ≤ x7 then (if x7 < (x0.length : Int) then (if ((rdOf ByteArray.empty x0 x7).size : Int) > x2 then (some true) else (hogsheadlaw0_GreatTexts.l0 k x0 x1 x2 (wrap64 (x7 + 1)))) else (none)) else (none)) else (some (decide ((x0.length : Int) > x1)))
end
def hogsheadlaw0_GreatTexts.f (k : Nat) (l0 : List ByteArray) (a1 : Int) (a2 : Int) : Option (Bool) := hogsheadlaw0_GreatTexts.l0 k l0 a1 a2 0
theorem hogsheadlaw0_GreatTexts.mono_l : ∀ k, (∀ y0 y1 y2 y3, LeO (hogsheadlaw0_GreatTexts.l0 k y0 y1 y2 y3) (hogsheadlaw0_GreatTexts.l0 (k + 1) y0 y1 y2 y3)) ∧ (∀ y0 y1 y2 y3 y4, LeO (hogsheadlaw0_GreatTexts.j1 k y0 y1 y2 y3 y4) (hogsheadlaw0_GreatTexts.j1 (k + 1) y0 y1 y2 y3 y4))
 | 0 => ⟨fun _ _ _ _ r h => by simp [hogsheadlaw0_GreatTexts.l0] at h, fun _ _ _ _ _ r h => by simp [hogsheadlaw0_GreatTexts.j1] at h⟩
 | k + 1 => by
  obtain ⟨ih0, ih1⟩ := hogsheadlaw0_GreatTexts.mono_l k; refine ⟨?_, ?_⟩
  ·intro y0 y1 y2 y3
   unfold hogsheadlaw0_GreatTexts.l0
   repeat' with_reducible first | exact ih0 _ _ _ _ | exact ih1 _ _ _ _ _ | exact LeO.refl _ | exact LeO.none _ | refine LeO.ite ?_ ?_ | refine LeO.bind ?_ (fun _ => ?_)
  ·intro y0 y1 y2 y3 y4
   unfold hogsheadlaw0_GreatTexts.j1
   repeat' with_reducible first | exact ih0 _ _ _ _ | exact ih1 _ _ _ _ _ | exact LeO.refl _ | exact LeO.none _ | refine LeO.ite ?_ ?_ | refine LeO.bind ?_ (fun _ => ?_)
theorem hogsheadlaw0_GreatTexts.mono : ∀ a0 a1 a2 k, LeO (hogsheadlaw0_GreatTexts.f k a0 a1 a2) (hogsheadlaw0_GreatTexts.f (k + 1) a0 a1 a2) := by
 intro a0 a1 a2 k; obtain ⟨ih0, ih1⟩ := hogsheadlaw0_GreatTexts.mono_l k; unfold hogsheadlaw0_GreatTexts.f
 repeat' with_reducible first | exact ih0 _ _ _ _ | exact ih1 _ _ _ _ _ | exact LeO.refl _ | exact LeO.none _ | refine LeO.ite ?_ ?_ | refine LeO.bind ?_ (fun _ => ?_)
set_option maxHeartbeats 8000000 in
set_option maxRecDepth 100000 in
theorem hogsheadlaw0_GreatTexts.calls (k : Nat) (A0 : Option Addr) (c0 : Nat) (l0 : List ByteArray) (a1 : Int) (a2 : Int) (r : Bool) (w : World) (hr0 : Kd.C Kd.string w A0 l0.length l0) (hc0 : l0.length ≤ c0) (h : hogsheadlaw0_GreatTexts.f k l0 a1 a2 = some r) :
  Calls Tryd.prog 26 #[.slice A0 l0.length c0, .int .i64 a1, .int .i64 a2] w fun e w' => e = .returned (.bool r) ∧ Drawn0 w w' := by
 have HR0 := am hr0; have HC0 := am hc0; clear hr0 hc0; have H : (hogsheadlaw0_GreatTexts.l0 k l0 a1 a2 0) = some r := h; clear h; have H' := am H; clear H; go_enter Tryd.func26, Tryd.ntmps26; go_wp2
 go_loopg [7] k (fun kq v7 w' => ∃ (x7_1 : Int), v7 = .int .i64 x7_1 ∧ Aside0 (hogsheadlaw0_GreatTexts.l0 kq l0 a1 a2 x7_1 = some r) ∧ Aside0 (kq ≤ k) ∧ Drawn0 w w')
 case atStart => exact ⟨(0), (by first | rfl | (simp; done) | (simp [*]; done)), H', ⟨Nat.le_refl _⟩, dz⟩
 case round =>
  clear H'; (try clear c2); (try clear p2); obtain ⟨x7_1, rfl, HA, HK1, ⟨m1, rfl⟩⟩ := hrel; cases gk with
  | zero => exact absurd HA.out (by simp [hogsheadlaw0_GreatTexts.l0])
  | succ k1 =>
   have H := HA.out; clear HA; simp only [hogsheadlaw0_GreatTexts.l0] at H
   have HC4 := am H; clear H; go_upto_region 2 with (fail)
   go_cut [17] (fun v17 wc => ∃ (kq : Nat) (x17_3 : Bool), v17 = .bool x17_3 ∧ Aside0 (hogsheadlaw0_GreatTexts.j1 kq l0 a1 a2 x7_1 x17_3 = some r) ∧ Aside0 (kq ≤ k1) ∧ Drawn0 w wc)
   case first =>
    have H := HC4.out; clear HC4; by_cases c5 : x7_1 < (l0.length : Int)
    ·rw [if_pos c5] at H
     have c5b0 : decide (x7_1 < (l0.length : Int)) = true := decide_eq_true c5; clear c5; (first | rw [c5b0] | (simp only [i64_w, i32_w]; rw [c5b0]) | skip)
     have H' := am H; clear H; go_wp2
     go_meet; case rel => exact ⟨_, (decide ((l0.length : Int) ≤ a1)), (by first | rfl | (simp; done) | (simp [*]; done)), H', ⟨by have := HK1.out; first | omega | exact Nat.le_refl _⟩, dz⟩
    ·rw [if_neg c5] at H
     have c5b0 : decide (x7_1 < (l0.length : Int)) = false := decide_eq_false c5; clear c5; (first | rw [c5b0] | (simp only [i64_w, i32_w]; rw [c5b0]) | skip)
     have H' := am H; clear H; go_wp2
     go_meet; case rel => exact ⟨_, (false), (by first | rfl | (simp; done) | (simp [*]; done)), H', ⟨by have := HK1.out; first | omega | exact Nat.le_refl _⟩, dz⟩
   case rest =>
    clear HC4; (try clear c2); (try clear p2); (try clear c5); (try clear c5b0); (try clear p2); obtain ⟨kq, x17_3, rfl, HA, HJ3, ⟨mc3, rfl⟩⟩ := hcut; cases kq with
    | zero => exact absurd HA.out (by simp [hogsheadlaw0_GreatTexts.j1])
    | succ kj3 =>
     have H := HA.out; clear HA; simp only [hogsheadlaw0_GreatTexts.j1] at H
     by_cases c6 : x17_3 = true
     ·subst c6
      have H1 : (if 0 ≤ x7_1 then (if x7_1 < (l0.length : Int) then (if ((rdOf ByteArray.empty l0 x7_1).size : Int) > a2 then (some true) else (hogsheadlaw0_GreatTexts.l0 kj3 l0 a1 a2 (wrap64 (x7_1 + 1)))) else (none)) else (none)) = some r := by rw [if_pos rfl] at H; exact H
      clear H; have H := H1; clear H1; by_cases c7 : 0 ≤ x7_1
      ·rw [if_pos c7] at H
       have c7b0 : decide (0 ≤ x7_1) = true := decide_eq_true c7; clear c7; by_cases c8 : x7_1 < (l0.length : Int)
       ·rw [if_pos c8] at H
        have c8b0 : decide (x7_1 < (l0.length : Int)) = true := decide_eq_true c8; clear c8; by_cases c9 : ((rdOf ByteArray.empty l0 x7_1).size : Int) > a2
        ·rw [if_pos c9] at H
         have c9b0 : decide (a2 < ((rdOf ByteArray.empty l0 x7_1).size : Int)) = true := decide_eq_true c9; clear c9; obtain rfl := Option.some.inj H; have p113 : 0 ≤ (x7_1 : Int) := of_decide_eq_true (by assumption); have q113 : x7_1 < (l0.length : Int) := of_decide_eq_true (by assumption); obtain ⟨ad113, e113, hx113_0⟩ := Kd.at_string HR0.out x7_1 p113 q113; cases e113; replace p113 := eq_true p113; replace q113 := eq_true q113; go_wp2
         go_ret; exact ⟨by first | rfl | (simp; done) | (simp [*]; done), dz⟩
        ·rw [if_neg c9] at H
         have c9b0 : decide (a2 < ((rdOf ByteArray.empty l0 x7_1).size : Int)) = false := decide_eq_false c9; clear c9; have H' := am H; clear H; have p113 : 0 ≤ (x7_1 : Int) := of_decide_eq_true (by assumption); have q113 : x7_1 < (l0.length : Int) := of_decide_eq_true (by assumption); obtain ⟨ad113, e113, hx113_0⟩ := Kd.at_string HR0.out x7_1 p113 q113; cases e113; replace p113 := eq_true p113; replace q113 := eq_true q113; go_wp2
         go_roundg kj3
         case measure => have := HK1.out; have := HJ3.out; omega
         case rel => exact ⟨(wrap64 (x7_1 + 1)), (by first | rfl | (simp; done) | (simp [*]; done)), H', ⟨by have := HK1.out; have := HJ3.out; omega⟩, dz⟩
       ·rw [if_neg c8] at H
        exact absurd H (by simp)
      ·rw [if_neg c7] at H
       exact absurd H (by simp)
     ·replace c6 := Bool.eq_false_iff.mpr c6
      subst c6; have H1 : (some (decide ((l0.length : Int) > a1))) = some r := by rw [if_neg (show ¬ (false = true) by decide)] at H; exact H
      clear H; have H := H1; clear H1; obtain rfl := Option.some.inj H; go_wp2
      go_ret; exact ⟨by first | rfl | (simp; done) | (simp [*]; done), dz⟩

/-! ### hogsheadlaw0_GreatNodes: function 27 -/
mutual
def hogsheadlaw0_GreatNodes.l0 : Nat → List (S45) → Int → Int → Option (Bool)
 | 0, _, _, _ => none
 | k + 1, x0, x1, x5 => if x5 < (x0.length : Int) then (hogsheadlaw0_GreatNodes.j1 k x0 x1 x5 (decide ((x0.length : Int) ≤ x1))) else (hogsheadlaw0_GreatNodes.j1 k x0 x1 x5 false)
def hogsheadlaw0_GreatNodes.j1 : Nat → List (S45) → Int → Int → Bool → Option (Bool)
 | 0, _, _, _, _ => none
 | k + 1, x0, x1, x5, x15 => if x15 = true then (if 0 ≤ x5 then (if x5 < (x0.length : Int) then (if (((rd_T45 x0 x5).f0).size : Int) > 300 then (some true) else (if (((rd_T45 x0 x5).f2).size : Int) > 500 then (some true) else (hogsheadlaw0_GreatNodes.l0 k x0 x1 (wrap64 (x5 + 1))))) else (none)) else (none)) else (some (decide ((x0.length : Int) > x1)))
end
def hogsheadlaw0_GreatNodes.f (k : Nat) (l0 : List (S45)) (a1 : Int) : Option (Bool) := hogsheadlaw0_GreatNodes.l0 k l0 a1 0
theorem hogsheadlaw0_GreatNodes.mono_l : ∀ k, (∀ y0 y1 y2, LeO (hogsheadlaw0_GreatNodes.l0 k y0 y1 y2) (hogsheadlaw0_GreatNodes.l0 (k + 1) y0 y1 y2)) ∧ (∀ y0 y1 y2 y3, LeO (hogsheadlaw0_GreatNodes.j1 k y0 y1 y2 y3) (hogsheadlaw0_GreatNodes.j1 (k + 1) y0 y1 y2 y3))
 | 0 => ⟨fun _ _ _ r h => by simp [hogsheadlaw0_GreatNodes.l0] at h, fun _ _ _ _ r h => by simp [hogsheadlaw0_GreatNodes.j1] at h⟩
 | k + 1 => by
  obtain ⟨ih0, ih1⟩ := hogsheadlaw0_GreatNodes.mono_l k; refine ⟨?_, ?_⟩
  ·intro y0 y1 y2
   unfold hogsheadlaw0_GreatNodes.l0
   repeat' with_reducible first | exact ih0 _ _ _ | exact ih1 _ _ _ _ | exact LeO.refl _ | exact LeO.none _ | refine LeO.ite ?_ ?_ | refine LeO.bind ?_ (fun _ => ?_)
  ·intro y0 y1 y2 y3
   unfold hogsheadlaw0_GreatNodes.j1
   repeat' with_reducible first | exact ih0 _ _ _ | exact ih1 _ _ _ _ | exact LeO.refl _ | exact LeO.none _ | refine LeO.ite ?_ ?_ | refine LeO.bind ?_ (fun _ => ?_)
theorem hogsheadlaw0_GreatNodes.mono : ∀ a0 a1 k, LeO (hogsheadlaw0_GreatNodes.f k a0 a1) (hogsheadlaw0_GreatNodes.f (k + 1) a0 a1) := by
 intro a0 a1 k; obtain ⟨ih0, ih1⟩ := hogsheadlaw0_GreatNodes.mono_l k; unfold hogsheadlaw0_GreatNodes.f
 repeat' with_reducible first | exact ih0 _ _ _ | exact ih1 _ _ _ _ | exact LeO.refl _ | exact LeO.none _ | refine LeO.ite ?_ ?_ | refine LeO.bind ?_ (fun _ => ?_)
set_option maxHeartbeats 8000000 in
set_option maxRecDepth 100000 in
theorem hogsheadlaw0_GreatNodes.calls (k : Nat) (A0 : Option Addr) (c0 : Nat) (l0 : List (S45)) (a1 : Int) (r : Bool) (w : World) (hr0 : Kd.C k45 w A0 l0.length l0) (hc0 : l0.length ≤ c0) (h : hogsheadlaw0_GreatNodes.f k l0 a1 = some r) :
  Calls Tryd.prog 27 #[.slice A0 l0.length c0, .int .i64 a1] w fun e w' => e = .returned (.bool r) ∧ Drawn0 w w' := by
 have HR0 := am hr0; have HC0 := am hc0; clear hr0 hc0; have H : (hogsheadlaw0_GreatNodes.l0 k l0 a1 0) = some r := h; clear h; have H' := am H; clear H; go_enter Tryd.func27, Tryd.ntmps27; go_wp2
 go_loopg [5] k (fun kq v5 w' => ∃ (x5_1 : Int), v5 = .int .i64 x5_1 ∧ Aside0 (hogsheadlaw0_GreatNodes.l0 kq l0 a1 x5_1 = some r) ∧ Aside0 (kq ≤ k) ∧ Drawn0 w w')
 case atStart => exact ⟨(0), (by first | rfl | (simp; done) | (simp [*]; done)), H', ⟨Nat.le_refl _⟩, dz⟩
 case round =>
  clear H'; (try clear c2); (try clear p2); obtain ⟨x5_1, rfl, HA, HK1, ⟨m1, rfl⟩⟩ := hrel; cases gk with
  | zero => exact absurd HA.out (by simp [hogsheadlaw0_GreatNodes.l0])
  | succ k1 =>
   have H := HA.out; clear HA; simp only [hogsheadlaw0_GreatNodes.l0] at H
   have HC3 := am H; clear H; go_upto_region 2 with (fail)
   go_cut [15] (fun v15 wc => ∃ (kq : Nat) (x15_2 : Bool), v15 = .bool x15_2 ∧ Aside0 (hogsheadlaw0_GreatNodes.j1 kq l0 a1 x5_1 x15_2 = some r) ∧ Aside0 (kq ≤ k1) ∧ Drawn0 w wc)
   case first =>
    have H := HC3.out; clear HC3; by_cases c4 : x5_1 < (l0.length : Int)
    ·rw [if_pos c4] at H
     have c4b0 : decide (x5_1 < (l0.length : Int)) = true := decide_eq_true c4; clear c4; (first | rw [c4b0] | (simp only [i64_w, i32_w]; rw [c4b0]) | skip)
     have H' := am H; clear H; go_wp2
     go_meet; case rel => exact ⟨_, (decide ((l0.length : Int) ≤ a1)), (by first | rfl | (simp; done) | (simp [*]; done)), H', ⟨by have := HK1.out; first | omega | exact Nat.le_refl _⟩, dz⟩
    ·rw [if_neg c4] at H
     have c4b0 : decide (x5_1 < (l0.length : Int)) = false := decide_eq_false c4; clear c4; (first | rw [c4b0] | (simp only [i64_w, i32_w]; rw [c4b0]) | skip)
     have H' := am H; clear H; go_wp2
     go_meet; case rel => exact ⟨_, (false), (by first | rfl | (simp; done) | (simp [*]; done)), H', ⟨by have := HK1.out; first | omega | exact Nat.le_refl _⟩, dz⟩
   case rest =>
    clear HC3; (try clear c2); (try clear p2); (try clear c4); (try clear c4b0); (try clear p2); obtain ⟨kq, x15_2, rfl, HA, HJ2, ⟨mc2, rfl⟩⟩ := hcut; cases kq with
    | zero => exact absurd HA.out (by simp [hogsheadlaw0_GreatNodes.j1])
    | succ kj2 =>
     have H := HA.out; clear HA; simp only [hogsheadlaw0_GreatNodes.j1] at H
     by_cases c5 : x15_2 = true
     ·subst c5
      have H1 : (if 0 ≤ x5_1 then (if x5_1 < (l0.length : Int) then (if (((rd_T45 l0 x5_1).f0).size : Int) > 300 then (some true) else (if (((rd_T45 l0 x5_1).f2).size : Int) > 500 then (some true) else (hogsheadlaw0_GreatNodes.l0 kj2 l0 a1 (wrap64 (x5_1 + 1))))) else (none)) else (none)) = some r := by rw [if_pos rfl] at H; exact H
      clear H; have H := H1; clear H1; by_cases c6 : 0 ≤ x5_1
      ·rw [if_pos c6] at H
       have c6b0 : decide (0 ≤ x5_1) = true := decide_eq_true c6; clear c6; by_cases c7 : x5_1 < (l0.length : Int)
       ·rw [if_pos c7] at H
        have c7b0 : decide (x5_1 < (l0.length : Int)) = true := decide_eq_true c7; clear c7; by_cases c8 : (((rd_T45 l0 x5_1).f0).size : Int) > 300
        ·rw [if_pos c8] at H
         have c8b0 : decide (300 < (((rd_T45 l0 x5_1).f0).size : Int)) = true := decide_eq_true c8; have c8b1 : decide (300 < ((rd_T45 l0 x5_1).f0).size) = true := decide_eq_true (by omega); clear c8; obtain rfl := Option.some.inj H; have p114 : 0 ≤ (x5_1 : Int) := of_decide_eq_true (by assumption); have q114 : x5_1 < (l0.length : Int) := of_decide_eq_true (by assumption); obtain ⟨ad114, e114, hx114_0, hx114_1, hx114_2⟩ := at_T45 HR0.out x5_1 p114 q114; cases e114; replace p114 := eq_true p114; replace q114 := eq_true q114; go_wp2
         go_ret; exact ⟨by first | rfl | (simp; done) | (simp [*]; done), dz⟩
        ·rw [if_neg c8] at H
         have c8b0 : decide (300 < (((rd_T45 l0 x5_1).f0).size : Int)) = false := decide_eq_false c8; have c8b1 : decide (300 < ((rd_T45 l0 x5_1).f0).size) = false := decide_eq_false (by omega); clear c8; by_cases c9 : (((rd_T45 l0 x5_1).f2).size : Int) > 500
         ·rw [if_pos c9] at H
          have c9b0 : decide (500 < (((rd_T45 l0 x5_1).f2).size : Int)) = true := decide_eq_true c9; have c9b1 : decide (500 < ((rd_T45 l0 x5_1).f2).size) = true := decide_eq_true (by omega); clear c9; obtain rfl := Option.some.inj H; have p114 : 0 ≤ (x5_1 : Int) := of_decide_eq_true (by assumption); have q114 : x5_1 < (l0.length : Int) := of_decide_eq_true (by assumption); obtain ⟨ad114, e114, hx114_0, hx114_1, hx114_2⟩ := at_T45 HR0.out x5_1 p114 q114; cases e114; replace p114 := eq_true p114; replace q114 := eq_true q114; have p115 : 0 ≤ (x5_1 : Int) := of_decide_eq_true (by assumption); have q115 : x5_1 < (l0.length : Int) := of_decide_eq_true (by assumption); obtain ⟨ad115, e115, hx115_0, hx115_1, hx115_2⟩ := at_T45 HR0.out x5_1 p115 q115; obtain rfl : ad114 = ad115 := (by injection e115); replace p115 := eq_true p115; replace q115 := eq_true q115; go_wp2
          go_ret; exact ⟨by first | rfl | (simp; done) | (simp [*]; done), dz⟩
         ·rw [if_neg c9] at H
          have c9b0 : decide (500 < (((rd_T45 l0 x5_1).f2).size : Int)) = false := decide_eq_false c9; have c9b1 : decide (500 < ((rd_T45 l0 x5_1).f2).size) = false := decide_eq_false (by omega); clear c9; have H' := am H; clear H; have p114 : 0 ≤ (x5_1 : Int) := of_decide_eq_true (by assumption); have q114 : x5_1 < (l0.length : Int) := of_decide_eq_true (by assumption); obtain ⟨ad114, e114, hx114_0, hx114_1, hx114_2⟩ := at_T45 HR0.out x5_1 p114 q114; cases e114; replace p114 := eq_true p114; replace q114 := eq_true q114; have p115 : 0 ≤ (x5_1 : Int) := of_decide_eq_true (by assumption); have q115 : x5_1 < (l0.length : Int) := of_decide_eq_true (by assumption); obtain ⟨ad115, e115, hx115_0, hx115_1, hx115_2⟩ := at_T45 HR0.out x5_1 p115 q115; obtain rfl : ad114 = ad115 := (by injection e115); replace p115 := eq_true p115; replace q115 := eq_true q115; go_wp2
          go_roundg kj2
          case measure => have := HK1.out; have := HJ2.out; omega
          case rel => exact ⟨(wrap64 (x5_1 + 1)), (by first | rfl | (simp; done) | (simp [*]; done)), H', ⟨by have := HK1.out; have := HJ2.out; omega⟩, dz⟩
       ·rw [if_neg c7] at H
        exact absurd H (by simp)
      ·rw [if_neg c6] at H
       exact absurd H (by simp)
     ·replace c5 := Bool.eq_false_iff.mpr c5
      subst c5; have H1 : (some (decide ((l0.length : Int) > a1))) = some r := by rw [if_neg (show ¬ (false = true) by decide)] at H; exact H
      clear H; have H := H1; clear H1; obtain rfl := Option.some.inj H; go_wp2
      go_ret; exact ⟨by first | rfl | (simp; done) | (simp [*]; done), dz⟩

end Go.Proofs.YtnbcmmgkdpekjaaDoor.P
