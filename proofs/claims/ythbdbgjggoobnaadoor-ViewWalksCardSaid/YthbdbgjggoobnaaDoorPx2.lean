/- Laid by a program of this session (wip/pr), after the printer of the kit: the functions that a statement reaches as plain Lean functions, and that the calls of the machine come to them. No condition. -/
import Derived.Test.YthbdbgjggoobnaaDoorPx0
import Derived.Test.YthbdbgjggoobnaaDoorPx1
namespace Go.Proofs.YthbdbgjggoobnaaDoor.P
open Go.RowKit Go.Proofs.YthbdbgjggoobnaaDoorX Go.Proofs.YthbdbgjggoobnaaDoorW.PrintWords Go.Proofs.YthbdbgjggoobnaaDoorW.PrintLast Go.Proofs.YthbdbgjggoobnaaDoorW.PrintMore
attribute [local go_sem] max2_int min2_int max_two min_two
set_option linter.unusedVariables false
set_option linter.unusedSimpArgs false

/-! ### path_parts: function 69 -/
def path_parts.l0 : Nat → List ByteArray → List ByteArray → Int → Int → Option (List ByteArray × Bool)
 | 0, _, _, _, _ => none
 | k + 1, x4, x14, x15, x16 => if x16 < x15 then (if 0 ≤ x16 then (if x16 < (x14.length : Int) then ((path_Part.f (rdOf ByteArray.empty x14 x16)).bind fun t111 => (if t111 = true then (path_parts.l0 k x4 x14 x15 (wrap64 (x16 + 1))) else (some (([] : List ByteArray), false)))) else (none)) else (none)) else (some (x4, decide ((x4.length : Int) ≤ 10)))
def path_parts.f (k : Nat) (a0 : ByteArray) : Option (List ByteArray × Bool) := if a0.toList = ([] : List UInt8) then (some (([] : List ByteArray), true)) else (if (a0.size : Int) > 200 then (some (([] : List ByteArray), false)) else ((strings_Split.f a0 (⟨#[47]⟩ : ByteArray)).bind fun t107 => (path_parts.l0 k t107 t107 (t107.length : Int) 0)))
theorem path_parts.mono_l : ∀ k, (∀ y0 y1 y2 y3, LeO (path_parts.l0 k y0 y1 y2 y3) (path_parts.l0 (k + 1) y0 y1 y2 y3))
 | 0 => fun _ _ _ _ r h => by simp [path_parts.l0] at h
 | k + 1 => by
  have ih0 := path_parts.mono_l k
  ·intro y0 y1 y2 y3
   unfold path_parts.l0
   repeat' with_reducible first | exact ih0 _ _ _ _ | exact LeO.refl _ | exact LeO.none _ | refine LeO.ite ?_ ?_ | refine LeO.bind ?_ (fun _ => ?_)
theorem path_parts.mono : ∀ a0 k, LeO (path_parts.f k a0) (path_parts.f (k + 1) a0) := by
 intro a0 k; have ih0 := path_parts.mono_l k; unfold path_parts.f
 repeat' with_reducible first | exact ih0 _ _ _ _ | exact LeO.refl _ | exact LeO.none _ | refine LeO.ite ?_ ?_ | refine LeO.bind ?_ (fun _ => ?_)
set_option maxHeartbeats 8000000 in
set_option maxRecDepth 100000 in
theorem path_parts.calls (k : Nat) (a0 : ByteArray) (r1 : List ByteArray) (r2 : Bool) (w : World) (h : path_parts.f k a0 = some (r1, r2)) :
  Calls Tryd.prog 69 #[.string a0] w fun e w' => ∃ v0_ : Value, e = .returned (.tuple #[v0_, .bool r2]) ∧ Kd.R Kd.string 9 w' w.heap.size (fun _ => True) v0_ r1 ∧ Below w.heap.size w w' := by
 have HB := am (Below.refl w.heap.size w); have H : (if a0.toList = ([] : List UInt8) then (some (([] : List ByteArray), true)) else (if (a0.size : Int) > 200 then (some (([] : List ByteArray), false)) else ((strings_Split.f a0 (⟨#[47]⟩ : ByteArray)).bind fun t107 => (path_parts.l0 k t107 t107 (t107.length : Int) 0)))) = some (r1, r2) := h; clear h; by_cases c2 : a0.toList = ([] : List UInt8)
 ·rw [if_pos c2] at H
  have c2b0 : (a0.toList == ([] : List UInt8)) = true := beq_iff_eq.mpr c2; have c2b1 : (a0.toList != ([] : List UInt8)) = false := bne_eq_false_iff_eq.mpr c2; clear c2; simp only [Option.some.injEq, Prod.mk.injEq] at H
  obtain ⟨rfl, rfl⟩ := H; go_enter Tryd.func69, Tryd.ntmps69; go_wp2
  go_ret2; exact ⟨_, by first | rfl | (simp [eN, eS] <;> rfl) | (simp [*, eN, eS] <;> rfl), by first | exact Kd.R_nil _ _ _ _ _ | exact Kd.N_nil _ _ _ _ _ | exact Kd.V_nil _ _ _ _ _ | exact Kd.Q_nil _ _ _ _ _ | exact Kd.S_nil _ _ _ _ _, bz⟩
 ·rw [if_neg c2] at H
  have c2b0 : (a0.toList == ([] : List UInt8)) = false := beq_eq_false_iff_ne.mpr c2; have c2b1 : (a0.toList != ([] : List UInt8)) = true := bne_iff_ne.mpr c2; by_cases c3 : (a0.size : Int) > 200
  ·rw [if_pos c3] at H
   have c3b0 : decide (200 < (a0.size : Int)) = true := decide_eq_true c3; have c3b1 : decide (200 < a0.size) = true := decide_eq_true (by omega); clear c3; simp only [Option.some.injEq, Prod.mk.injEq] at H
   obtain ⟨rfl, rfl⟩ := H; go_enter Tryd.func69, Tryd.ntmps69; go_wp2
   go_ret2; exact ⟨_, by first | rfl | (simp [eN, eS] <;> rfl) | (simp [*, eN, eS] <;> rfl), by first | exact Kd.R_nil _ _ _ _ _ | exact Kd.N_nil _ _ _ _ _ | exact Kd.V_nil _ _ _ _ _ | exact Kd.Q_nil _ _ _ _ _ | exact Kd.S_nil _ _ _ _ _, bz⟩
  ·rw [if_neg c3] at H
   have c3b0 : decide (200 < (a0.size : Int)) = false := decide_eq_false c3; have c3b1 : decide (200 < a0.size) = false := decide_eq_false (by omega); clear c3; refine oR H ?_; clear H; intro t107 A4 H; have H' := am H; clear H; go_enter Tryd.func69, Tryd.ntmps69; go_wp2_with (first | ((with_reducible refine gate_callee (f := 72) rfl ?_); refine gL (some 13) Tryd.func72 #[.string a0, .string (⟨#[47]⟩ : ByteArray)] ?_; (with_reducible refine (strings_Split.calls a0 (⟨#[47]⟩ : ByteArray) t107 _ A4.out).mono ?_); rintro e w5 ⟨v108, rfl, ho0, hb⟩; refine ⟨_, rfl, ?_⟩; have HO109 := am (Kd.R_lower ho0 siz); replace HB := bs hb; (try clear ho0); obtain ⟨Ao6, co6, eo6⟩ := Kd.R_slice HO109.out; subst eo6))
   go_loopg [16] k (fun kq v16 w' => ∃ (x16_1 : Int), v16 = .int .i64 x16_1 ∧ Aside0 (path_parts.l0 kq t107 t107 (t107.length : Int) x16_1 = some (r1, r2)) ∧ Aside0 (kq ≤ k) ∧ Aside0 (Kd.R Kd.string 9 w' w.heap.size (fun _ => True) (.slice Ao6 t107.length co6) t107) ∧ Aside0 (Kd.R Kd.string 9 w' w.heap.size (fun _ => True) (.slice Ao6 t107.length co6) t107) ∧ Aside0 (Below w.heap.size w w'))
   case atStart => exact ⟨(0), (by first | rfl | (simp; done) | (simp [*]; done)), H', ⟨Nat.le_refl _⟩, ⟨rz HO109.out⟩, ⟨rz HO109.out⟩, ⟨bz⟩⟩
   case round =>
    clear H'; (try clear c2); (try clear c2b0); (try clear c2b1); (try clear p2); (try clear c3); (try clear c3b0); (try clear c3b1); (try clear c6); obtain ⟨x16_1, rfl, HA, HK1, HO_4, HO_14, HB⟩ := hrel; cases gk with
    | zero => exact absurd HA.out (by simp [path_parts.l0])
    | succ k1 =>
     have H := HA.out; clear HA; simp only [path_parts.l0] at H
     by_cases c7 : x16_1 < (t107.length : Int)
     ·rw [if_pos c7] at H
      have c7b0 : decide (x16_1 < (t107.length : Int)) = true := decide_eq_true c7; clear c7; by_cases c8 : 0 ≤ x16_1
      ·rw [if_pos c8] at H
       have c8b0 : decide (0 ≤ x16_1) = true := decide_eq_true c8; clear c8; by_cases c9 : x16_1 < (t107.length : Int)
       ·rw [if_pos c9] at H
        have c9b0 : decide (x16_1 < (t107.length : Int)) = true := decide_eq_true c9; clear c9; refine oR H ?_; clear H; intro t111 A10 H; by_cases c11 : t111 = true
        ·subst c11
         have H1 : (path_parts.l0 k1 t107 t107 (t107.length : Int) (wrap64 (x16_1 + 1))) = some (r1, r2) := by rw [if_pos rfl] at H; exact H
         clear H; have H := H1; clear H1; have H' := am H; clear H; have p110 : 0 ≤ (x16_1 : Int) := of_decide_eq_true (by assumption); have q110 : x16_1 < (t107.length : Int) := of_decide_eq_true (by assumption); obtain ⟨ad110, e110, hx110_0⟩ := Kd.at_string (Kd.R_reads' HO_14.out).2.2 x16_1 p110 q110; cases e110; replace p110 := eq_true p110; replace q110 := eq_true q110; go_wp2_with (first | ((with_reducible refine gate_callee (f := 73) rfl ?_); refine gL (some 21) Tryd.func73 #[.string (rdOf ByteArray.empty t107 x16_1)] ?_; (with_reducible refine (path_Part.calls (rdOf ByteArray.empty t107 x16_1) true _ A10.out).mono ?_); rintro e w' ⟨rfl, ⟨nd, rfl⟩⟩; refine ⟨_, rfl, ?_⟩))
         go_roundg k1
         case measure => have := HK1.out; omega
         case rel => exact ⟨(wrap64 (x16_1 + 1)), (by first | rfl | (simp; done) | (simp [*]; done)), H', ⟨by have := HK1.out; omega⟩, ⟨rz HO_4.out⟩, ⟨rz HO_14.out⟩, ⟨bz⟩⟩
        ·replace c11 := Bool.eq_false_iff.mpr c11
         subst c11; have H1 : (some (([] : List ByteArray), false)) = some (r1, r2) := by rw [if_neg (show ¬ (false = true) by decide)] at H; exact H
         clear H; have H := H1; clear H1; simp only [Option.some.injEq, Prod.mk.injEq] at H
         obtain ⟨rfl, rfl⟩ := H; have p110 : 0 ≤ (x16_1 : Int) := of_decide_eq_true (by assumption); have q110 : x16_1 < (t107.length : Int) := of_decide_eq_true (by assumption); obtain ⟨ad110, e110, hx110_0⟩ := Kd.at_string (Kd.R_reads' HO_14.out).2.2 x16_1 p110 q110; cases e110; replace p110 := eq_true p110; replace q110 := eq_true q110; go_wp2_with (first | ((with_reducible refine gate_callee (f := 73) rfl ?_); refine gL (some 21) Tryd.func73 #[.string (rdOf ByteArray.empty t107 x16_1)] ?_; (with_reducible refine (path_Part.calls (rdOf ByteArray.empty t107 x16_1) false _ A10.out).mono ?_); rintro e w' ⟨rfl, ⟨nd, rfl⟩⟩; refine ⟨_, rfl, ?_⟩))
         go_ret2; exact ⟨_, by first | rfl | (simp [eN, eS] <;> rfl) | (simp [*, eN, eS] <;> rfl), by first | exact Kd.R_nil _ _ _ _ _ | exact Kd.N_nil _ _ _ _ _ | exact Kd.V_nil _ _ _ _ _ | exact Kd.Q_nil _ _ _ _ _ | exact Kd.S_nil _ _ _ _ _, bz⟩
       ·rw [if_neg c9] at H
        exact absurd H (by simp)
      ·rw [if_neg c8] at H
       exact absurd H (by simp)
     ·rw [if_neg c7] at H
      have c7b0 : decide (x16_1 < (t107.length : Int)) = false := decide_eq_false c7; clear c7; simp only [Option.some.injEq, Prod.mk.injEq] at H
      obtain ⟨rfl, rfl⟩ := H; go_wp2
      go_ret2; exact ⟨_, by first | rfl | (simp [eN, eS] <;> rfl) | (simp [*, eN, eS] <;> rfl), by (with_reducible repeat (first | apply rA | apply rN | apply rD)); exact HO_4.out, bz⟩

/-! ### path_May: function 60 -/
def path_May.f (k : Nat) (a0 : ByteArray) : Option (Bool) := (path_parts.f k a0).bind fun bt112 => (some bt112.2)
theorem path_May.mono : ∀ a0 k, LeO (path_May.f k a0) (path_May.f (k + 1) a0) := by
 intro a0 k; unfold path_May.f
 repeat' with_reducible first | exact path_parts.mono _ _ | exact LeO.refl _ | exact LeO.none _ | refine LeO.ite ?_ ?_ | refine LeO.bind ?_ (fun _ => ?_)
set_option maxHeartbeats 8000000 in
set_option maxRecDepth 100000 in
theorem path_May.calls (k : Nat) (a0 : ByteArray) (r : Bool) (w : World) (h : path_May.f k a0 = some r) :
  Calls Tryd.prog 60 #[.string a0] w fun e w' => e = .returned (.bool r) ∧ Below w.heap.size w w' := by
 have HB := am (Below.refl w.heap.size w); have H : ((path_parts.f k a0).bind fun bt112 => (some bt112.2)) = some r := h; clear h; replace H := oB H; obtain ⟨⟨t112, t113⟩, A20, H⟩ := H; replace H : (some t113) = some r := H; have A2 := am A20; clear A20; obtain rfl := Option.some.inj H; go_enter Tryd.func60, Tryd.ntmps60; go_wp2_with (first | ((with_reducible refine gate_callee (f := 69) rfl ?_); refine gL (some 7) Tryd.func69 #[.string a0] ?_; (with_reducible refine (path_parts.calls k a0 t112 t113 _ A2.out).mono ?_); rintro e w3 ⟨v114, rfl, ho0, hb⟩; refine ⟨_, rfl, ?_⟩; have HO115 := am (Kd.R_lower ho0 siz); replace HB := bs hb; (try clear ho0)))
 go_ret; exact ⟨ez, bz⟩

/-! ### bytealg_LastIndexByteString: function 70 -/
def bytealg_LastIndexByteString.l0 : Nat → ByteArray → Int → Int → Option (Int)
 | 0, _, _, _ => none
 | k + 1, x0, x1, x5 => if x5 ≥ 0 then (if 0 ≤ x5 then (if x5 < (x0.size : Int) then (if (bt x0 x5) = x1 then (some x5) else (bytealg_LastIndexByteString.l0 k x0 x1 (wrap64 (x5 - 1)))) else (none)) else (none)) else (some (-1))
def bytealg_LastIndexByteString.f (k : Nat) (a0 : ByteArray) (a1 : Int) : Option (Int) := bytealg_LastIndexByteString.l0 k a0 a1 (wrap64 ((a0.size : Int) - 1))
theorem bytealg_LastIndexByteString.mono_l : ∀ k, (∀ y0 y1 y2, LeO (bytealg_LastIndexByteString.l0 k y0 y1 y2) (bytealg_LastIndexByteString.l0 (k + 1) y0 y1 y2))
 | 0 => fun _ _ _ r h => by simp [bytealg_LastIndexByteString.l0] at h
 | k + 1 => by
  have ih0 := bytealg_LastIndexByteString.mono_l k
  ·intro y0 y1 y2
   unfold bytealg_LastIndexByteString.l0
   repeat' with_reducible first | exact ih0 _ _ _ | exact LeO.refl _ | exact LeO.none _ | refine LeO.ite ?_ ?_ | refine LeO.bind ?_ (fun _ => ?_)
theorem bytealg_LastIndexByteString.mono : ∀ a0 a1 k, LeO (bytealg_LastIndexByteString.f k a0 a1) (bytealg_LastIndexByteString.f (k + 1) a0 a1) := by
 intro a0 a1 k; have ih0 := bytealg_LastIndexByteString.mono_l k
 unfold bytealg_LastIndexByteString.f
 repeat' with_reducible first | exact ih0 _ _ _ | exact LeO.refl _ | exact LeO.none _ | refine LeO.ite ?_ ?_ | refine LeO.bind ?_ (fun _ => ?_)
set_option maxHeartbeats 8000000 in
set_option maxRecDepth 100000 in
theorem bytealg_LastIndexByteString.calls (k : Nat) (a0 : ByteArray) (a1 : Int) (r : Int) (w : World) (h : bytealg_LastIndexByteString.f k a0 a1 = some r) :
  Calls Tryd.prog 70 #[.string a0, .int .u8 a1] w fun e w' => e = .returned (.int .i64 r) ∧ Drawn0 w w' := by
 have H : (bytealg_LastIndexByteString.l0 k a0 a1 (wrap64 ((a0.size : Int) - 1))) = some r := h; clear h; have H' := am H; clear H; go_enter Tryd.func70, Tryd.ntmps70; go_wp2
 go_loopg [5] k (fun kq v5 w' => ∃ (x5_1 : Int), v5 = .int .i64 x5_1 ∧ Aside0 (bytealg_LastIndexByteString.l0 kq a0 a1 x5_1 = some r) ∧ Aside0 (kq ≤ k) ∧ Drawn0 w w')
 case atStart => exact ⟨(wrap64 ((a0.size : Int) - 1)), (by first | rfl | (simp; done) | (simp [*]; done)), H', ⟨Nat.le_refl _⟩, dz⟩
 case round =>
  clear H'; (try clear p2); obtain ⟨x5_1, rfl, HA, HK1, ⟨m1, rfl⟩⟩ := hrel; cases gk with
  | zero => exact absurd HA.out (by simp [bytealg_LastIndexByteString.l0])
  | succ k1 =>
   have H := HA.out; clear HA; simp only [bytealg_LastIndexByteString.l0] at H
   by_cases c3 : x5_1 ≥ 0
   ·rw [if_pos c3] at H
    have c3b0 : decide (0 ≤ x5_1) = true := decide_eq_true c3; clear c3; by_cases c4 : 0 ≤ x5_1
    ·rw [if_pos c4] at H
     have c4b0 : decide (0 ≤ x5_1) = true := decide_eq_true c4; clear c4; by_cases c5 : x5_1 < (a0.size : Int)
     ·rw [if_pos c5] at H
      have c5b0 : decide (x5_1 < (a0.size : Int)) = true := decide_eq_true c5; clear c5; by_cases c7 : (bt a0 x5_1) = a1
      ·rw [if_pos c7] at H
       have c7b0 : ((bt a0 x5_1) == a1) = true := beq_iff_eq.mpr c7; have c7b1 : ((bt a0 x5_1) != a1) = false := bne_eq_false_iff_eq.mpr c7; clear c7; obtain rfl := Option.some.inj H; have p6 : 0 ≤ (x5_1 : Int) := of_decide_eq_true (by assumption); have q6 : x5_1 < (a0.size : Int) := of_decide_eq_true (by assumption); have hx6 := bt_at a0 x5_1; replace p6 := eq_true p6; replace q6 := eq_true q6; go_wp2
       go_ret; exact ⟨by first | rfl | (simp; done) | (simp [*]; done), dz⟩
      ·rw [if_neg c7] at H
       have c7b0 : ((bt a0 x5_1) == a1) = false := beq_eq_false_iff_ne.mpr c7; have c7b1 : ((bt a0 x5_1) != a1) = true := bne_iff_ne.mpr c7; have H' := am H; clear H; have p6 : 0 ≤ (x5_1 : Int) := of_decide_eq_true (by assumption); have q6 : x5_1 < (a0.size : Int) := of_decide_eq_true (by assumption); have hx6 := bt_at a0 x5_1; replace p6 := eq_true p6; replace q6 := eq_true q6; go_wp2
       go_roundg k1
       case measure => have := HK1.out; omega
       case rel => exact ⟨(wrap64 (x5_1 - 1)), (by first | rfl | (simp; done) | (simp [*]; done)), H', ⟨by have := HK1.out; omega⟩, dz⟩
     ·rw [if_neg c5] at H
      exact absurd H (by simp)
    ·rw [if_neg c4] at H
     exact absurd H (by simp)
   ·rw [if_neg c3] at H
    have c3b0 : decide (0 ≤ x5_1) = false := decide_eq_false c3; clear c3; obtain rfl := Option.some.inj H; go_wp2
    go_ret; exact ⟨by first | rfl | (simp; done) | (simp [*]; done), dz⟩

/-! ### strings_LastIndexByte: function 61 -/
def strings_LastIndexByte.f (k : Nat) (a0 : ByteArray) (a1 : Int) : Option (Int) := (bytealg_LastIndexByteString.f k a0 a1).bind fun t116 => (some t116)
theorem strings_LastIndexByte.mono : ∀ a0 a1 k, LeO (strings_LastIndexByte.f k a0 a1) (strings_LastIndexByte.f (k + 1) a0 a1) := by
 intro a0 a1 k; unfold strings_LastIndexByte.f
 repeat' with_reducible first | exact bytealg_LastIndexByteString.mono _ _ _ | exact LeO.refl _ | exact LeO.none _ | refine LeO.ite ?_ ?_ | refine LeO.bind ?_ (fun _ => ?_)
set_option maxHeartbeats 8000000 in
set_option maxRecDepth 100000 in
theorem strings_LastIndexByte.calls (k : Nat) (a0 : ByteArray) (a1 : Int) (r : Int) (w : World) (h : strings_LastIndexByte.f k a0 a1 = some r) :
  Calls Tryd.prog 61 #[.string a0, .int .u8 a1] w fun e w' => e = .returned (.int .i64 r) ∧ Drawn0 w w' := by
 have H : ((bytealg_LastIndexByteString.f k a0 a1).bind fun t116 => (some t116)) = some r := h; clear h; refine oR H ?_; clear H; intro t116 A3 H; obtain rfl := Option.some.inj H; go_enter Tryd.func61, Tryd.ntmps61; go_wp2_with (first | ((with_reducible refine gate_callee (f := 70) rfl ?_); refine gL (some 7) Tryd.func70 #[.string a0, .int .u8 a1] ?_; (with_reducible refine (bytealg_LastIndexByteString.calls k a0 a1 t116 _ A3.out).mono ?_); rintro e w' ⟨rfl, ⟨nd, rfl⟩⟩; refine ⟨_, rfl, ?_⟩))
 go_ret; exact ⟨by first | rfl | (simp; done) | (simp [*]; done), dz⟩

/-! ### path_Parent: function 39 -/
def path_Parent.f (k : Nat) (a0 : ByteArray) : Option (ByteArray × Bool) := if a0.toList = ([] : List UInt8) then (some ((⟨#[]⟩ : ByteArray), false)) else ((path_May.f k a0).bind fun t117 => (if t117 = true then ((strings_LastIndexByte.f k a0 47).bind fun t118 => (if 0 ≤ (mx t118 0) then (if (mx t118 0) ≤ (a0.size : Int) then (some (a0.extract 0 ((mx t118 0) : Int).toNat, true)) else (none)) else (none))) else (some ((⟨#[]⟩ : ByteArray), false))))
theorem path_Parent.mono : ∀ a0 k, LeO (path_Parent.f k a0) (path_Parent.f (k + 1) a0) := by
 intro a0 k; unfold path_Parent.f
 repeat' with_reducible first | exact path_May.mono _ _ | exact strings_LastIndexByte.mono _ _ _ | exact LeO.refl _ | exact LeO.none _ | refine LeO.ite ?_ ?_ | refine LeO.bind ?_ (fun _ => ?_)
set_option maxHeartbeats 8000000 in
set_option maxRecDepth 100000 in
theorem path_Parent.calls (k : Nat) (a0 : ByteArray) (r1 : ByteArray) (r2 : Bool) (w : World) (h : path_Parent.f k a0 = some (r1, r2)) :
  Calls Tryd.prog 39 #[.string a0] w fun e w' => e = .returned (.tuple #[.string r1, .bool r2]) ∧ Below w.heap.size w w' := by
 have HB := am (Below.refl w.heap.size w); have H : (if a0.toList = ([] : List UInt8) then (some ((⟨#[]⟩ : ByteArray), false)) else ((path_May.f k a0).bind fun t117 => (if t117 = true then ((strings_LastIndexByte.f k a0 47).bind fun t118 => (if 0 ≤ (mx t118 0) then (if (mx t118 0) ≤ (a0.size : Int) then (some (a0.extract 0 ((mx t118 0) : Int).toNat, true)) else (none)) else (none))) else (some ((⟨#[]⟩ : ByteArray), false))))) = some (r1, r2) := h; clear h; by_cases c2 : a0.toList = ([] : List UInt8)
 ·rw [if_pos c2] at H
  have c2b0 : (a0.toList == ([] : List UInt8)) = true := beq_iff_eq.mpr c2; have c2b1 : (a0.toList != ([] : List UInt8)) = false := bne_eq_false_iff_eq.mpr c2; clear c2; simp only [Option.some.injEq, Prod.mk.injEq] at H
  obtain ⟨rfl, rfl⟩ := H; go_enter Tryd.func39, Tryd.ntmps39; go_wp2
  go_ret2; exact ⟨ez, bz⟩
 ·rw [if_neg c2] at H
  have c2b0 : (a0.toList == ([] : List UInt8)) = false := beq_eq_false_iff_ne.mpr c2; have c2b1 : (a0.toList != ([] : List UInt8)) = true := bne_iff_ne.mpr c2; refine oR H ?_; clear H; intro t117 A3 H; by_cases c4 : t117 = true
  ·subst c4
   have H1 : ((strings_LastIndexByte.f k a0 47).bind fun t118 => (if 0 ≤ (mx t118 0) then (if (mx t118 0) ≤ (a0.size : Int) then (some (a0.extract 0 ((mx t118 0) : Int).toNat, true)) else (none)) else (none))) = some (r1, r2) := by rw [if_pos rfl] at H; exact H
   clear H; have H := H1; clear H1; refine oR H ?_; clear H; intro t118 A5 H; obtain ⟨ji6, hji6⟩ : ∃ j_ : Int, (mx t118 0) = j_ := ⟨_, rfl⟩; replace H : (if 0 ≤ (ji6) then (if (ji6) ≤ (a0.size : Int) then (some (a0.extract 0 ((ji6) : Int).toNat, true)) else (none)) else (none)) = some (r1, r2) := by first | (rw [hji6] at H; exact H) | (simp only [hji6] at H ⊢; exact H)
   (try rw [hji6] at A3)
   (try rw [hji6] at A5)
   (try (have hji6l : 0 ≤ ji6 := by (rw [← hji6]; unfold mx; (repeat' split) <;> omega)))
   (try (have hji6m : 0 ≤ ji6 := by omega))
   have hji6_ : (if t118 < 0 then 0 else t118) = ji6 := hji6; by_cases c7 : 0 ≤ (ji6)
   ·rw [if_pos c7] at H
    have c7b0 := eq_true c7; have c7b1 : decide (0 ≤ (ji6)) = true := decide_eq_true c7; clear c7; by_cases c8 : (ji6) ≤ (a0.size : Int)
    ·rw [if_pos c8] at H
     have c8b0 := eq_true c8; have c8b1 : decide ((ji6) ≤ (a0.size : Int)) = true := decide_eq_true c8; clear c8; simp only [Option.some.injEq, Prod.mk.injEq] at H
     obtain ⟨rfl, rfl⟩ := H; go_enter Tryd.func39, Tryd.ntmps39; go_wp2_with (first | (go_at_call 60; (with_reducible refine (path_May.calls k a0 true _ A3.out).mono ?_); rintro e w9 ⟨rfl, hb⟩; replace HB := bs hb) | ((with_reducible refine gate_callee (f := 61) rfl ?_); refine gL (some 13) Tryd.func61 #[.string a0, .int .u8 47] ?_; (with_reducible refine (strings_LastIndexByte.calls k a0 47 t118 _ A5.out).mono ?_); rintro e w' ⟨rfl, ⟨nd, rfl⟩⟩; refine ⟨_, rfl, ?_⟩))
     go_ret2; exact ⟨by first | rfl | (simp [eN, eS] <;> rfl) | (simp only [← hji6]; first | rfl | (simp [eN, eS] <;> rfl)) | (simp [*, eN, eS] <;> rfl), bz⟩
    ·rw [if_neg c8] at H
     exact absurd H (by simp)
   ·rw [if_neg c7] at H
    exact absurd H (by simp)
  ·replace c4 := Bool.eq_false_iff.mpr c4
   subst c4; have H1 : (some ((⟨#[]⟩ : ByteArray), false)) = some (r1, r2) := by rw [if_neg (show ¬ (false = true) by decide)] at H; exact H
   clear H; have H := H1; clear H1; simp only [Option.some.injEq, Prod.mk.injEq] at H
   obtain ⟨rfl, rfl⟩ := H; go_enter Tryd.func39, Tryd.ntmps39; go_wp2_with (first | (go_at_call 60; (with_reducible refine (path_May.calls k a0 false _ A3.out).mono ?_); rintro e w10 ⟨rfl, hb⟩; replace HB := bs hb))
   go_ret2; exact ⟨ez, bz⟩

end Go.Proofs.YthbdbgjggoobnaaDoor.P
