/- Laid by a program of this session (wip/pr), after the printer of the kit: the functions that a statement reaches as plain Lean functions, and that the calls of the machine come to them. No condition. -/
import Derived.Test.YtcijimdogddbeaaDoorPx0
namespace Go.Proofs.YtcijimdogddbeaaDoor.P
open Go.RowKit Go.Proofs.YtcijimdogddbeaaDoorX Go.Proofs.YtcijimdogddbeaaDoorW.PrintWords Go.Proofs.YtcijimdogddbeaaDoorW.PrintLast Go.Proofs.YtcijimdogddbeaaDoorW.PrintMore
attribute [local go_sem] max2_int min2_int max_two min_two
set_option linter.unusedVariables false
set_option linter.unusedSimpArgs false

/-! ### stringslite_HasPrefix: function 92 -/
def stringslite_HasPrefix.f (a0 : ByteArray) (a1 : ByteArray) : Option (Bool) := if (a0.size : Int) ≥ (a1.size : Int) then (if 0 ≤ (a1.size : Int) then (if (a1.size : Int) ≤ (a0.size : Int) then (some ((a0.extract 0 ((a1.size : Int) : Int).toNat).toList == a1.toList)) else (none)) else (none)) else (some false)
set_option maxHeartbeats 8000000 in
set_option maxRecDepth 100000 in
theorem stringslite_HasPrefix.calls (a0 : ByteArray) (a1 : ByteArray) (r : Bool) (w : World) (h : stringslite_HasPrefix.f a0 a1 = some r) :
  Calls Tryd.prog 92 #[.string a0, .string a1] w fun e w' => e = .returned (.bool r) ∧ Drawn0 w w' := by
 have H : (if (a0.size : Int) ≥ (a1.size : Int) then (if 0 ≤ (a1.size : Int) then (if (a1.size : Int) ≤ (a0.size : Int) then (some ((a0.extract 0 ((a1.size : Int) : Int).toNat).toList == a1.toList)) else (none)) else (none)) else (some false)) = some r := h; clear h; by_cases c3 : (a0.size : Int) ≥ (a1.size : Int)
 ·rw [if_pos c3] at H
  have c3b0 : decide ((a1.size : Int) ≤ (a0.size : Int)) = true := decide_eq_true c3; have c3b1 : decide (a1.size ≤ a0.size) = true := decide_eq_true (Int.ofNat_le.mp c3); clear c3; by_cases c4 : 0 ≤ (a1.size : Int)
  ·rw [if_pos c4] at H
   have c4b0 := eq_true c4; have c4b1 : decide (0 ≤ (a1.size : Int)) = true := decide_eq_true c4; clear c4; by_cases c5 : (a1.size : Int) ≤ (a0.size : Int)
   ·rw [if_pos c5] at H
    have c5b0 := eq_true c5; have c5b1 : decide ((a1.size : Int) ≤ (a0.size : Int)) = true := decide_eq_true c5; clear c5; obtain rfl := Option.some.inj H; go_enter Tryd.func92, Tryd.ntmps92; go_wp2
    go_ret; exact ⟨by first | rfl | (simp; done) | (simp [*]; done), dz⟩
   ·rw [if_neg c5] at H
    exact absurd H (by simp)
  ·rw [if_neg c4] at H
   exact absurd H (by simp)
 ·rw [if_neg c3] at H
  have c3b0 : decide ((a1.size : Int) ≤ (a0.size : Int)) = false := decide_eq_false c3; have c3b1 : decide (a1.size ≤ a0.size) = false := decide_eq_false (fun h => c3 (Int.ofNat_le.mpr h)); clear c3; obtain rfl := Option.some.inj H; go_enter Tryd.func92, Tryd.ntmps92; go_wp2
  go_ret; exact ⟨by first | rfl | (simp; done) | (simp [*]; done), dz⟩

/-! ### strings_HasPrefix: function 88 -/
def strings_HasPrefix.f (a0 : ByteArray) (a1 : ByteArray) : Option (Bool) := (stringslite_HasPrefix.f a0 a1).bind fun t106 => (some t106)
set_option maxHeartbeats 8000000 in
set_option maxRecDepth 100000 in
theorem strings_HasPrefix.calls (a0 : ByteArray) (a1 : ByteArray) (r : Bool) (w : World) (h : strings_HasPrefix.f a0 a1 = some r) :
  Calls Tryd.prog 88 #[.string a0, .string a1] w fun e w' => e = .returned (.bool r) ∧ Drawn0 w w' := by
 have H : ((stringslite_HasPrefix.f a0 a1).bind fun t106 => (some t106)) = some r := h; clear h; refine oR H ?_; clear H; intro t106 A3 H; obtain rfl := Option.some.inj H; go_enter Tryd.func88, Tryd.ntmps88; go_wp2_with (first | ((with_reducible refine gate_callee (f := 92) rfl ?_); refine gL (some 7) Tryd.func92 #[.string a0, .string a1] ?_; (with_reducible refine (stringslite_HasPrefix.calls a0 a1 t106 _ A3.out).mono ?_); rintro e w' ⟨rfl, ⟨nd, rfl⟩⟩; refine ⟨_, rfl, ?_⟩))
 go_ret; exact ⟨by first | rfl | (simp; done) | (simp [*]; done), dz⟩

/-! ### path_Part: function 83 -/
def path_Part.f (a0 : ByteArray) : Option (Bool) := if a0.toList = ([] : List UInt8) then (some false) else (if (a0.size : Int) ≤ 60 then ((strings_IndexByte.f a0 47).bind fun t107 => (if t107 < 0 then ((strings_IndexByte.f a0 0).bind fun t108 => (if t108 < 0 then (if a0.toList = ([46] : List UInt8) then (some false) else (if a0.toList = ([46, 46] : List UInt8) then (some false) else ((strings_HasPrefix.f a0 (⟨#[46, 119, 104, 46]⟩ : ByteArray)).bind fun t109 => (some (!t109))))) else (some false))) else (some false))) else (some false))
set_option maxHeartbeats 8000000 in
set_option maxRecDepth 100000 in
theorem path_Part.calls (a0 : ByteArray) (r : Bool) (w : World) (h : path_Part.f a0 = some r) :
  Calls Tryd.prog 83 #[.string a0] w fun e w' => e = .returned (.bool r) ∧ Drawn0 w w' := by
 have H : (if a0.toList = ([] : List UInt8) then (some false) else (if (a0.size : Int) ≤ 60 then ((strings_IndexByte.f a0 47).bind fun t107 => (if t107 < 0 then ((strings_IndexByte.f a0 0).bind fun t108 => (if t108 < 0 then (if a0.toList = ([46] : List UInt8) then (some false) else (if a0.toList = ([46, 46] : List UInt8) then (some false) else ((strings_HasPrefix.f a0 (⟨#[46, 119, 104, 46]⟩ : ByteArray)).bind fun t109 => (some (!t109))))) else (some false))) else (some false))) else (some false))) = some r := h; clear h; by_cases c2 : a0.toList = ([] : List UInt8)
 ·rw [if_pos c2] at H
  have c2b0 : (a0.toList == ([] : List UInt8)) = true := beq_iff_eq.mpr c2; have c2b1 : (a0.toList != ([] : List UInt8)) = false := bne_eq_false_iff_eq.mpr c2; clear c2; obtain rfl := Option.some.inj H; go_enter Tryd.func83, Tryd.ntmps83; go_wp2
  go_ret; exact ⟨by first | rfl | (simp; done) | (simp [*]; done), dz⟩
 ·rw [if_neg c2] at H
  have c2b0 : (a0.toList == ([] : List UInt8)) = false := beq_eq_false_iff_ne.mpr c2; have c2b1 : (a0.toList != ([] : List UInt8)) = true := bne_iff_ne.mpr c2; by_cases c3 : (a0.size : Int) ≤ 60
  ·rw [if_pos c3] at H
   have c3b0 : decide ((a0.size : Int) ≤ 60) = true := decide_eq_true c3; have c3b1 : decide (a0.size ≤ 60) = true := decide_eq_true (by omega); clear c3; refine oR H ?_; clear H; intro t107 A4 H; by_cases c5 : t107 < 0
   ·rw [if_pos c5] at H
    have c5b0 : decide (t107 < 0) = true := decide_eq_true c5; clear c5; refine oR H ?_; clear H; intro t108 A6 H; by_cases c7 : t108 < 0
    ·rw [if_pos c7] at H
     have c7b0 : decide (t108 < 0) = true := decide_eq_true c7; clear c7; by_cases c8 : a0.toList = ([46] : List UInt8)
     ·rw [if_pos c8] at H
      have c8b0 : (a0.toList == ([46] : List UInt8)) = true := beq_iff_eq.mpr c8; have c8b1 : (a0.toList != ([46] : List UInt8)) = false := bne_eq_false_iff_eq.mpr c8; clear c8; obtain rfl := Option.some.inj H; go_enter Tryd.func83, Tryd.ntmps83; go_wp2_with (first | (go_at_call 68; (with_reducible refine (strings_IndexByte.calls a0 47 t107 _ A4.out).mono ?_); rintro e w' ⟨rfl, ⟨nd, rfl⟩⟩) | (go_at_call 68; (with_reducible refine (strings_IndexByte.calls a0 0 t108 _ A6.out).mono ?_); rintro e w' ⟨rfl, ⟨nd, rfl⟩⟩))
      go_ret; exact ⟨by first | rfl | (simp; done) | (simp [*]; done), dz⟩
     ·rw [if_neg c8] at H
      have c8b0 : (a0.toList == ([46] : List UInt8)) = false := beq_eq_false_iff_ne.mpr c8; have c8b1 : (a0.toList != ([46] : List UInt8)) = true := bne_iff_ne.mpr c8; by_cases c9 : a0.toList = ([46, 46] : List UInt8)
      ·rw [if_pos c9] at H
       have c9b0 : (a0.toList == ([46, 46] : List UInt8)) = true := beq_iff_eq.mpr c9; have c9b1 : (a0.toList != ([46, 46] : List UInt8)) = false := bne_eq_false_iff_eq.mpr c9; clear c9; obtain rfl := Option.some.inj H; go_enter Tryd.func83, Tryd.ntmps83; go_wp2_with (first | (go_at_call 68; (with_reducible refine (strings_IndexByte.calls a0 47 t107 _ A4.out).mono ?_); rintro e w' ⟨rfl, ⟨nd, rfl⟩⟩) | (go_at_call 68; (with_reducible refine (strings_IndexByte.calls a0 0 t108 _ A6.out).mono ?_); rintro e w' ⟨rfl, ⟨nd, rfl⟩⟩))
       go_ret; exact ⟨by first | rfl | (simp; done) | (simp [*]; done), dz⟩
      ·rw [if_neg c9] at H
       have c9b0 : (a0.toList == ([46, 46] : List UInt8)) = false := beq_eq_false_iff_ne.mpr c9; have c9b1 : (a0.toList != ([46, 46] : List UInt8)) = true := bne_iff_ne.mpr c9; refine oR H ?_; clear H; intro t109 A10 H; obtain rfl := Option.some.inj H; go_enter Tryd.func83, Tryd.ntmps83; go_wp2_with (first | (go_at_call 68; (with_reducible refine (strings_IndexByte.calls a0 47 t107 _ A4.out).mono ?_); rintro e w' ⟨rfl, ⟨nd, rfl⟩⟩) | (go_at_call 68; (with_reducible refine (strings_IndexByte.calls a0 0 t108 _ A6.out).mono ?_); rintro e w' ⟨rfl, ⟨nd, rfl⟩⟩) | (go_at_call 88; (with_reducible refine (strings_HasPrefix.calls a0 (⟨#[46, 119, 104, 46]⟩ : ByteArray) t109 _ A10.out).mono ?_); rintro e w' ⟨rfl, ⟨nd, rfl⟩⟩))
       go_ret; exact ⟨by first | rfl | (simp; done) | (simp [*]; done), dz⟩
    ·rw [if_neg c7] at H
     have c7b0 : decide (t108 < 0) = false := decide_eq_false c7; clear c7; obtain rfl := Option.some.inj H; go_enter Tryd.func83, Tryd.ntmps83; go_wp2_with (first | (go_at_call 68; (with_reducible refine (strings_IndexByte.calls a0 47 t107 _ A4.out).mono ?_); rintro e w' ⟨rfl, ⟨nd, rfl⟩⟩) | (go_at_call 68; (with_reducible refine (strings_IndexByte.calls a0 0 t108 _ A6.out).mono ?_); rintro e w' ⟨rfl, ⟨nd, rfl⟩⟩))
     go_ret; exact ⟨by first | rfl | (simp; done) | (simp [*]; done), dz⟩
   ·rw [if_neg c5] at H
    have c5b0 : decide (t107 < 0) = false := decide_eq_false c5; clear c5; obtain rfl := Option.some.inj H; go_enter Tryd.func83, Tryd.ntmps83; go_wp2_with (first | (go_at_call 68; (with_reducible refine (strings_IndexByte.calls a0 47 t107 _ A4.out).mono ?_); rintro e w' ⟨rfl, ⟨nd, rfl⟩⟩))
    go_ret; exact ⟨by first | rfl | (simp; done) | (simp [*]; done), dz⟩
  ·rw [if_neg c3] at H
   have c3b0 : decide ((a0.size : Int) ≤ 60) = false := decide_eq_false c3; have c3b1 : decide (a0.size ≤ 60) = false := decide_eq_false (by omega); clear c3; obtain rfl := Option.some.inj H; go_enter Tryd.func83, Tryd.ntmps83; go_wp2
   go_ret; exact ⟨by first | rfl | (simp; done) | (simp [*]; done), dz⟩

/-! ### path_parts: function 76 -/
def path_parts.l0 : Nat → List ByteArray → List ByteArray → Int → Int → Option (List ByteArray × Bool)
 | 0, _, _, _, _ => none
 | k + 1, x4, x14, x15, x16 => if x16 < x15 then (if 0 ≤ x16 then (if x16 < (x14.length : Int) then ((path_Part.f (rdOf ByteArray.empty x14 x16)).bind fun t114 => (if t114 = true then (path_parts.l0 k x4 x14 x15 (wrap64 (x16 + 1))) else (some (([] : List ByteArray), false)))) else (none)) else (none)) else (some (x4, decide ((x4.length : Int) ≤ 10)))
def path_parts.f (k : Nat) (a0 : ByteArray) : Option (List ByteArray × Bool) := if a0.toList = ([] : List UInt8) then (some (([] : List ByteArray), true)) else (if (a0.size : Int) > 200 then (some (([] : List ByteArray), false)) else ((strings_Split.f a0 (⟨#[47]⟩ : ByteArray)).bind fun t110 => (path_parts.l0 k t110 t110 (t110.length : Int) 0)))
theorem path_parts.mono_l : ∀ k, (∀ y0 y1 y2 y3, LeO (path_parts.l0 k y0 y1 y2 y3) (path_parts.l0 (k + 1) y0 y1 y2 y3))
 | 0 => fun _ _ _ _ r h => by simp [path_parts.l0] at h
 | k + 1 => by
  have ih0 := path_parts.mono_l k
  ·intro y0 y1 y2 y3
   unfold path_parts.l0
   repeat' with_reducible first | exact ih0 _ _ _ _ | exact LeO.refl _ | exact LeO.none _ | refine LeO.ite ?_ ?_ | refine LeO.bind ?_ (fun _ => ?_)
theorem path_parts.mono : ∀ a0 k, LeO (path_parts.f k a0) (path_parts.f (k + 1) a0) := by
 intro a0 k; have ih0 := path_parts.mono_l k; unfold path_parts.f
 repeat' with_reducible first | exact ih0 _ _ _ _ | exact LeO.refl _ | exact LeO.none _ | refine LeO.ite ?_ ?_ | refine LeO.bind ?_ (fun _ => ?_)
set_option maxHeartbeats 8000000 in
set_option maxRecDepth 100000 in
theorem path_parts.calls (k : Nat) (a0 : ByteArray) (r1 : List ByteArray) (r2 : Bool) (w : World) (h : path_parts.f k a0 = some (r1, r2)) :
  Calls Tryd.prog 76 #[.string a0] w fun e w' => ∃ v0_ : Value, e = .returned (.tuple #[v0_, .bool r2]) ∧ Kd.R Kd.string 9 w' w.heap.size (fun _ => True) v0_ r1 ∧ Below w.heap.size w w' := by
 have HB := am (Below.refl w.heap.size w); have H : (if a0.toList = ([] : List UInt8) then (some (([] : List ByteArray), true)) else (if (a0.size : Int) > 200 then (some (([] : List ByteArray), false)) else ((strings_Split.f a0 (⟨#[47]⟩ : ByteArray)).bind fun t110 => (path_parts.l0 k t110 t110 (t110.length : Int) 0)))) = some (r1, r2) := h; clear h; by_cases c2 : a0.toList = ([] : List UInt8)
 ·rw [if_pos c2] at H
  have c2b0 : (a0.toList == ([] : List UInt8)) = true := beq_iff_eq.mpr c2; have c2b1 : (a0.toList != ([] : List UInt8)) = false := bne_eq_false_iff_eq.mpr c2; clear c2; simp only [Option.some.injEq, Prod.mk.injEq] at H
  obtain ⟨rfl, rfl⟩ := H; go_enter Tryd.func76, Tryd.ntmps76; go_wp2
  go_ret2; exact ⟨_, by first | rfl | (simp [eN, eS] <;> rfl) | (simp [*, eN, eS] <;> rfl), by first | exact Kd.R_nil _ _ _ _ _ | exact Kd.N_nil _ _ _ _ _ | exact Kd.V_nil _ _ _ _ _ | exact Kd.Q_nil _ _ _ _ _ | exact Kd.S_nil _ _ _ _ _, bz⟩
 ·rw [if_neg c2] at H
  have c2b0 : (a0.toList == ([] : List UInt8)) = false := beq_eq_false_iff_ne.mpr c2; have c2b1 : (a0.toList != ([] : List UInt8)) = true := bne_iff_ne.mpr c2; by_cases c3 : (a0.size : Int) > 200
  ·rw [if_pos c3] at H
   have c3b0 : decide (200 < (a0.size : Int)) = true := decide_eq_true c3; have c3b1 : decide (200 < a0.size) = true := decide_eq_true (by omega); clear c3; simp only [Option.some.injEq, Prod.mk.injEq] at H
   obtain ⟨rfl, rfl⟩ := H; go_enter Tryd.func76, Tryd.ntmps76; go_wp2
   go_ret2; exact ⟨_, by first | rfl | (simp [eN, eS] <;> rfl) | (simp [*, eN, eS] <;> rfl), by first | exact Kd.R_nil _ _ _ _ _ | exact Kd.N_nil _ _ _ _ _ | exact Kd.V_nil _ _ _ _ _ | exact Kd.Q_nil _ _ _ _ _ | exact Kd.S_nil _ _ _ _ _, bz⟩
  ·rw [if_neg c3] at H
   have c3b0 : decide (200 < (a0.size : Int)) = false := decide_eq_false c3; have c3b1 : decide (200 < a0.size) = false := decide_eq_false (by omega); clear c3; refine oR H ?_; clear H; intro t110 A4 H; have H' := am H; clear H; go_enter Tryd.func76, Tryd.ntmps76; go_wp2_with (first | ((with_reducible refine gate_callee (f := 82) rfl ?_); refine gL (some 13) Tryd.func82 #[.string a0, .string (⟨#[47]⟩ : ByteArray)] ?_; (with_reducible refine (strings_Split.calls a0 (⟨#[47]⟩ : ByteArray) t110 _ A4.out).mono ?_); rintro e w5 ⟨v111, rfl, ho0, hb⟩; refine ⟨_, rfl, ?_⟩; have HO112 := am (Kd.R_lower ho0 siz); replace HB := bs hb; (try clear ho0); obtain ⟨Ao6, co6, eo6⟩ := Kd.R_slice HO112.out; subst eo6))
   go_loopg [16] k (fun kq v16 w' => ∃ (x16_1 : Int), v16 = .int .i64 x16_1 ∧ Aside0 (path_parts.l0 kq t110 t110 (t110.length : Int) x16_1 = some (r1, r2)) ∧ Aside0 (kq ≤ k) ∧ Aside0 (Kd.R Kd.string 9 w' w.heap.size (fun _ => True) (.slice Ao6 t110.length co6) t110) ∧ Aside0 (Kd.R Kd.string 9 w' w.heap.size (fun _ => True) (.slice Ao6 t110.length co6) t110) ∧ Aside0 (Below w.heap.size w w'))
   case atStart => exact ⟨(0), (by first | rfl | (simp; done) | (simp [*]; done)), H', ⟨Nat.le_refl _⟩, ⟨rz HO112.out⟩, ⟨rz HO112.out⟩, ⟨bz⟩⟩
   case round =>
    clear H'; (try clear c2); (try clear c2b0); (try clear c2b1); (try clear p2); (try clear c3); (try clear c3b0); (try clear c3b1); obtain ⟨x16_1, rfl, HA, HK1, HO_4, HO_14, HB⟩ := hrel; cases gk with
    | zero => exact absurd HA.out (by simp [path_parts.l0])
    | succ k1 =>
     have H := HA.out; clear HA; simp only [path_parts.l0] at H
     by_cases c7 : x16_1 < (t110.length : Int)
     ·rw [if_pos c7] at H
      have c7b0 : decide (x16_1 < (t110.length : Int)) = true := decide_eq_true c7; clear c7; by_cases c8 : 0 ≤ x16_1
      ·rw [if_pos c8] at H
       have c8b0 : decide (0 ≤ x16_1) = true := decide_eq_true c8; clear c8; by_cases c9 : x16_1 < (t110.length : Int)
       ·rw [if_pos c9] at H
        have c9b0 : decide (x16_1 < (t110.length : Int)) = true := decide_eq_true c9; clear c9; refine oR H ?_; clear H; intro t114 A10 H; by_cases c11 : t114 = true
        ·subst c11
         have H1 : (path_parts.l0 k1 t110 t110 (t110.length : Int) (wrap64 (x16_1 + 1))) = some (r1, r2) := by rw [if_pos rfl] at H; exact H
         clear H; have H := H1; clear H1; have H' := am H; clear H; have p113 : 0 ≤ (x16_1 : Int) := of_decide_eq_true (by assumption); have q113 : x16_1 < (t110.length : Int) := of_decide_eq_true (by assumption); obtain ⟨ad113, e113, hx113_0⟩ := Kd.at_string (Kd.R_reads' HO_14.out).2.2 x16_1 p113 q113; cases e113; replace p113 := eq_true p113; replace q113 := eq_true q113; go_wp2_with (first | ((with_reducible refine gate_callee (f := 83) rfl ?_); refine gL (some 21) Tryd.func83 #[.string (rdOf ByteArray.empty t110 x16_1)] ?_; (with_reducible refine (path_Part.calls (rdOf ByteArray.empty t110 x16_1) true _ A10.out).mono ?_); rintro e w' ⟨rfl, ⟨nd, rfl⟩⟩; refine ⟨_, rfl, ?_⟩))
         go_roundg k1
         case measure => have := HK1.out; omega
         case rel => exact ⟨(wrap64 (x16_1 + 1)), (by first | rfl | (simp; done) | (simp [*]; done)), H', ⟨by have := HK1.out; omega⟩, ⟨rz HO_4.out⟩, ⟨rz HO_14.out⟩, ⟨bz⟩⟩
        ·replace c11 := Bool.eq_false_iff.mpr c11
         subst c11; have H1 : (some (([] : List ByteArray), false)) = some (r1, r2) := by rw [if_neg (show ¬ (false = true) by decide)] at H; exact H
         clear H; have H := H1; clear H1; simp only [Option.some.injEq, Prod.mk.injEq] at H
         obtain ⟨rfl, rfl⟩ := H; have p113 : 0 ≤ (x16_1 : Int) := of_decide_eq_true (by assumption); have q113 : x16_1 < (t110.length : Int) := of_decide_eq_true (by assumption); obtain ⟨ad113, e113, hx113_0⟩ := Kd.at_string (Kd.R_reads' HO_14.out).2.2 x16_1 p113 q113; cases e113; replace p113 := eq_true p113; replace q113 := eq_true q113; go_wp2_with (first | ((with_reducible refine gate_callee (f := 83) rfl ?_); refine gL (some 21) Tryd.func83 #[.string (rdOf ByteArray.empty t110 x16_1)] ?_; (with_reducible refine (path_Part.calls (rdOf ByteArray.empty t110 x16_1) false _ A10.out).mono ?_); rintro e w' ⟨rfl, ⟨nd, rfl⟩⟩; refine ⟨_, rfl, ?_⟩))
         go_ret2; exact ⟨_, by first | rfl | (simp [eN, eS] <;> rfl) | (simp [*, eN, eS] <;> rfl), by first | exact Kd.R_nil _ _ _ _ _ | exact Kd.N_nil _ _ _ _ _ | exact Kd.V_nil _ _ _ _ _ | exact Kd.Q_nil _ _ _ _ _ | exact Kd.S_nil _ _ _ _ _, bz⟩
       ·rw [if_neg c9] at H
        exact absurd H (by simp)
      ·rw [if_neg c8] at H
       exact absurd H (by simp)
     ·rw [if_neg c7] at H
      have c7b0 : decide (x16_1 < (t110.length : Int)) = false := decide_eq_false c7; clear c7; simp only [Option.some.injEq, Prod.mk.injEq] at H
      obtain ⟨rfl, rfl⟩ := H; go_wp2
      go_ret2; exact ⟨_, by first | rfl | (simp [eN, eS] <;> rfl) | (simp [*, eN, eS] <;> rfl), by (with_reducible repeat (first | apply rA | apply rN | apply rD)); exact HO_4.out, bz⟩

/-! ### path_May: function 67 -/
def path_May.f (k : Nat) (a0 : ByteArray) : Option (Bool) := (path_parts.f k a0).bind fun bt115 => (some bt115.2)
theorem path_May.mono : ∀ a0 k, LeO (path_May.f k a0) (path_May.f (k + 1) a0) := by
 intro a0 k; unfold path_May.f
 repeat' with_reducible first | exact path_parts.mono _ _ | exact LeO.refl _ | exact LeO.none _ | refine LeO.ite ?_ ?_ | refine LeO.bind ?_ (fun _ => ?_)
set_option maxHeartbeats 8000000 in
set_option maxRecDepth 100000 in
theorem path_May.calls (k : Nat) (a0 : ByteArray) (r : Bool) (w : World) (h : path_May.f k a0 = some r) :
  Calls Tryd.prog 67 #[.string a0] w fun e w' => e = .returned (.bool r) ∧ Below w.heap.size w w' := by
 have HB := am (Below.refl w.heap.size w); have H : ((path_parts.f k a0).bind fun bt115 => (some bt115.2)) = some r := h; clear h; replace H := oB H; obtain ⟨⟨t115, t116⟩, A20, H⟩ := H; replace H : (some t116) = some r := H; have A2 := am A20; clear A20; obtain rfl := Option.some.inj H; go_enter Tryd.func67, Tryd.ntmps67; go_wp2_with (first | ((with_reducible refine gate_callee (f := 76) rfl ?_); refine gL (some 7) Tryd.func76 #[.string a0] ?_; (with_reducible refine (path_parts.calls k a0 t115 t116 _ A2.out).mono ?_); rintro e w3 ⟨v117, rfl, ho0, hb⟩; refine ⟨_, rfl, ?_⟩; have HO118 := am (Kd.R_lower ho0 siz); replace HB := bs hb; (try clear ho0)))
 go_ret; exact ⟨ez, bz⟩

end Go.Proofs.YtcijimdogddbeaaDoor.P
