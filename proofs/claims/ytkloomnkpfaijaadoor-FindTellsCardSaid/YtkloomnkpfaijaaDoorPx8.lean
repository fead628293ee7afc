/- Laid by a program of this session (wip/pr), after the printer of the kit: the functions that a statement reaches as plain Lean functions, and that the calls of the machine come to them. No condition. -/
import Derived.Test.YtkloomnkpfaijaaDoorPx0
import Derived.Test.YtkloomnkpfaijaaDoorPx1
import Derived.Test.YtkloomnkpfaijaaDoorPx6
import Derived.Test.YtkloomnkpfaijaaDoorPx7
namespace Go.Proofs.YtkloomnkpfaijaaDoor.P
open Go.RowKit Go.Proofs.YtkloomnkpfaijaaDoorX Go.Proofs.YtkloomnkpfaijaaDoorW.PrintWords Go.Proofs.YtkloomnkpfaijaaDoorW.PrintLast Go.Proofs.YtkloomnkpfaijaaDoorW.PrintMore
attribute [local go_sem] max2_int min2_int max_two min_two
set_option linter.unusedVariables false
set_option linter.unusedSimpArgs false

attribute [local go_sem high] eqA31
/-! ### hogsheadlaw0_SameTexts: function 18 -/
def hogsheadlaw0_SameTexts.l0 : Nat → List ByteArray → List ByteArray → Int → Option (Bool)
 | 0, _, _, _ => none
 | k + 1, x0, x1, x5 => if x5 < (x0.length : Int) then (if 0 ≤ x5 then (if x5 < (x1.length : Int) then (if (rdOf ByteArray.empty x0 x5).toList = (rdOf ByteArray.empty x1 x5).toList then (hogsheadlaw0_SameTexts.l0 k x0 x1 (wrap64 (x5 + 1))) else (some false)) else (none)) else (none)) else (some true)
def hogsheadlaw0_SameTexts.f (k : Nat) (l0 : List ByteArray) (l1 : List ByteArray) : Option (Bool) := if (l0.length : Int) = (l1.length : Int) then (hogsheadlaw0_SameTexts.l0 k l0 l1 0) else (some false)
theorem hogsheadlaw0_SameTexts.mono_l : ∀ k, (∀ y0 y1 y2, LeO (hogsheadlaw0_SameTexts.l0 k y0 y1 y2) (hogsheadlaw0_SameTexts.l0 (k + 1) y0 y1 y2))
 | 0 => fun _ _ _ r h => by simp [hogsheadlaw0_SameTexts.l0] at h
 | k + 1 => by
  have ih0 := hogsheadlaw0_SameTexts.mono_l k
  ·intro y0 y1 y2
   unfold hogsheadlaw0_SameTexts.l0
   repeat' with_reducible first | exact ih0 _ _ _ | exact LeO.refl _ | exact LeO.none _ | refine LeO.ite ?_ ?_ | refine LeO.bind ?_ (fun _ => ?_)
theorem hogsheadlaw0_SameTexts.mono : ∀ a0 a1 k, LeO (hogsheadlaw0_SameTexts.f k a0 a1) (hogsheadlaw0_SameTexts.f (k + 1) a0 a1) := by
 intro a0 a1 k; have ih0 := hogsheadlaw0_SameTexts.mono_l k; unfold hogsheadlaw0_SameTexts.f
 repeat' with_reducible first | exact ih0 _ _ _ | exact LeO.refl _ | exact LeO.none _ | refine LeO.ite ?_ ?_ | refine LeO.bind ?_ (fun _ => ?_)
set_option maxHeartbeats 8000000 in
set_option maxRecDepth 100000 in
theorem hogsheadlaw0_SameTexts.calls (k : Nat) (A0 : Option Addr) (c0 : Nat) (l0 : List ByteArray) (A1 : Option Addr) (c1 : Nat) (l1 : List ByteArray) (r : Bool) (w : World) (hr0 : Kd.C Kd.string w A0 l0.length l0) (hc0 : l0.length ≤ c0) (hr1 : Kd.C Kd.string w A1 l1.length l1) (hc1 : l1.length ≤ c1) (h : hogsheadlaw0_SameTexts.f k l0 l1 = some r) :
  Calls Tryd.prog 18 #[.slice A0 l0.length c0, .slice A1 l1.length c1] w fun e w' => e = .returned (.bool r) ∧ Drawn0 w w' := by
 have HR0 := am hr0; have HC0 := am hc0; clear hr0 hc0; have HR1 := am hr1; have HC1 := am hc1; clear hr1 hc1; have H : (if (l0.length : Int) = (l1.length : Int) then (hogsheadlaw0_SameTexts.l0 k l0 l1 0) else (some false)) = some r := h; clear h; by_cases c3 : (l0.length : Int) = (l1.length : Int)
 ·rw [if_pos c3] at H
  have c3b0 : ((l0.length : Int) == (l1.length : Int)) = true := beq_iff_eq.mpr c3; have c3b1 : ((l0.length : Int) != (l1.length : Int)) = false := bne_eq_false_iff_eq.mpr c3; have c3b2 : (l0.length == l1.length) = true := by first | simpa using c3 | (simp at c3 ⊢; omega)
  clear c3; have H' := am H; clear H; go_enter Tryd.func18, Tryd.ntmps18; go_wp2
  repeat (go_quiet (fail); try go_wp2)
  go_loopg [5] k (fun kq v5 w' => ∃ (x5_1 : Int), v5 = .int .i64 x5_1 ∧ Aside0 (hogsheadlaw0_SameTexts.l0 kq l0 l1 x5_1 = some r) ∧ Aside0 (kq ≤ k) ∧ Drawn0 w w')
  case atStart => exact ⟨(0), (by first | rfl | (simp; done) | (simp [*]; done)), H', ⟨Nat.le_refl _⟩, dz⟩
  case round =>
   clear H'; (try clear c1); (try clear p2); (try clear c3); (try clear c3b0); (try clear c3b1); (try clear c3b2); obtain ⟨x5_1, rfl, HA, HK1, ⟨m1, rfl⟩⟩ := hrel; cases gk with
   | zero => exact absurd HA.out (by simp [hogsheadlaw0_SameTexts.l0])
   | succ k1 =>
    have H := HA.out; clear HA; simp only [hogsheadlaw0_SameTexts.l0] at H
    by_cases c4 : x5_1 < (l0.length : Int)
    ·rw [if_pos c4] at H
     have c4b0 : decide (x5_1 < (l0.length : Int)) = true := decide_eq_true c4; clear c4; by_cases c5 : 0 ≤ x5_1
     ·rw [if_pos c5] at H
      have c5b0 : decide (0 ≤ x5_1) = true := decide_eq_true c5; clear c5; by_cases c6 : x5_1 < (l1.length : Int)
      ·rw [if_pos c6] at H
       have c6b0 : decide (x5_1 < (l1.length : Int)) = true := decide_eq_true c6; clear c6; by_cases c7 : (rdOf ByteArray.empty l0 x5_1).toList = (rdOf ByteArray.empty l1 x5_1).toList
       ·rw [if_pos c7] at H
        have c7b0 : ((rdOf ByteArray.empty l0 x5_1).toList == (rdOf ByteArray.empty l1 x5_1).toList) = true := beq_iff_eq.mpr c7; have c7b1 : ((rdOf ByteArray.empty l0 x5_1).toList != (rdOf ByteArray.empty l1 x5_1).toList) = false := bne_eq_false_iff_eq.mpr c7; clear c7; have H' := am H; clear H; have p175 : 0 ≤ (x5_1 : Int) := of_decide_eq_true (by assumption); have q175 : x5_1 < (l0.length : Int) := of_decide_eq_true (by assumption); obtain ⟨ad175, e175, hx175_0⟩ := Kd.at_string HR0.out x5_1 p175 q175; cases e175; replace p175 := eq_true p175; replace q175 := eq_true q175; have p176 : 0 ≤ (x5_1 : Int) := of_decide_eq_true (by assumption); have q176 : x5_1 < (l1.length : Int) := of_decide_eq_true (by assumption); obtain ⟨ad176, e176, hx176_0⟩ := Kd.at_string HR1.out x5_1 p176 q176; cases e176; replace p176 := eq_true p176; replace q176 := eq_true q176; go_wp2
        repeat (go_quiet (fail); try go_wp2)
        go_roundg k1
        case measure => have := HK1.out; omega
        case rel => exact ⟨(wrap64 (x5_1 + 1)), (by first | rfl | (simp; done) | (simp [*]; done)), H', ⟨by have := HK1.out; omega⟩, dz⟩
       ·rw [if_neg c7] at H
        have c7b0 : ((rdOf ByteArray.empty l0 x5_1).toList == (rdOf ByteArray.empty l1 x5_1).toList) = false := beq_eq_false_iff_ne.mpr c7; have c7b1 : ((rdOf ByteArray.empty l0 x5_1).toList != (rdOf ByteArray.empty l1 x5_1).toList) = true := bne_iff_ne.mpr c7; obtain rfl := Option.some.inj H; have p175 : 0 ≤ (x5_1 : Int) := of_decide_eq_true (by assumption); have q175 : x5_1 < (l0.length : Int) := of_decide_eq_true (by assumption); obtain ⟨ad175, e175, hx175_0⟩ := Kd.at_string HR0.out x5_1 p175 q175; cases e175; replace p175 := eq_true p175; replace q175 := eq_true q175; have p176 : 0 ≤ (x5_1 : Int) := of_decide_eq_true (by assumption); have q176 : x5_1 < (l1.length : Int) := of_decide_eq_true (by assumption); obtain ⟨ad176, e176, hx176_0⟩ := Kd.at_string HR1.out x5_1 p176 q176; cases e176; replace p176 := eq_true p176; replace q176 := eq_true q176; go_wp2
        repeat (go_quiet (fail); try go_wp2)
        go_ret; exact ⟨by first | rfl | (simp; done) | (simp [*]; done), dz⟩
      ·rw [if_neg c6] at H
       exact absurd H (by simp)
     ·rw [if_neg c5] at H
      exact absurd H (by simp)
    ·rw [if_neg c4] at H
     have c4b0 : decide (x5_1 < (l0.length : Int)) = false := decide_eq_false c4; clear c4; obtain rfl := Option.some.inj H; go_wp2
     repeat (go_quiet (fail); try go_wp2)
     go_ret; exact ⟨by first | rfl | (simp; done) | (simp [*]; done), dz⟩
 ·rw [if_neg c3] at H
  have c3b0 : ((l0.length : Int) == (l1.length : Int)) = false := beq_eq_false_iff_ne.mpr c3; have c3b1 : ((l0.length : Int) != (l1.length : Int)) = true := bne_iff_ne.mpr c3; have c3b2 : (l0.length == l1.length) = false := by first | simpa using c3 | (simp at c3 ⊢; omega)
  obtain rfl := Option.some.inj H; go_enter Tryd.func18, Tryd.ntmps18; go_wp2
  repeat (go_quiet (fail); try go_wp2)
  go_ret; exact ⟨by first | rfl | (simp; done) | (simp [*]; done), dz⟩

/-! ### hogsheadlaw3_awake: function 9 -/
def hogsheadlaw3_awake.f (k : Nat)  : Option (Bool) := (some (([(⟨(⟨#[]⟩ : ByteArray), 1, (⟨#[]⟩ : ByteArray)⟩ : S31), (⟨(⟨#[97]⟩ : ByteArray), 1, (⟨#[]⟩ : ByteArray)⟩ : S31), (⟨(⟨#[97, 47, 98]⟩ : ByteArray), 2, (⟨#[120]⟩ : ByteArray)⟩ : S31), (⟨(⟨#[99]⟩ : ByteArray), 2, (⟨#[]⟩ : ByteArray)⟩ : S31)] : List (S31)) : List (S31))).bind fun y177 => ((find_List.f k y177 (⟨#[]⟩ : ByteArray)).bind fun bt180 => ((find_Lookup.f k y177 (⟨#[97, 47, 98]⟩ : ByteArray)).bind fun bt184 => ((find_Sub.f k y177 (⟨#[97]⟩ : ByteArray)).bind fun bt189 => ((hogsheadlaw0_SameTexts.f k bt180.1 (([(⟨#[97]⟩ : ByteArray), (⟨#[99]⟩ : ByteArray)] : List ByteArray))).bind fun t196 => (if t196 = true then (if bt180.2 = true then (if bt184.2.2.1.toList = ([120] : List UInt8) then (if bt184.2.2.2 = true then (if (bt189.1.length : Int) = 2 then (some bt189.2) else (some false)) else (some false)) else (some false)) else (some false)) else (some false))))))
theorem hogsheadlaw3_awake.mono : ∀ k, LeO (hogsheadlaw3_awake.f k ) (hogsheadlaw3_awake.f (k + 1) ) := by
 intro  k; unfold hogsheadlaw3_awake.f
 repeat' with_reducible first | exact find_List.mono _ _ _ | exact find_Lookup.mono _ _ _ | exact find_Sub.mono _ _ _ | exact hogsheadlaw0_SameTexts.mono _ _ _ | exact LeO.refl _ | exact LeO.none _ | refine LeO.ite ?_ ?_ | refine LeO.bind ?_ (fun _ => ?_)
set_option maxHeartbeats 8000000 in
set_option maxRecDepth 100000 in
theorem hogsheadlaw3_awake.calls (k : Nat)  (r : Bool) (w : World) (h : hogsheadlaw3_awake.f k  = some true) :
  Calls Tryd.prog 9 #[] w fun e w' => e = .returned (.bool true) ∧ Below w.heap.size w w' := by
 have hu31 := Tryd.underlying31; have HB := am (Below.refl w.heap.size w); have H : ((some (([(⟨(⟨#[]⟩ : ByteArray), 1, (⟨#[]⟩ : ByteArray)⟩ : S31), (⟨(⟨#[97]⟩ : ByteArray), 1, (⟨#[]⟩ : ByteArray)⟩ : S31), (⟨(⟨#[97, 47, 98]⟩ : ByteArray), 2, (⟨#[120]⟩ : ByteArray)⟩ : S31), (⟨(⟨#[99]⟩ : ByteArray), 2, (⟨#[]⟩ : ByteArray)⟩ : S31)] : List (S31)) : List (S31))).bind fun y177 => ((find_List.f k y177 (⟨#[]⟩ : ByteArray)).bind fun bt180 => ((find_Lookup.f k y177 (⟨#[97, 47, 98]⟩ : ByteArray)).bind fun bt184 => ((find_Sub.f k y177 (⟨#[97]⟩ : ByteArray)).bind fun bt189 => ((hogsheadlaw0_SameTexts.f k bt180.1 (([(⟨#[97]⟩ : ByteArray), (⟨#[99]⟩ : ByteArray)] : List ByteArray))).bind fun t196 => (if t196 = true then (if bt180.2 = true then (if bt184.2.2.1.toList = ([120] : List UInt8) then (if bt184.2.2.2 = true then (if (bt189.1.length : Int) = 2 then (some bt189.2) else (some false)) else (some false)) else (some false)) else (some false)) else (some false))))))) = some true := h; clear h; refine bL H ?_; clear H; intro y177 hy177 H
 have Ny177 := am hy177; clear hy177; replace H := oB H; obtain ⟨⟨t180, t181⟩, A10, H⟩ := H; replace H : ((find_Lookup.f k y177 (⟨#[97, 47, 98]⟩ : ByteArray)).bind fun bt184 => ((find_Sub.f k y177 (⟨#[97]⟩ : ByteArray)).bind fun bt189 => ((hogsheadlaw0_SameTexts.f k t180 (([(⟨#[97]⟩ : ByteArray), (⟨#[99]⟩ : ByteArray)] : List ByteArray))).bind fun t196 => (if t196 = true then (if t181 = true then (if bt184.2.2.1.toList = ([120] : List UInt8) then (if bt184.2.2.2 = true then (if (bt189.1.length : Int) = 2 then (some bt189.2) else (some false)) else (some false)) else (some false)) else (some false)) else (some false))))) = some true := H; have A1 := am A10; clear A10; replace H := oB H; obtain ⟨⟨t184, t185, t186, t187⟩, A20, H⟩ := H; replace H : ((find_Sub.f k y177 (⟨#[97]⟩ : ByteArray)).bind fun bt189 => ((hogsheadlaw0_SameTexts.f k t180 (([(⟨#[97]⟩ : ByteArray), (⟨#[99]⟩ : ByteArray)] : List ByteArray))).bind fun t196 => (if t196 = true then (if t181 = true then (if t186.toList = ([120] : List UInt8) then (if t187 = true then (if (bt189.1.length : Int) = 2 then (some bt189.2) else (some false)) else (some false)) else (some false)) else (some false)) else (some false)))) = some true := H; have A2 := am A20; clear A20; replace H := oB H; obtain ⟨⟨t189, t190⟩, A30, H⟩ := H; replace H : ((hogsheadlaw0_SameTexts.f k t180 (([(⟨#[97]⟩ : ByteArray), (⟨#[99]⟩ : ByteArray)] : List ByteArray))).bind fun t196 => (if t196 = true then (if t181 = true then (if t186.toList = ([120] : List UInt8) then (if t187 = true then (if (t189.length : Int) = 2 then (some t190) else (some false)) else (some false)) else (some false)) else (some false)) else (some false))) = some true := H
 have A3 := am A30; clear A30; obtain ⟨y193, hy193⟩ : ∃ y_ : List ByteArray, y_ = (([(⟨#[97]⟩ : ByteArray), (⟨#[99]⟩ : ByteArray)] : List ByteArray)) := ⟨_, rfl⟩; try rw [← hy193] at H
 have Ny193 := am hy193; clear hy193; refine oR H ?_; clear H; intro t196 A4 H; by_cases c5 : t196 = true
 ·subst c5
  have H1 : (if t181 = true then (if t186.toList = ([120] : List UInt8) then (if t187 = true then (if (t189.length : Int) = 2 then (some t190) else (some false)) else (some false)) else (some false)) else (some false)) = some true := by rw [if_pos rfl] at H; exact H
  clear H; have H := H1; clear H1; by_cases c6 : t181 = true
  ·subst c6
   have H1 : (if t186.toList = ([120] : List UInt8) then (if t187 = true then (if (t189.length : Int) = 2 then (some t190) else (some false)) else (some false)) else (some false)) = some true := by rw [if_pos rfl] at H; exact H
   clear H; have H := H1; clear H1; by_cases c7 : t186.toList = ([120] : List UInt8)
   ·rw [if_pos c7] at H
    have c7b0 : (t186.toList == ([120] : List UInt8)) = true := beq_iff_eq.mpr c7; have c7b1 : (t186.toList != ([120] : List UInt8)) = false := bne_eq_false_iff_eq.mpr c7; clear c7; by_cases c8 : t187 = true
    ·subst c8
     have H1 : (if (t189.length : Int) = 2 then (some t190) else (some false)) = some true := by rw [if_pos rfl] at H; exact H
     clear H; have H := H1; clear H1; by_cases c9 : (t189.length : Int) = 2
     ·rw [if_pos c9] at H
      have c9b0 : ((t189.length : Int) == 2) = true := beq_iff_eq.mpr c9; have c9b1 : ((t189.length : Int) != 2) = false := bne_eq_false_iff_eq.mpr c9; clear c9; have hr_ := Option.some.inj H; go_enter Tryd.func9, Tryd.ntmps9; go_wp2_with (first | ((with_reducible refine gate_dst (N := 12) rfl ?_); (try (refine gate_guard (by rfl) ?_; dsimp only)); refine Kd.R_lit k31 _ 31 ?hg (N := 12) ?hd (xs := ([(⟨(⟨#[]⟩ : ByteArray), 1, (⟨#[]⟩ : ByteArray)⟩ : S31), (⟨(⟨#[97]⟩ : ByteArray), 1, (⟨#[]⟩ : ByteArray)⟩ : S31), (⟨(⟨#[97, 47, 98]⟩ : ByteArray), 2, (⟨#[120]⟩ : ByteArray)⟩ : S31), (⟨(⟨#[99]⟩ : ByteArray), 2, (⟨#[]⟩ : ByteArray)⟩ : S31)] : List (S31))) (inner := [.string (⟨#[]⟩ : ByteArray), .int .i64 1, .string (⟨#[]⟩ : ByteArray), .string (⟨#[97]⟩ : ByteArray), .int .i64 1, .string (⟨#[]⟩ : ByteArray), .string (⟨#[97, 47, 98]⟩ : ByteArray), .int .i64 2, .string (⟨#[120]⟩ : ByteArray), .string (⟨#[99]⟩ : ByteArray), .int .i64 2, .string (⟨#[]⟩ : ByteArray)]) (ok := fun _ => True) (okp := fun _ => True) ?hr ?hp (fun _ hk => hk) trivial (Below.refl _ _) (Nat.le_refl _) (by simp) ?_; (case hd => rfl); (case hg => rfl); (case hr => first | (go_simp; done) | (go_simp; rfl)); (case hp => exact (Reps.c3 (show Kd.M k31 _ _ _ (⟨(⟨#[]⟩ : ByteArray), 1, (⟨#[]⟩ : ByteArray)⟩ : S31) [.string (⟨#[]⟩ : ByteArray), .int .i64 1, .string (⟨#[]⟩ : ByteArray)] from (k31_mkM _ _ _ (⟨(⟨#[]⟩ : ByteArray), 1, (⟨#[]⟩ : ByteArray)⟩ : S31) )) (Reps.c3 (show Kd.M k31 _ _ _ (⟨(⟨#[97]⟩ : ByteArray), 1, (⟨#[]⟩ : ByteArray)⟩ : S31) [.string (⟨#[97]⟩ : ByteArray), .int .i64 1, .string (⟨#[]⟩ : ByteArray)] from (k31_mkM _ _ _ (⟨(⟨#[97]⟩ : ByteArray), 1, (⟨#[]⟩ : ByteArray)⟩ : S31) )) (Reps.c3 (show Kd.M k31 _ _ _ (⟨(⟨#[97, 47, 98]⟩ : ByteArray), 2, (⟨#[120]⟩ : ByteArray)⟩ : S31) [.string (⟨#[97, 47, 98]⟩ : ByteArray), .int .i64 2, .string (⟨#[120]⟩ : ByteArray)] from (k31_mkM _ _ _ (⟨(⟨#[97, 47, 98]⟩ : ByteArray), 2, (⟨#[120]⟩ : ByteArray)⟩ : S31) )) (Reps.c3 (show Kd.M k31 _ _ _ (⟨(⟨#[99]⟩ : ByteArray), 2, (⟨#[]⟩ : ByteArray)⟩ : S31) [.string (⟨#[99]⟩ : ByteArray), .int .i64 2, .string (⟨#[]⟩ : ByteArray)] from (k31_mkM _ _ _ (⟨(⟨#[99]⟩ : ByteArray), 2, (⟨#[]⟩ : ByteArray)⟩ : S31) )) (Reps.none _ _)))))); intro v178 w10 ho11 hb hg_ hnew_; clear hg_ hnew_; (first | rw [← Ny177.out] at ho11 | (simp only [Int.reduceToNat] at ho11; rw [← Ny177.out] at ho11)); have HO179 := am (Kd.R_lower ho11 siz); replace HB := bs hb; clear hb ho11; obtain ⟨Ao12, co12, eo12⟩ := Kd.R_slice HO179.out; subst eo12) | ((with_reducible refine gate_callee (f := 11) rfl ?_); refine gL (some 15) Tryd.func11 #[.slice Ao12 y177.length co12, .string (⟨#[]⟩ : ByteArray)] ?_; (with_reducible refine (find_List.calls k _ _ y177 (⟨#[]⟩ : ByteArray) t180 true _ ?side1 ?side2 A1.out).mono ?_); (case side1 => exact cz (Kd.R_reads' HO179.out).2.2); (case side2 => exact (Kd.R_reads' HO179.out).2.1); rintro e w13 ⟨v182, rfl, ho0, hb⟩; refine ⟨_, rfl, ?_⟩; replace HO179 := am (Kd.R_below (rz HO179.out) hb); have HO183 := am (Kd.R_lower ho0 siz); replace HB := bs hb; (try clear ho0)) | ((with_reducible refine gate_callee (f := 15) rfl ?_); refine gL (some 20) Tryd.func15 #[.slice Ao12 y177.length co12, .string (⟨#[97, 47, 98]⟩ : ByteArray)] ?_; (with_reducible refine (find_Lookup.calls k _ _ y177 (⟨#[97, 47, 98]⟩ : ByteArray) t184 t185 t186 true _ ?side1 ?side2 A2.out).mono ?_); (case side1 => exact cz (Kd.R_reads' HO179.out).2.2); (case side2 => exact (Kd.R_reads' HO179.out).2.1); rintro e w14 ⟨rfl, hb⟩; refine ⟨_, rfl, ?_⟩; replace HO179 := am (Kd.R_below (rz HO179.out) hb); replace HO183 := am (Kd.R_below (rz HO183.out) hb); replace HB := bs hb) | ((with_reducible refine gate_dst (N := 4) rfl ?_); (try (refine gate_guard (by rfl) ?_; dsimp only)); refine bx 4 #[.string (⟨#[]⟩ : ByteArray), .int .i64 0, .string (⟨#[]⟩ : ByteArray)] 31 ?_; intro gb188 hg w15 hbox hb; replace HO179 := am (Kd.R_below (Kd.R_elderB (rz HO179.out) gb188 (Nat.le_of_eq hg.symm)) hb); replace HO183 := am (Kd.R_below (rz HO183.out) hb); have BK188 := am (hbox); have GW188 := gz hg; have GE188 := gz hg; replace HB := bs hb; clear hb hbox hg; obtain ⟨hcz16_0, hcz16_1, hcz16_2⟩ := cq3 BK188.out; obtain ⟨hfz16_0, hfz16_1, hfz16_2⟩ := fq3 BK188.out) | ((with_reducible refine gate_callee (f := 16) rfl ?_); refine gL (some 25) Tryd.func16 #[.slice Ao12 y177.length co12, .string (⟨#[97]⟩ : ByteArray)] ?_; (with_reducible refine (find_Sub.calls k _ _ y177 (⟨#[97]⟩ : ByteArray) t189 t190 _ ?side1 ?side2 A3.out).mono ?_); (case side1 => refine (Kd.R_reads' (e := 31) (base := w.heap.size) (ok := fun k_ => (True ∧ k_ ≠ gb188)) (n := y177.length) (c := co12) ?_).2.2; exact (rz (Kd.R_mono (Kd.R_far (p := ⟨gb188, 2, none⟩) (Kd.R_far (p := ⟨gb188, 1, none⟩) (Kd.R_far (p := ⟨gb188, 0, none⟩) (Kd.R_mono HO179.out (fun k_ hk => (⟨hk, hk.2⟩ : _ ∧ k_ ≠ gb188))) (fun _ hk => hk.2) (.string t184)) (fun _ hk => hk.2) (.int .i64 t185)) (fun _ hk => hk.2) (.string t186)) (fun _ h_ => h_.1)))); (case side2 => exact (Kd.R_reads' HO179.out).2.1); rintro e w17 ⟨v191, rfl, ho0, hb⟩; refine ⟨_, rfl, ?_⟩; replace HO183 := am (Kd.R_below (rz (Kd.R_mono (Kd.R_far (p := ⟨gb188, 2, none⟩) (Kd.R_far (p := ⟨gb188, 1, none⟩) (Kd.R_far (p := ⟨gb188, 0, none⟩) (Kd.R_types HO183.out BK188.out (by decide)) (fun _ hk => hk.2) (.string t184)) (fun _ hk => hk.2) (.int .i64 t185)) (fun _ hk => hk.2) (.string t186)) (fun _ h_ => h_.1))) hb); have HO192 := am (Kd.R_lower (Kd.R_newB (Kd.R_new' ho0 (Kd.R_lt (rz (Kd.R_mono (Kd.R_far (p := ⟨gb188, 2, none⟩) (Kd.R_far (p := ⟨gb188, 1, none⟩) (Kd.R_far (p := ⟨gb188, 0, none⟩) (Kd.R_mono HO179.out (fun k_ hk => (⟨hk, hk.2⟩ : _ ∧ k_ ≠ gb188))) (fun _ hk => hk.2) (.string t184)) (fun _ hk => hk.2) (.int .i64 t185)) (fun _ hk => hk.2) (.string t186)) (fun _ h_ => h_.1))))) (g := gb188) (o := .cells #[.string t184, .int .i64 t185, .string t186] 31 (0, 0)) (by (with_reducible repeat (first | refine kN ?_ _ | refine kD ?_ | refine kA ?_ _)); refine blk_put (cs := #[.string t184, .int .i64 t185, .string (⟨#[]⟩ : ByteArray)]) ?_ 2 _ rfl; (with_reducible repeat (first | refine kN ?_ _ | refine kD ?_ | refine kA ?_ _)); refine blk_put (cs := #[.string t184, .int .i64 0, .string (⟨#[]⟩ : ByteArray)]) ?_ 1 _ rfl; (with_reducible repeat (first | refine kN ?_ _ | refine kD ?_ | refine kA ?_ _)); refine blk_put (cs := #[.string (⟨#[]⟩ : ByteArray), .int .i64 0, .string (⟨#[]⟩ : ByteArray)]) ?_ 0 _ rfl; (with_reducible repeat (first | refine kN ?_ _ | refine kD ?_ | refine kA ?_ _)); exact BK188.out)) siq); replace HO179 := am (Kd.R_elder' (rz (Kd.R_mono (Kd.R_far (p := ⟨gb188, 2, none⟩) (Kd.R_far (p := ⟨gb188, 1, none⟩) (Kd.R_far (p := ⟨gb188, 0, none⟩) (Kd.R_mono HO179.out (fun k_ hk => (⟨hk, hk.2⟩ : _ ∧ k_ ≠ gb188))) (fun _ hk => hk.2) (.string t184)) (fun _ hk => hk.2) (.int .i64 t185)) (fun _ hk => hk.2) (.string t186)) (fun _ h_ => h_.1))) (Kd.R_base ho0) hb); replace BK188 := am (blk_below (g := gb188) (o := .cells #[.string t184, .int .i64 t185, .string t186] 31 (0, 0)) (by (with_reducible repeat (first | refine kN ?_ _ | refine kD ?_ | refine kA ?_ _)); refine blk_put (cs := #[.string t184, .int .i64 t185, .string (⟨#[]⟩ : ByteArray)]) ?_ 2 _ rfl; (with_reducible repeat (first | refine kN ?_ _ | refine kD ?_ | refine kA ?_ _)); refine blk_put (cs := #[.string t184, .int .i64 0, .string (⟨#[]⟩ : ByteArray)]) ?_ 1 _ rfl; (with_reducible repeat (first | refine kN ?_ _ | refine kD ?_ | refine kA ?_ _)); refine blk_put (cs := #[.string (⟨#[]⟩ : ByteArray), .int .i64 0, .string (⟨#[]⟩ : ByteArray)]) ?_ 0 _ rfl; (with_reducible repeat (first | refine kN ?_ _ | refine kD ?_ | refine kA ?_ _)); exact BK188.out) hb); replace HB := bw hb; (try clear ho0)) | ((with_reducible refine gate_dst (N := 29) rfl ?_); (try (refine gate_guard (by rfl) ?_; dsimp only)); refine Kd.R_lit Kd.string _ 9 ?hg (N := 29) ?hd (xs := ([(⟨#[97]⟩ : ByteArray), (⟨#[99]⟩ : ByteArray)] : List ByteArray)) (inner := [.string (⟨#[97]⟩ : ByteArray), .string (⟨#[99]⟩ : ByteArray)]) (ok := fun _ => True) (okp := fun _ => True) ?hr ?hp (fun _ hk => hk) trivial (Below.refl _ _) (Nat.le_refl _) (by simp) ?_; (case hd => rfl); (case hg => rfl); (case hr => first | (go_simp; done) | (go_simp; rfl)); (case hp => exact (Reps.one (show Kd.M Kd.string _ _ _ (⟨#[97]⟩ : ByteArray) [.string (⟨#[97]⟩ : ByteArray)] from rfl) (Reps.one (show Kd.M Kd.string _ _ _ (⟨#[99]⟩ : ByteArray) [.string (⟨#[99]⟩ : ByteArray)] from rfl) (Reps.none _ _)))); intro v194 w18 ho19 hb hg_ hnew_; clear hg_ hnew_; (first | rw [← Ny193.out] at ho19 | (simp only [Int.reduceToNat] at ho19; rw [← Ny193.out] at ho19)); replace HO179 := am (Kd.R_below (rz HO179.out) hb); replace HO192 := am (Kd.R_below (rz HO192.out) hb); have HO195 := am (Kd.R_lower (Kd.R_new' ho19 (Kd.R_lt (rz HO183.out))) siq); replace HO183 := am (Kd.R_elder' (rz HO183.out) (Kd.R_base ho19) hb); replace BK188 := am (blk_below (g := gb188) (o := .cells #[.string t184, .int .i64 t185, .string t186] 31 (0, 0)) (bk BK188.out) hb); replace HB := bw hb; clear hb ho19; obtain ⟨Ao20, co20, eo20⟩ := Kd.R_slice HO183.out; subst eo20; obtain ⟨Ao21, co21, eo21⟩ := Kd.R_slice HO195.out; subst eo21) | ((with_reducible refine gate_callee (f := 18) rfl ?_); refine gL (some 30) Tryd.func18 #[.slice Ao20 t180.length co20, .slice Ao21 y193.length co21] ?_; (with_reducible refine (hogsheadlaw0_SameTexts.calls k _ _ t180 _ _ y193 true _ ?side1 ?side2 ?side3 ?side4 A4.out).mono ?_); (case side1 => exact cz (Kd.R_reads' HO183.out).2.2); (case side2 => exact (Kd.R_reads' HO183.out).2.1); (case side3 => exact cz (Kd.R_reads' HO195.out).2.2); (case side4 => exact (Kd.R_reads' HO195.out).2.1); rintro e w' ⟨rfl, ⟨nd, rfl⟩⟩; refine ⟨_, rfl, ?_⟩; obtain ⟨hcz22_0, hcz22_1, hcz22_2⟩ := cq3 BK188.out; obtain ⟨hfz22_0, hfz22_1, hfz22_2⟩ := fq3 BK188.out; obtain ⟨Ao23, co23, eo23⟩ := Kd.R_slice HO192.out; subst eo23))
      go_ret; exact ⟨ez, bq⟩
     ·rw [if_neg c9] at H
      exact absurd H (by simp)
    ·replace c8 := Bool.eq_false_iff.mpr c8
     subst c8; have H1 : (some false) = some true := by rw [if_neg (show ¬ (false = true) by decide)] at H; exact H
     exact absurd H1 (by simp)
   ·rw [if_neg c7] at H
    exact absurd H (by simp)
  ·replace c6 := Bool.eq_false_iff.mpr c6
   subst c6; have H1 : (some false) = some true := by rw [if_neg (show ¬ (false = true) by decide)] at H; exact H
   exact absurd H1 (by simp)
 ·replace c5 := Bool.eq_false_iff.mpr c5
  subst c5; have H1 : (some false) = some true := by rw [if_neg (show ¬ (false = true) by decide)] at H; exact H
  exact absurd H1 (by simp)
/-! ### hogsheadlaw0_SameNodes: function 17 -/
def hogsheadlaw0_SameNodes.l0 : Nat → List (S31) → List (S31) → Int → Option (Bool)
 | 0, _, _, _ => none
 | k + 1, x0, x1, x5 => if x5 < (x0.length : Int) then (if 0 ≤ x5 then (if x5 < (x1.length : Int) then (if (!((((rd_T31 x0 x5).f0).toList) == (((rd_T31 x1 x5).f0).toList)) || (!(((rd_T31 x0 x5).f1) == ((rd_T31 x1 x5).f1)) || (!((((rd_T31 x0 x5).f2).toList) == (((rd_T31 x1 x5).f2).toList))))) = true then (some false) else (hogsheadlaw0_SameNodes.l0 k x0 x1 (wrap64 (x5 + 1)))) else (none)) else (none)) else (some true)
def hogsheadlaw0_SameNodes.f (k : Nat) (l0 : List (S31)) (l1 : List (S31)) : Option (Bool) := if (l0.length : Int) = (l1.length : Int) then (hogsheadlaw0_SameNodes.l0 k l0 l1 0) else (some false)
theorem hogsheadlaw0_SameNodes.mono_l : ∀ k, (∀ y0 y1 y2, LeO (hogsheadlaw0_SameNodes.l0 k y0 y1 y2) (hogsheadlaw0_SameNodes.l0 (k + 1) y0 y1 y2))
 | 0 => fun _ _ _ r h => by simp [hogsheadlaw0_SameNodes.l0] at h
 | k + 1 => by
  have ih0 := hogsheadlaw0_SameNodes.mono_l k
  ·intro y0 y1 y2
   unfold hogsheadlaw0_SameNodes.l0
   repeat' with_reducible first | exact ih0 _ _ _ | exact LeO.refl _ | exact LeO.none _ | refine LeO.ite ?_ ?_ | refine LeO.bind ?_ (fun _ => ?_)
theorem hogsheadlaw0_SameNodes.mono : ∀ a0 a1 k, LeO (hogsheadlaw0_SameNodes.f k a0 a1) (hogsheadlaw0_SameNodes.f (k + 1) a0 a1) := by
 intro a0 a1 k; have ih0 := hogsheadlaw0_SameNodes.mono_l k; unfold hogsheadlaw0_SameNodes.f
 repeat' with_reducible first | exact ih0 _ _ _ | exact LeO.refl _ | exact LeO.none _ | refine LeO.ite ?_ ?_ | refine LeO.bind ?_ (fun _ => ?_)
set_option maxHeartbeats 8000000 in
set_option maxRecDepth 100000 in
theorem hogsheadlaw0_SameNodes.calls (k : Nat) (A0 : Option Addr) (c0 : Nat) (l0 : List (S31)) (A1 : Option Addr) (c1 : Nat) (l1 : List (S31)) (r : Bool) (w : World) (hr0 : Kd.C k31 w A0 l0.length l0) (hc0 : l0.length ≤ c0) (hr1 : Kd.C k31 w A1 l1.length l1) (hc1 : l1.length ≤ c1) (h : hogsheadlaw0_SameNodes.f k l0 l1 = some r) :
  Calls Tryd.prog 17 #[.slice A0 l0.length c0, .slice A1 l1.length c1] w fun e w' => e = .returned (.bool r) ∧ Drawn0 w w' := by
 have hu31 := Tryd.underlying31; have HR0 := am hr0; have HC0 := am hc0; clear hr0 hc0; have HR1 := am hr1; have HC1 := am hc1; clear hr1 hc1; have H : (if (l0.length : Int) = (l1.length : Int) then (hogsheadlaw0_SameNodes.l0 k l0 l1 0) else (some false)) = some r := h; clear h; by_cases c3 : (l0.length : Int) = (l1.length : Int)
 ·rw [if_pos c3] at H
  have c3b0 : ((l0.length : Int) == (l1.length : Int)) = true := beq_iff_eq.mpr c3; have c3b1 : ((l0.length : Int) != (l1.length : Int)) = false := bne_eq_false_iff_eq.mpr c3; have c3b2 : (l0.length == l1.length) = true := by first | simpa using c3 | (simp at c3 ⊢; omega)
  clear c3; have H' := am H; clear H; go_enter Tryd.func17, Tryd.ntmps17; go_wp2
  repeat (go_quiet (fail); try go_wp2)
  go_loopg [5] k (fun kq v5 w' => ∃ (x5_1 : Int), v5 = .int .i64 x5_1 ∧ Aside0 (hogsheadlaw0_SameNodes.l0 kq l0 l1 x5_1 = some r) ∧ Aside0 (kq ≤ k) ∧ Drawn0 w w')
  case atStart => exact ⟨(0), (by first | rfl | (simp; done) | (simp [*]; done)), H', ⟨Nat.le_refl _⟩, dz⟩
  case round =>
   clear H'; (try clear c1); (try clear p2); (try clear c3); (try clear c3b0); (try clear c3b1); (try clear c3b2); obtain ⟨x5_1, rfl, HA, HK1, ⟨m1, rfl⟩⟩ := hrel; cases gk with
   | zero => exact absurd HA.out (by simp [hogsheadlaw0_SameNodes.l0])
   | succ k1 =>
    have H := HA.out; clear HA; simp only [hogsheadlaw0_SameNodes.l0] at H
    by_cases c4 : x5_1 < (l0.length : Int)
    ·rw [if_pos c4] at H
     have c4b0 : decide (x5_1 < (l0.length : Int)) = true := decide_eq_true c4; clear c4; by_cases c5 : 0 ≤ x5_1
     ·rw [if_pos c5] at H
      have c5b0 : decide (0 ≤ x5_1) = true := decide_eq_true c5; clear c5; by_cases c6 : x5_1 < (l1.length : Int)
      ·rw [if_pos c6] at H
       have c6b0 : decide (x5_1 < (l1.length : Int)) = true := decide_eq_true c6; clear c6; by_cases c7 : (!((((rd_T31 l0 x5_1).f0).toList) == (((rd_T31 l1 x5_1).f0).toList)) || (!(((rd_T31 l0 x5_1).f1) == ((rd_T31 l1 x5_1).f1)) || (!((((rd_T31 l0 x5_1).f2).toList) == (((rd_T31 l1 x5_1).f2).toList))))) = true
       ·rw [if_pos c7] at H
        have c7b0 : (!((((rd_T31 l0 x5_1).f0).toList) == (((rd_T31 l1 x5_1).f0).toList)) || (!(((rd_T31 l0 x5_1).f1) == ((rd_T31 l1 x5_1).f1)) || (!((((rd_T31 l0 x5_1).f2).toList) == (((rd_T31 l1 x5_1).f2).toList))))) = true := c7; clear c7; obtain rfl := Option.some.inj H; have p197 : 0 ≤ (x5_1 : Int) := of_decide_eq_true (by assumption); have q197 : x5_1 < (l0.length : Int) := of_decide_eq_true (by assumption); obtain ⟨ad197, e197, hx197_0, hx197_1, hx197_2⟩ := at_T31 HR0.out x5_1 p197 q197; cases e197; replace p197 := eq_true p197; replace q197 := eq_true q197; have p198 : 0 ≤ (x5_1 : Int) := of_decide_eq_true (by assumption); have q198 : x5_1 < (l1.length : Int) := of_decide_eq_true (by assumption); obtain ⟨ad198, e198, hx198_0, hx198_1, hx198_2⟩ := at_T31 HR1.out x5_1 p198 q198; cases e198; replace p198 := eq_true p198; replace q198 := eq_true q198; go_wp2
        repeat (go_quiet (fail); try go_wp2)
        go_ret; exact ⟨by first | rfl | (simp; done) | (simp [*]; done), dz⟩
       ·rw [if_neg c7] at H
        have c7b0 : (!((((rd_T31 l0 x5_1).f0).toList) == (((rd_T31 l1 x5_1).f0).toList)) || (!(((rd_T31 l0 x5_1).f1) == ((rd_T31 l1 x5_1).f1)) || (!((((rd_T31 l0 x5_1).f2).toList) == (((rd_T31 l1 x5_1).f2).toList))))) = false := by simpa using c7
        clear c7; have H' := am H; clear H; have p197 : 0 ≤ (x5_1 : Int) := of_decide_eq_true (by assumption); have q197 : x5_1 < (l0.length : Int) := of_decide_eq_true (by assumption); obtain ⟨ad197, e197, hx197_0, hx197_1, hx197_2⟩ := at_T31 HR0.out x5_1 p197 q197; cases e197; replace p197 := eq_true p197; replace q197 := eq_true q197; have p198 : 0 ≤ (x5_1 : Int) := of_decide_eq_true (by assumption); have q198 : x5_1 < (l1.length : Int) := of_decide_eq_true (by assumption); obtain ⟨ad198, e198, hx198_0, hx198_1, hx198_2⟩ := at_T31 HR1.out x5_1 p198 q198; cases e198; replace p198 := eq_true p198; replace q198 := eq_true q198; go_wp2
        repeat (go_quiet (fail); try go_wp2)
        go_roundg k1
        case measure => have := HK1.out; omega
        case rel => exact ⟨(wrap64 (x5_1 + 1)), (by first | rfl | (simp; done) | (simp [*]; done)), H', ⟨by have := HK1.out; omega⟩, dz⟩
      ·rw [if_neg c6] at H
       exact absurd H (by simp)
     ·rw [if_neg c5] at H
      exact absurd H (by simp)
    ·rw [if_neg c4] at H
     have c4b0 : decide (x5_1 < (l0.length : Int)) = false := decide_eq_false c4; clear c4; obtain rfl := Option.some.inj H; go_wp2
     repeat (go_quiet (fail); try go_wp2)
     go_ret; exact ⟨by first | rfl | (simp; done) | (simp [*]; done), dz⟩
 ·rw [if_neg c3] at H
  have c3b0 : ((l0.length : Int) == (l1.length : Int)) = false := beq_eq_false_iff_ne.mpr c3; have c3b1 : ((l0.length : Int) != (l1.length : Int)) = true := bne_iff_ne.mpr c3; have c3b2 : (l0.length == l1.length) = false := by first | simpa using c3 | (simp at c3 ⊢; omega)
  obtain rfl := Option.some.inj H; go_enter Tryd.func17, Tryd.ntmps17; go_wp2
  repeat (go_quiet (fail); try go_wp2)
  go_ret; exact ⟨by first | rfl | (simp; done) | (simp [*]; done), dz⟩

end Go.Proofs.YtkloomnkpfaijaaDoor.P
