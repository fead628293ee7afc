/- Laid by a program of this session (wip/pr), after the printer of the kit: the functions that a statement reaches as plain Lean functions, and that the calls of the machine come to them. No condition. -/
import Derived.Lib.SliceRun
import Derived.Test.YthbdbgjggoobnaaDoorPx0
import Derived.Test.YthbdbgjggoobnaaDoorPx9
namespace Go.Proofs.YthbdbgjggoobnaaDoor.P
open Go.RowKit Go.Proofs.YthbdbgjggoobnaaDoorX Go.Proofs.YthbdbgjggoobnaaDoorW.PrintWords Go.Proofs.YthbdbgjggoobnaaDoorW.PrintLast Go.Proofs.YthbdbgjggoobnaaDoorW.PrintMore
attribute [local go_sem] max2_int min2_int max_two min_two
set_option linter.unusedVariables false
set_option linter.unusedSimpArgs false

/-! ### lz_Pack: function 33 -/
def lz_Pack.l0 : Nat → ByteArray → List Int → Int → Int → Option (ByteArray)
 | 0, _, _, _, _ => none
 | k + 1, x0, x3, x4, x5 => if x5 < (x0.size : Int) then ((lz_Match.f k x0 x5).bind fun bt167 => (if bt167.1 = 0 then (lz_Pack.l0 k x0 x3 x4 (wrap64 (x5 + 1))) else (if 0 ≤ x4 then (if x4 ≤ x5 then (if x5 ≤ (x0.size : Int) then ((lz_as.f k x3 (x0.extract (x4 : Int).toNat (x5 : Int).toNat)).bind fun t169 => ((some (([(wrap64 ((wrap64 (128 + bt167.1)) - 3)) % 256, (bt167.2) % 256] : List Int) : List Int)).bind fun y172 => (if t169.length + y172.length < 140737488355328 then (lz_Pack.l0 k x0 (t169 ++ y172) (wrap64 (x5 + bt167.1)) (wrap64 (x5 + bt167.1))) else (none)))) else (none)) else (none)) else (none)))) else (if 0 ≤ x4 then (if x4 ≤ (x0.size : Int) then ((lz_as.f k x3 (x0.extract (x4 : Int).toNat x0.size)).bind fun t164 => (some (strOfNums t164))) else (none)) else (none))
def lz_Pack.f (k : Nat) (a0 : ByteArray) : Option (ByteArray) := lz_Pack.l0 k a0 ([] : List Int) 0 0
theorem lz_Pack.mono_l : ∀ k, (∀ y0 y1 y2 y3, LeO (lz_Pack.l0 k y0 y1 y2 y3) (lz_Pack.l0 (k + 1) y0 y1 y2 y3))
 | 0 => fun _ _ _ _ r h => by simp [lz_Pack.l0] at h
 | k + 1 => by
  have ih0 := lz_Pack.mono_l k
  ·intro y0 y1 y2 y3
   unfold lz_Pack.l0
   repeat' with_reducible first | exact ih0 _ _ _ _ | exact lz_Match.mono _ _ _ | exact lz_as.mono _ _ _ | exact LeO.refl _ | exact LeO.none _ | refine LeO.ite ?_ ?_ | refine LeO.bind ?_ (fun _ => ?_)
theorem lz_Pack.mono : ∀ a0 k, LeO (lz_Pack.f k a0) (lz_Pack.f (k + 1) a0) := by
 intro a0 k; have ih0 := lz_Pack.mono_l k; unfold lz_Pack.f
 repeat' with_reducible first | exact ih0 _ _ _ _ | exact lz_Match.mono _ _ _ | exact lz_as.mono _ _ _ | exact LeO.refl _ | exact LeO.none _ | refine LeO.ite ?_ ?_ | refine LeO.bind ?_ (fun _ => ?_)
set_option maxHeartbeats 8000000 in
set_option maxRecDepth 100000 in
theorem lz_Pack.calls (k : Nat) (a0 : ByteArray) (r : ByteArray) (w : World) (h : lz_Pack.f k a0 = some r) :
  Calls Tryd.prog 33 #[.string a0] w fun e w' => e = .returned (.string r) ∧ Below w.heap.size w w' := by
 have HB := am (Below.refl w.heap.size w); have H : (lz_Pack.l0 k a0 ([] : List Int) 0 0) = some r := h; clear h; have H' := am H; clear H; go_enter Tryd.func33, Tryd.ntmps33; go_wp2
 go_loopg [3, 4, 5] k (fun kq v3 v4 v5 w' => ∃ (x3_1 : List Int) (x4_1 : Int) (x5_1 : Int), v4 = .int .i64 x4_1 ∧ v5 = .int .i64 x5_1 ∧ Aside0 (lz_Pack.l0 kq a0 x3_1 x4_1 x5_1 = some r) ∧ Aside0 (kq ≤ k) ∧ Aside0 (Kd.R (Kd.int .u8) 5 w' w.heap.size (fun _ => True) v3 x3_1) ∧ Aside0 (Below w.heap.size w w'))
 case atStart => exact ⟨(([] : List Int)), (0), (0), (by first | rfl | (simp; done) | (simp [*]; done)), (by first | rfl | (simp; done) | (simp [*]; done)), H', ⟨Nat.le_refl _⟩, ⟨by first | exact Kd.R_nil _ _ _ _ _ | exact Kd.N_nil _ _ _ _ _ | exact Kd.V_nil _ _ _ _ _ | exact Kd.Q_nil _ _ _ _ _ | exact Kd.S_nil _ _ _ _ _⟩, ⟨bz⟩⟩
 case round =>
  clear H'; obtain ⟨x3_1, x4_1, x5_1, rfl, rfl, HA, HK1, HO_3, HB⟩ := hrel; cases gk with
  | zero => exact absurd HA.out (by simp [lz_Pack.l0])
  | succ k1 =>
   have H := HA.out; clear HA; simp only [lz_Pack.l0] at H
   by_cases c2 : x5_1 < (a0.size : Int)
   ·rw [if_pos c2] at H
    have c2b0 : decide (x5_1 < (a0.size : Int)) = true := decide_eq_true c2; clear c2; replace H := oB H; obtain ⟨⟨t167, t168⟩, A30, H⟩ := H; replace H : (if t167 = 0 then (lz_Pack.l0 k1 a0 x3_1 x4_1 (wrap64 (x5_1 + 1))) else (if 0 ≤ x4_1 then (if x4_1 ≤ x5_1 then (if x5_1 ≤ (a0.size : Int) then ((lz_as.f k1 x3_1 (a0.extract (x4_1 : Int).toNat (x5_1 : Int).toNat)).bind fun t169 => ((some (([(wrap64 ((wrap64 (128 + t167)) - 3)) % 256, (t168) % 256] : List Int) : List Int)).bind fun y172 => (if t169.length + y172.length < 140737488355328 then (lz_Pack.l0 k1 a0 (t169 ++ y172) (wrap64 (x5_1 + t167)) (wrap64 (x5_1 + t167))) else (none)))) else (none)) else (none)) else (none))) = some r := H; have A3 := am A30; clear A30; by_cases c4 : t167 = 0
    ·rw [if_pos c4] at H
     have c4b0 : (t167 == 0) = true := beq_iff_eq.mpr c4; have c4b1 : (t167 != 0) = false := bne_eq_false_iff_eq.mpr c4; clear c4; have H' := am H; clear H; go_wp2_with (first | ((with_reducible refine gate_callee (f := 51) rfl ?_); refine gL (some 15) Tryd.func51 #[.string a0, .int .i64 x5_1] ?_; (with_reducible refine (lz_Match.calls k1 a0 x5_1 t167 t168 _ A3.out).mono ?_); rintro e w5 ⟨rfl, hb⟩; refine ⟨_, rfl, ?_⟩; replace HO_3 := am (Kd.R_below (rz HO_3.out) hb); replace HB := bs hb))
     go_roundg k1
     case measure => have := HK1.out; omega
     case rel => exact ⟨(x3_1), (x4_1), (wrap64 (x5_1 + 1)), (by first | rfl | (simp; done) | (simp [*]; done)), (by first | rfl | (simp; done) | (simp [*]; done)), H', ⟨by have := HK1.out; omega⟩, ⟨rz HO_3.out⟩, ⟨bz⟩⟩
    ·rw [if_neg c4] at H
     have c4b0 : (t167 == 0) = false := beq_eq_false_iff_ne.mpr c4; have c4b1 : (t167 != 0) = true := bne_iff_ne.mpr c4; by_cases c6 : 0 ≤ x4_1
     ·rw [if_pos c6] at H
      have c6b0 := eq_true c6; have c6b1 : decide (0 ≤ x4_1) = true := decide_eq_true c6; clear c6; by_cases c7 : x4_1 ≤ x5_1
      ·rw [if_pos c7] at H
       have c7b0 := eq_true c7; have c7b1 : decide (x4_1 ≤ x5_1) = true := decide_eq_true c7; clear c7; by_cases c8 : x5_1 ≤ (a0.size : Int)
       ·rw [if_pos c8] at H
        have c8b0 := eq_true c8; have c8b1 : decide (x5_1 ≤ (a0.size : Int)) = true := decide_eq_true c8; clear c8; refine oR H ?_; clear H; intro t169 A9 H; refine bL H ?_; clear H; intro y172 hy172 H
        have Ny172 := am hy172; clear hy172; by_cases c10 : t169.length + y172.length < 140737488355328
        ·rw [if_pos c10] at H
         have LMc10 := am c10; clear c10; obtain ⟨y175, hy175⟩ : ∃ y_ : List Int, y_ = (t169 ++ y172) := ⟨_, rfl⟩; try rw [← hy175] at H
         have Ny175 := am hy175; clear hy175; have H' := am H; clear H; go_wp2_with (first | ((with_reducible refine gate_callee (f := 51) rfl ?_); refine gL (some 15) Tryd.func51 #[.string a0, .int .i64 x5_1] ?_; (with_reducible refine (lz_Match.calls k1 a0 x5_1 t167 t168 _ A3.out).mono ?_); rintro e w11 ⟨rfl, hb⟩; refine ⟨_, rfl, ?_⟩; replace HO_3 := am (Kd.R_below (rz HO_3.out) hb); replace HB := bs hb; obtain ⟨Ao12, co12, eo12⟩ := Kd.R_slice HO_3.out; subst eo12) | ((with_reducible refine gate_callee (f := 52) rfl ?_); refine gL (some 27) Tryd.func52 #[.slice Ao12 x3_1.length co12, .string (a0.extract (x4_1 : Int).toNat (x5_1 : Int).toNat)] ?_; (with_reducible refine (lz_as.calls k1 (fun k_ => some k_ = (.slice Ao12 x3_1.length co12 : Value).ownBlock) (.slice Ao12 x3_1.length co12) x3_1 (a0.extract (x4_1 : Int).toNat (x5_1 : Int).toNat) t169 w _ ?side1 ?side2 A9.out).mono ?_); (case side1 => repeat (first | (with_reducible first | exact HB.out | apply bA | apply bN | apply bO) | exact HB.out)); (case side2 => exact Kd.R_tight rfl HO_3.out); rintro e w13 ⟨v170, rfl, ho0, hb, hkp⟩; refine ⟨_, rfl, ?_⟩; have n0_ := am (Kd.R_mono (ok' := fun k_ => True) ho0 (fun k_ hk_ => trivial)); have n1_ := am (hb); clear HB; clear HO_3; have HO171 := n0_; have HB := n1_; clear n0_ n1_; (try clear hb); (try clear hkp); (try clear ho0)) | ((with_reducible refine gate_dst (N := 34) rfl ?_); refine Kd.R_lit (Kd.int .u8) _ 5 ?hg (N := 34) ?hd (xs := ([(wrap64 ((wrap64 (128 + t167)) - 3)) % 256, (t168) % 256] : List Int)) (inner := [.int .u8 ((wrap64 ((wrap64 (128 + t167)) - 3)) % 256), .int .u8 ((t168) % 256)]) (ok := fun _ => True) (okp := fun _ => True) ?hr ?hp (fun _ hk => hk) trivial (Below.refl _ _) (Nat.le_refl _) (by simp) ?_; (case hd => rfl); (case hg => rfl); (case hr => first | (go_simp; done) | (go_simp; rfl)); (case hp => exact (Reps.one (show Kd.M (Kd.int .u8) _ _ _ ((wrap64 ((wrap64 (128 + t167)) - 3)) % 256) [.int .u8 ((wrap64 ((wrap64 (128 + t167)) - 3)) % 256)] from rfl) (Reps.one (show Kd.M (Kd.int .u8) _ _ _ ((t168) % 256) [.int .u8 ((t168) % 256)] from rfl) (Reps.none _ _)))); intro v173 w14 ho15 hb hg_ hnew_; clear hg_ hnew_; (first | rw [← Ny172.out] at ho15 | (simp only [Int.reduceToNat] at ho15; rw [← Ny172.out] at ho15)); have HO174 := am (Kd.R_lower (Kd.R_new' ho15 (Kd.R_lt (rz HO171.out))) siz); replace HO171 := am (Kd.R_elder' (rz HO171.out) (Kd.R_base ho15) hb); replace HB := bs hb; clear hb ho15; obtain ⟨Ao17, co17, eo17⟩ := Kd.R_slice HO174.out; subst eo17) | ((with_reducible refine gate_builtin (b := .append) (xs := #[.tmp 27, .tmp 34]) rfl ?_); at_builtin; refine Kd.R_append_rows (Kd.int .u8) (w0 := w) w.heap.size rfl (.tmp 27) (.tmp 34) 27 5 (.int .u8 0) 1 rfl Tryd.underlying27 info5 rfl (by decide) (by omega) v170 t169 y172 _ _ _ (fun k_ => some k_ ≠ (.slice Ao17 y172.length co17 : Value).ownBlock) (fun _ => False) rfl rfl ?aO ?aR (fun _ _ h => h) (fun _ h => h.elim) ?aF ?aB ?aS ?aL ?_; (case aR => exact cz (Kd.R_reads' HO174.out).2.2); (case aB => exact bz); (case aF => exact (fun k_ hk => Kd.fresh' (Kd.R_lt (rz HO174.out)) k_ hk)); (case aO => exact (rz (Kd.R_mono HO171.out (fun _ hk => hk.2)))); (case aS => exact siz); (case aL => have := LMc10.out; omega); intro v176 w16 ho hb hg hat; rw [← Ny175.out] at ho; have n0_ := am (Kd.R_after (ok := (fun _ => True)) (rz HO174.out) hg hat); have n1_ := am (hb); have n2_ := am (ho); clear HO174; clear HB; clear HO171; have HO174 := n0_; have HB := n1_; have HO177 := n2_; clear n0_ n1_ n2_; clear ho hb hg hat))
         go_roundg k1
         case measure => have := HK1.out; omega
         case rel => exact ⟨(y175), (wrap64 (x5_1 + t167)), (wrap64 (x5_1 + t167)), (by first | rfl | (simp; done) | (simp [*]; done)), (by first | rfl | (simp; done) | (simp [*]; done)), H', ⟨by have := HK1.out; omega⟩, ⟨rz (Kd.R_mono HO177.out (fun _ hk => trivial))⟩, ⟨bz⟩⟩
        ·rw [if_neg c10] at H
         exact absurd H (by simp)
       ·rw [if_neg c8] at H
        exact absurd H (by simp)
      ·rw [if_neg c7] at H
       exact absurd H (by simp)
     ·rw [if_neg c6] at H
      exact absurd H (by simp)
   ·rw [if_neg c2] at H
    have c2b0 : decide (x5_1 < (a0.size : Int)) = false := decide_eq_false c2; clear c2; by_cases c18 : 0 ≤ x4_1
    ·rw [if_pos c18] at H
     have c18b0 := eq_true c18; have c18b1 : decide (0 ≤ x4_1) = true := decide_eq_true c18; clear c18; by_cases c19 : x4_1 ≤ (a0.size : Int)
     ·rw [if_pos c19] at H
      have c19b0 := eq_true c19; have c19b1 : decide (x4_1 ≤ (a0.size : Int)) = true := decide_eq_true c19; clear c19; refine oR H ?_; clear H; intro t164 A20 H; obtain rfl := Option.some.inj H; obtain ⟨Ao21, co21, eo21⟩ := Kd.R_slice HO_3.out; subst eo21; go_wp2_with (first | ((with_reducible refine gate_callee (f := 52) rfl ?_); refine gL (some 44) Tryd.func52 #[.slice Ao21 x3_1.length co21, .string (a0.extract (x4_1 : Int).toNat a0.size)] ?_; (with_reducible refine (lz_as.calls k1 (fun k_ => some k_ = (.slice Ao21 x3_1.length co21 : Value).ownBlock) (.slice Ao21 x3_1.length co21) x3_1 (a0.extract (x4_1 : Int).toNat a0.size) t164 w _ ?side1 ?side2 A20.out).mono ?_); (case side1 => repeat (first | (with_reducible first | exact HB.out | apply bA | apply bN | apply bO) | exact HB.out)); (case side2 => exact Kd.R_tight rfl HO_3.out); rintro e w22 ⟨v165, rfl, ho0, hb, hkp⟩; refine ⟨_, rfl, ?_⟩; have n0_ := am (Kd.R_mono (ok' := fun k_ => True) ho0 (fun k_ hk_ => trivial)); have n1_ := am (hb); clear HB; clear HO_3; have HO166 := n0_; have HB := n1_; clear n0_ n1_; (try clear hb); (try clear hkp); (try clear ho0); have hcv23 := own_string (P := Tryd.prog) Tryd.underlying27 Tryd.underlying5 Tryd.underlying9 (Kd.own_of_R HO166.out)))
      go_ret; exact ⟨ez, bz⟩
     ·rw [if_neg c19] at H
      exact absurd H (by simp)
    ·rw [if_neg c18] at H
     exact absurd H (by simp)

/-! ### slices_Clone_byte_byte: function 66 -/
def slices_Clone_byte_byte.f (l0 : List Int) : Option (List Int) := (some (([] : List Int) : List Int)).bind fun y178 => (if y178.length + l0.length < 140737488355328 then (some (y178 ++ l0)) else (none))
set_option maxHeartbeats 8000000 in
set_option maxRecDepth 100000 in
theorem slices_Clone_byte_byte.calls (A0 : Option Addr) (c0 : Nat) (l0 : List Int) (r : List Int) (w : World) (hr0 : Kd.C (Kd.int .u8) w A0 l0.length l0) (hc0 : l0.length ≤ c0) (h : slices_Clone_byte_byte.f l0 = some r) :
  Calls Tryd.prog 66 #[.slice A0 l0.length c0] w fun e w' => ∃ v0_ : Value, e = .returned (v0_) ∧ Kd.R (Kd.int .u8) 5 w' w.heap.size (fun _ => True) v0_ r ∧ Below w.heap.size w w' := by
 rcases A0 with _ | a0x
 ·have hl_ : l0 = [] := List.eq_nil_of_length_eq_zero (by
   rcases Nat.eq_zero_or_pos l0.length with h_ | h_
   ·exact h_
   ·obtain ⟨ad_, e_, _⟩ := hr0.2.2 h_
    cases e_)
  subst hl_; have hnl : ∀ (W : World) (n c : Nat), (binOp .eql 27 (.slice none n c) (.slice none 0 0)).run Tryd.prog W = .ok (.bool true) W := fun W n c => Lib.run_eql_slice_nil W _ _ none n c 0 0 Tryd.underlying27
  obtain rfl : r = [] := by
   unfold slices_Clone_byte_byte.f at h
   simpa using h.symm
  go_enter Tryd.func66, Tryd.ntmps66; go_wp2
  go_ret; exact ⟨_, rfl, Kd.R_nil _ _ _ _ _, Below.refl _ _⟩
 have hnl : ∀ (W : World) (n c : Nat), (binOp .eql 27 (.slice (some a0x) n c) (.slice none 0 0)).run Tryd.prog W = .ok (.bool false) W := fun W n c => Lib.run_eql_slice_nil W _ _ (some a0x) n c 0 0 Tryd.underlying27
 have HR0 := am hr0; have HC0 := am hc0; clear hr0 hc0; have HB := am (Below.refl w.heap.size w); have H : ((some (([] : List Int) : List Int)).bind fun y178 => (if y178.length + l0.length < 140737488355328 then (some (y178 ++ l0)) else (none))) = some r := h; clear h; refine bL H ?_; clear H; intro y178 hy178 H
 have Ny178 := am hy178; clear hy178; by_cases c2 : y178.length + l0.length < 140737488355328
 ·rw [if_pos c2] at H
  have LMc2 := am c2; clear c2; obtain ⟨y181, hy181⟩ : ∃ y_ : List Int, y_ = (y178 ++ l0) := ⟨_, rfl⟩; try rw [← hy181] at H
  have Ny181 := am hy181; clear hy181; obtain rfl := Option.some.inj H; go_enter Tryd.func66, Tryd.ntmps66; go_wp2_with (first | ((with_reducible refine gate_dst (N := 5) rfl ?_); refine Kd.R_lit (Kd.int .u8) _ 5 ?hg (N := 5) ?hd (xs := ([] : List Int)) (inner := []) (ok := fun _ => True) (okp := fun _ => True) ?hr ?hp (fun _ hk => hk) trivial (Below.refl _ _) (Nat.le_refl _) (by simp) ?_; (case hd => rfl); (case hg => rfl); (case hr => first | (go_simp; done) | (go_simp; rfl)); (case hp => exact (Reps.none _ _)); intro v179 w3 ho4 hb hg_ hnew_; clear hg_ hnew_; (first | rw [← Ny178.out] at ho4 | (simp only [Int.reduceToNat] at ho4; rw [← Ny178.out] at ho4)); have HO180 := am (Kd.R_lower ho4 siz); replace HB := bs hb; clear hb ho4) | ((with_reducible refine gate_builtin (b := .append) (xs := #[.tmp 5, .tmp 6]) rfl ?_); at_builtin; refine Kd.R_append_rows (Kd.int .u8) (w0 := w) w.heap.size rfl (.tmp 5) (.tmp 6) 27 5 (.int .u8 0) 1 rfl Tryd.underlying27 info5 rfl (by decide) (by omega) v179 y178 l0 _ _ _ (fun _ => True) (fun _ => False) rfl rfl ?aO ?aR (fun _ _ h => h) (fun _ h => h.elim) ?aF ?aB ?aS ?aL ?_; (case aR => exact cz (Kd.C_below HR0.out HB.out)); (case aB => exact bz); (case aF => exact (fun _ _ => trivial)); (case aO => exact (rz HO180.out)); (case aS => exact siz); (case aL => have := LMc2.out; omega); intro v182 w5 ho hb hg hat; rw [← Ny181.out] at ho; have n0_ := am (hb); have n1_ := am (ho); clear HB; clear HO180; have HB := n0_; have HO183 := n1_; clear n0_ n1_; clear ho hb hg hat))
  go_ret; exact ⟨_, by first | rfl | (simp [eN, eS] <;> rfl) | (simp [*, eN, eS] <;> rfl), by (with_reducible repeat (first | apply rA | apply rN | apply rD)); exact HO183.out, bz⟩
 ·rw [if_neg c2] at H
  exact absurd H (by simp)

/-! ### nar_Num: function 48 -/
def nar_Num.l0 : Nat → Int → List Int → Int → Option (List Int)
 | 0, _, _, _ => none
 | k + 1, x1, x5, x9 => if x9 < 8 then (if 0 ≤ (IntKind.u64.wrap (wrap64 (8 * (wrap64 (7 - x9))))) then (if x5.length < 140737488355328 then (nar_Num.l0 k x1 (x5 ++ [(shr .u64 (IntKind.u64.wrap (x1)) (IntKind.u64.wrap (wrap64 (8 * (wrap64 (7 - x9)))))) % 256]) (wrap64 (x9 + 1))) else (none)) else (none)) else (some x5)
def nar_Num.f (k : Nat) (l0 : List Int) (a1 : Int) : Option (List Int) := (slices_Clone_byte_byte.f l0).bind fun t184 => (nar_Num.l0 k a1 t184 0)
theorem nar_Num.mono_l : ∀ k, (∀ y0 y1 y2, LeO (nar_Num.l0 k y0 y1 y2) (nar_Num.l0 (k + 1) y0 y1 y2))
 | 0 => fun _ _ _ r h => by simp [nar_Num.l0] at h
 | k + 1 => by
  have ih0 := nar_Num.mono_l k
  ·intro y0 y1 y2
   unfold nar_Num.l0
   repeat' with_reducible first | exact ih0 _ _ _ | exact LeO.refl _ | exact LeO.none _ | refine LeO.ite ?_ ?_ | refine LeO.bind ?_ (fun _ => ?_)
theorem nar_Num.mono : ∀ a0 a1 k, LeO (nar_Num.f k a0 a1) (nar_Num.f (k + 1) a0 a1) := by
 intro a0 a1 k; have ih0 := nar_Num.mono_l k; unfold nar_Num.f
 repeat' with_reducible first | exact ih0 _ _ _ | exact LeO.refl _ | exact LeO.none _ | refine LeO.ite ?_ ?_ | refine LeO.bind ?_ (fun _ => ?_)
set_option maxHeartbeats 8000000 in
set_option maxRecDepth 100000 in
theorem nar_Num.calls (k : Nat) (A0 : Option Addr) (c0 : Nat) (l0 : List Int) (a1 : Int) (r : List Int) (w : World) (hr0 : Kd.C (Kd.int .u8) w A0 l0.length l0) (hc0 : l0.length ≤ c0) (h : nar_Num.f k l0 a1 = some r) :
  Calls Tryd.prog 48 #[.slice A0 l0.length c0, .int .i64 a1] w fun e w' => ∃ v0_ : Value, e = .returned (v0_) ∧ Kd.R (Kd.int .u8) 5 w' w.heap.size (fun _ => True) v0_ r ∧ Below w.heap.size w w' := by
 have HR0 := am hr0; have HC0 := am hc0; clear hr0 hc0; have HB := am (Below.refl w.heap.size w); have H : ((slices_Clone_byte_byte.f l0).bind fun t184 => (nar_Num.l0 k a1 t184 0)) = some r := h; clear h; refine oR H ?_; clear H; intro t184 A3 H; have H' := am H; clear H; go_enter Tryd.func48, Tryd.ntmps48; go_wp2_with (first | ((with_reducible refine gate_callee (f := 66) rfl ?_); refine gL (some 8) Tryd.func66 #[.slice A0 l0.length c0] ?_; (with_reducible refine (slices_Clone_byte_byte.calls _ _ l0 t184 _ ?side1 ?side2 A3.out).mono ?_); (case side1 => exact cz HR0.out); (case side2 => exact HC0.out); rintro e w4 ⟨v185, rfl, ho0, hb⟩; refine ⟨_, rfl, ?_⟩; have HO186 := am (Kd.R_lower ho0 siz); replace HB := bs hb; (try clear ho0)))
 go_loopg [5, 9] k (fun kq v5 v9 w' => ∃ (x5_1 : List Int) (x9_1 : Int), v9 = .int .i64 x9_1 ∧ Aside0 (nar_Num.l0 kq a1 x5_1 x9_1 = some r) ∧ Aside0 (kq ≤ k) ∧ Aside0 (Kd.R (Kd.int .u8) 5 w' w.heap.size (fun _ => True) v5 x5_1) ∧ Aside0 (Below w.heap.size w w'))
 case atStart => exact ⟨(t184), (0), (by first | rfl | (simp; done) | (simp [*]; done)), H', ⟨Nat.le_refl _⟩, ⟨rz HO186.out⟩, ⟨bz⟩⟩
 case round =>
  clear H'; (try clear p2); (try clear c4); obtain ⟨x5_1, x9_1, rfl, HA, HK1, HO_5, HB⟩ := hrel; cases gk with
  | zero => exact absurd HA.out (by simp [nar_Num.l0])
  | succ k1 =>
   have H := HA.out; clear HA; simp only [nar_Num.l0] at H
   by_cases c5 : x9_1 < 8
   ·rw [if_pos c5] at H
    have c5b0 : decide (x9_1 < 8) = true := decide_eq_true c5; clear c5; obtain ⟨ji6, hji6⟩ : ∃ j_ : Int, (IntKind.u64.wrap (wrap64 (8 * (wrap64 (7 - x9_1))))) = j_ := ⟨_, rfl⟩; replace H : (if 0 ≤ (ji6) then (if x5_1.length < 140737488355328 then (nar_Num.l0 k1 a1 (x5_1 ++ [(shr .u64 (IntKind.u64.wrap (a1)) (ji6)) % 256]) (wrap64 (x9_1 + 1))) else (none)) else (none)) = some r := by first | (rw [hji6] at H; exact H) | (simp only [hji6] at H ⊢; exact H)
    by_cases c7 : 0 ≤ (ji6)
    ·rw [if_pos c7] at H
     have c7b0 := eq_true c7; have c7b1 : decide (0 ≤ (ji6)) = true := decide_eq_true c7; clear c7; obtain ⟨ji8, hji8⟩ : ∃ j_ : Int, (shr .u64 (IntKind.u64.wrap (a1)) (ji6)) = j_ := ⟨_, rfl⟩; replace H : (if x5_1.length < 140737488355328 then (nar_Num.l0 k1 a1 (x5_1 ++ [(ji8) % 256]) (wrap64 (x9_1 + 1))) else (none)) = some r := by first | (rw [hji8] at H; exact H) | (simp only [hji8] at H ⊢; exact H)
     have hji8_ : ((IntKind.u64.wrap (a1)) / 2 ^ min (ji6).toNat 64) = ji8 := hji8; have hji8z : (ji6) ≤ 64 → ((IntKind.u64.wrap (a1)) / 2 ^ (ji6).toNat) = ji8 := shr_small hji8; by_cases c9 : x5_1.length < 140737488355328
     ·rw [if_pos c9] at H
      have LMc9 := am c9; clear c9; obtain ⟨y187, hy187⟩ : ∃ y_ : List Int, y_ = (x5_1 ++ [(ji8) % 256]) := ⟨_, rfl⟩; try rw [← hy187] at H
      have Ny187 := am hy187; clear hy187; have H' := am H; clear H; go_wp2_with (first | ((with_reducible refine gate_builtin (b := .append) (xs := #[.tmp 12, .tmp 21]) rfl ?_); at_builtin; refine Kd.R_append (Kd.int .u8) (w0 := w) w.heap.size rfl (.tmp 12) (.tmp 21) 27 5 (.int .u8 0) 1 rfl Tryd.underlying27 info5 rfl (by decide) (by omega) u5 x5_1 ((ji8) % 256) [.int .u8 ((ji8) % 256)] (fun _ => True) (fun _ => False) rfl rfl ?aP (fun _ hk => hk.elim) ?aF ?aO ?aB ?aS ?aL ?_; (case aP => exact rfl); (case aB => exact bz); (case aF => exact (fun _ _ => trivial)); (case aO => exact (rz HO_5.out)); (case aS => exact siz); (case aL => have := LMc9.out; omega); intro v188 w10 ho hb hg hat; rw [← Ny187.out] at ho; have n0_ := am (hb); have n1_ := am (ho); clear HB; clear HO_5; have HB := n0_; have HO189 := n1_; clear n0_ n1_; clear ho hb hg hat))
      go_roundg k1
      case measure => have := HK1.out; omega
      case rel => exact ⟨(y187), (wrap64 (x9_1 + 1)), (by first | rfl | (simp; done) | (simp [*]; done)), H', ⟨by have := HK1.out; omega⟩, ⟨rz HO189.out⟩, ⟨bz⟩⟩
     ·rw [if_neg c9] at H
      exact absurd H (by simp)
    ·rw [if_neg c7] at H
     exact absurd H (by simp)
   ·rw [if_neg c5] at H
    have c5b0 : decide (x9_1 < 8) = false := decide_eq_false c5; clear c5; obtain rfl := Option.some.inj H; go_wp2
    go_ret; exact ⟨_, by first | rfl | (simp [eN, eS] <;> rfl) | (simp [*, eN, eS] <;> rfl), by (with_reducible repeat (first | apply rA | apply rN | apply rD)); exact HO_5.out, bz⟩

/-! ### nar_Text: function 49 -/
def nar_Text.f (k : Nat) (l0 : List Int) (a1 : ByteArray) : Option (List Int) := (nar_Num.f k l0 (a1.size : Int)).bind fun t190 => (if t190.length + a1.size < 140737488355328 then ((some (t190 ++ bytesOf a1 : List Int)).bind fun y193 => (if 0 ≤ ((8 - ((a1.size : Int) % 8)) % 8) then (if y193.length + ((8 - ((a1.size : Int) % 8)) % 8 : Int).toNat < 140737488355328 then (some (y193 ++ List.replicate ((8 - ((a1.size : Int) % 8)) % 8 : Int).toNat 0)) else (none)) else (none))) else (none))
theorem nar_Text.mono : ∀ a0 a1 k, LeO (nar_Text.f k a0 a1) (nar_Text.f (k + 1) a0 a1) := by
 intro a0 a1 k; unfold nar_Text.f
 repeat' with_reducible first | exact nar_Num.mono _ _ _ | exact LeO.refl _ | exact LeO.none _ | refine LeO.ite ?_ ?_ | refine LeO.bind ?_ (fun _ => ?_)
set_option maxHeartbeats 8000000 in
set_option maxRecDepth 100000 in
theorem nar_Text.calls (k : Nat) (A0 : Option Addr) (c0 : Nat) (l0 : List Int) (a1 : ByteArray) (r : List Int) (w : World) (hr0 : Kd.C (Kd.int .u8) w A0 l0.length l0) (hc0 : l0.length ≤ c0) (h : nar_Text.f k l0 a1 = some r) :
  Calls Tryd.prog 49 #[.slice A0 l0.length c0, .string a1] w fun e w' => ∃ v0_ : Value, e = .returned (v0_) ∧ Kd.R (Kd.int .u8) 5 w' w.heap.size (fun _ => True) v0_ r ∧ Below w.heap.size w w' := by
 have HR0 := am hr0; have HC0 := am hc0; clear hr0 hc0; have HB := am (Below.refl w.heap.size w); have H : ((nar_Num.f k l0 (a1.size : Int)).bind fun t190 => (if t190.length + a1.size < 140737488355328 then ((some (t190 ++ bytesOf a1 : List Int)).bind fun y193 => (if 0 ≤ ((8 - ((a1.size : Int) % 8)) % 8) then (if y193.length + ((8 - ((a1.size : Int) % 8)) % 8 : Int).toNat < 140737488355328 then (some (y193 ++ List.replicate ((8 - ((a1.size : Int) % 8)) % 8 : Int).toNat 0)) else (none)) else (none))) else (none))) = some r := h; clear h; refine oR H ?_; clear H; intro t190 A3 H; by_cases c4 : t190.length + a1.size < 140737488355328
 ·rw [if_pos c4] at H
  have LMc4 := am c4; clear c4; refine bL H ?_; clear H; intro y193 hy193 H
  have Ny193 := am hy193; clear hy193; obtain ⟨ji5, hji5⟩ : ∃ j_ : Int, ((8 - ((a1.size : Int) % 8)) % 8) = j_ := ⟨_, rfl⟩; replace H : (if 0 ≤ (ji5) then (if y193.length + (ji5 : Int).toNat < 140737488355328 then (some (y193 ++ List.replicate (ji5 : Int).toNat 0)) else (none)) else (none)) = some r := by first | (rw [hji5] at H; exact H) | (simp only [hji5] at H ⊢; exact H)
  (try rw [hji5] at A3)
  by_cases c6 : 0 ≤ (ji5)
  ·rw [if_pos c6] at H
   have c6b0 := eq_true c6; have c6b1 : decide (0 ≤ (ji5)) = true := decide_eq_true c6; clear c6; by_cases c7 : y193.length + (ji5 : Int).toNat < 140737488355328
   ·rw [if_pos c7] at H
    have LMc7 := am c7; clear c7; obtain ⟨y196, hy196⟩ : ∃ y_ : List Int, y_ = (y193 ++ List.replicate (ji5 : Int).toNat 0) := ⟨_, rfl⟩; try rw [← hy196] at H
    have Ny196 := am hy196; clear hy196; obtain rfl := Option.some.inj H; subst hji5; go_enter Tryd.func49, Tryd.ntmps49; go_wp2_with (first | ((with_reducible refine gate_callee (f := 48) rfl ?_); refine gL (some 9) Tryd.func48 #[.slice A0 l0.length c0, .int .i64 (a1.size : Int)] ?_; (with_reducible refine (nar_Num.calls k _ _ l0 (a1.size : Int) t190 _ ?side1 ?side2 A3.out).mono ?_); (case side1 => exact cz HR0.out); (case side2 => exact HC0.out); rintro e w8 ⟨v191, rfl, ho0, hb⟩; refine ⟨_, rfl, ?_⟩; have HO192 := am (Kd.R_lower ho0 siz); replace HB := bs hb; (try clear ho0)) | (at_builtin; refine Kd.R_append_str (w0 := w) w.heap.size rfl (.tmp 9) _ 27 9 5 rfl Tryd.underlying27 Tryd.underlying9 info5 v191 t190 a1 (fun _ => True) rfl rfl ?aF ?aO ?aB ?aS ?aL ?_; (case aB => exact bz); (case aF => exact (fun _ _ => trivial)); (case aO => exact (rz HO192.out)); (case aS => exact siz); (case aL => have := LMc4.out; omega); intro v194 w9 ho hb hg hat; rw [← Ny193.out] at ho; have n0_ := am (hb); have n1_ := am (ho); clear HB; clear HO192; have HB := n0_; have HO195 := n1_; clear n0_ n1_; clear ho hb hg hat) | (at_builtin; refine Kd.R_append_zeros (Kd.int .u8) (w0 := w) w.heap.size rfl (.tmp 12) (.tmp 17) 27 3 5 (.int .u8 0) 1 rfl Tryd.underlying27 Tryd.underlying3 info5 rfl (by decide) (by omega) v194 y193 0 (((8 - ((a1.size : Int) % 8)) % 8) : Int) (fun _ => True) rfl rfl rfl ?aF ?aO (of_decide_eq_true (by assumption)) ?aB ?aS ?aL ?_; (case aB => exact bz); (case aF => exact (fun _ _ => trivial)); (case aO => exact (rz HO195.out)); (case aS => exact siz); (case aL => have := LMc7.out; omega); intro v197 w10 ho hb hg hat; rw [← Ny196.out] at ho; have n0_ := am (hb); have n1_ := am (ho); clear HB; clear HO195; have HB := n0_; have HO198 := n1_; clear n0_ n1_; clear ho hb hg hat))
    go_ret; exact ⟨_, by first | rfl | (simp [eN, eS] <;> rfl) | (simp only [← hji5]; first | rfl | (simp [eN, eS] <;> rfl)) | (simp [*, eN, eS] <;> rfl), by (with_reducible repeat (first | apply rA | apply rN | apply rD)); exact HO198.out, bz⟩
   ·rw [if_neg c7] at H
    exact absurd H (by simp)
  ·rw [if_neg c6] at H
   exact absurd H (by simp)
 ·rw [if_neg c4] at H
  exact absurd H (by simp)

end Go.Proofs.YthbdbgjggoobnaaDoor.P
