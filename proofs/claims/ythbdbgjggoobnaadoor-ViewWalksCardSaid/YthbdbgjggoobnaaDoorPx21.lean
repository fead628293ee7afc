/- Laid by a program of this session (wip/pr), after the printer of the kit: the functions that a statement reaches as plain Lean functions, and that the calls of the machine come to them. No condition. -/
import Derived.Test.YthbdbgjggoobnaaDoorPx0
import Derived.Test.YthbdbgjggoobnaaDoorPx2
import Derived.Test.YthbdbgjggoobnaaDoorPx11
import Derived.Test.YthbdbgjggoobnaaDoorPx13
import Derived.Test.YthbdbgjggoobnaaDoorPx20
namespace Go.Proofs.YthbdbgjggoobnaaDoor.P
open Go.RowKit Go.Proofs.YthbdbgjggoobnaaDoorX Go.Proofs.YthbdbgjggoobnaaDoorW.PrintWords Go.Proofs.YthbdbgjggoobnaaDoorW.PrintLast Go.Proofs.YthbdbgjggoobnaaDoorW.PrintMore
attribute [local go_sem] max2_int min2_int max_two min_two
set_option linter.unusedVariables false
set_option linter.unusedSimpArgs false

/-! ### hogsheadlaw20_awake: function 11 -/
/-- A view that was opened: by w0 it stood; since then nothing that stood was changed. -/
def IsV84 (w0 W : World) (g : Nat) (f0 : List (S115)) (f1 : List (S87)) : Prop := IsS84 w0 W g f0 f1 ∧ Below w0.heap.size w0 W
theorem IsV84.below {w0 W : World} {g : Nat} {f0 : List (S115)} {f1 : List (S87)} {W1 : World} (h : IsV84 w0 W g f0 f1) (hw : Below W.heap.size W W1) : IsV84 w0 W1 g f0 f1 := ⟨h.1.below hw, below_step h.2 hw⟩
theorem IsV84.alloc {w0 W : World} {g : Nat} {f0 : List (S115)} {f1 : List (S87)} (h : IsV84 w0 W g f0 f1) (o : Obj) : IsV84 w0 (W.alloc o) g f0 f1 := ⟨h.1.alloc o, bA h.2 o⟩
theorem IsV84.drewN {w0 W : World} {g : Nat} {f0 : List (S115)} {f1 : List (S87)} (h : IsV84 w0 W g f0 f1) (m : Nat) : IsV84 w0 (W.drewN m) g f0 f1 := ⟨h.1.drewN m, bN h.2 m⟩
theorem IsV84.drew {w0 W : World} {g : Nat} {f0 : List (S115)} {f1 : List (S87)} (h : IsV84 w0 W g f0 f1) : IsV84 w0 W.drew g f0 f1 := ⟨h.1.drew, bO h.2⟩
theorem IsV84.lt {w0 W : World} {g : Nat} {f0 : List (S115)} {f1 : List (S87)} (h : IsV84 w0 W g f0 f1) : g < W.heap.size := h.1.lt
theorem IsV84.far {w0 W : World} {g : Nat} {f0 : List (S115)} {f1 : List (S87)} {b i : Nat} (h : IsV84 w0 W g f0 f1) (hne : g ≠ b) (hp : w0.heap.size ≤ b) (u : Value) : IsV84 w0 (W.setCell ⟨b, i, none⟩ u) g f0 f1 := ⟨h.1.far (p := ⟨b, i, none⟩) hne u, below_set h.2 hp⟩
theorem IsV84.grown {w0 W : World} {g : Nat} {f0 : List (S115)} {f1 : List (S87)} {W1 : World} {row : Option Nat} (h : IsV84 w0 W g f0 f1) (hw : W.grownBy W1 row) (hne : some g ≠ row) (hb : Below w0.heap.size w0 W1) : IsV84 w0 W1 g f0 f1 := ⟨h.1.grown hw hne, hb⟩
theorem IsV84.of {w0 W : World} {g : Nat} {f0 : List (S115)} {f1 : List (S87)} (h : IsS84 w0 W g f0 f1) (hb : Below w0.heap.size w0 W) : IsV84 w0 W g f0 f1 := ⟨h, hb⟩
theorem IsV84.is {w0 W : World} {g : Nat} {f0 : List (S115)} {f1 : List (S87)} (h : IsV84 w0 W g f0 f1) : IsS84 w0 W g f0 f1 := h.1
theorem IsV84.bel {w0 W : World} {g : Nat} {f0 : List (S115)} {f1 : List (S87)} (h : IsV84 w0 W g f0 f1) : Below w0.heap.size w0 W := h.2
theorem IsV84.apart {w0 W : World} {g : Nat} {f0 : List (S115)} {f1 : List (S87)} {α : Type} {d : Kd α} {e : Nat} {base : Nat} {ok : Nat → Prop} {v : Value} {xs : List α} (h : IsV84 w0 W g f0 f1) (ho : d.R e W base ok v xs) (ht : ∀ q, q ∈ e :: d.E → q ≠ 84) : d.R e W base (fun k => ok k ∧ k ≠ g) v xs := h.1.apart ho ht
theorem IsV84.own_ne {w0 W : World} {g : Nat} {f0 : List (S115)} {f1 : List (S87)} {α : Type} {d : Kd α} {e : Nat} {base : Nat} {ok : Nat → Prop} {v : Value} {xs : List α} (h : IsV84 w0 W g f0 f1) (ho : d.R e W base ok v xs) (ht : e ≠ 84) : some g ≠ v.ownBlock := h.1.own_ne ho ht
theorem IsV84.apartS {w0 W : World} {g : Nat} {f0 : List (S115)} {f1 : List (S87)} {α : Type} {d : Kd α} {e : Nat} {base : Nat} {ok : Nat → Prop} {v : Value} {xs : List α} (h : IsV84 w0 W g f0 f1) (ho : d.S e W base ok v xs) (ht : ∀ q, q ∈ e :: d.E → q ≠ 84) : d.S e W base (fun k => ok k ∧ k ≠ g) v xs := h.1.apartS ho ht
theorem IsV84.own_neS {w0 W : World} {g : Nat} {f0 : List (S115)} {f1 : List (S87)} {α : Type} {d : Kd α} {e : Nat} {base : Nat} {ok : Nat → Prop} {v : Value} {xs : List α} (h : IsV84 w0 W g f0 f1) (ho : d.S e W base ok v xs) (ht : e ≠ 84) : some g ≠ v.ownBlock := h.1.own_neS ho ht
theorem IsV84.apartQ {w0 W : World} {g : Nat} {f0 : List (S115)} {f1 : List (S87)} {α : Type} {d : Kd α} {e : Nat} {base : Nat} {ok : Nat → Prop} {v : Value} {xs : List α} (h : IsV84 w0 W g f0 f1) (ho : d.Q e W base ok v xs) (ht : ∀ q, q ∈ e :: d.E → q ≠ 84) : d.Q e W base (fun k => ok k ∧ k ≠ g) v xs := h.1.apartQ ho ht
theorem IsV84.own_neQ {w0 W : World} {g : Nat} {f0 : List (S115)} {f1 : List (S87)} {α : Type} {d : Kd α} {e : Nat} {base : Nat} {ok : Nat → Prop} {v : Value} {xs : List α} (h : IsV84 w0 W g f0 f1) (ho : d.Q e W base ok v xs) (ht : e ≠ 84) : some g ≠ v.ownBlock := h.1.own_neQ ho ht
def hogsheadlaw20_awake.j0 : Nat → Bool → List (S115) → List (S87) → Option (Bool)
 | 0, _, _, _ => none
 | k + 1, x31, x374000, x374001 => if x31 = true then (some false) else ((view_View_ReadAt.f k x374000 x374001 (⟨#[97]⟩ : ByteArray) 1 9).bind fun bt374 => ((view_View_ReadAt.f k x374000 x374001 (⟨#[97]⟩ : ByteArray) 5 1).bind fun bt376 => ((view_View_Lookup.f k x374000 x374001 (⟨#[97]⟩ : ByteArray)).bind fun bt378 => ((view_OpenErr.f k ([] : List Int)).bind fun t381 => (if bt374.1.toList = ([98, 99] : List UInt8) then (if bt374.2 = true then (if bt376.1.toList = ([] : List UInt8) then (if bt376.2 = true then (if bt378.1 = 2 then (if bt378.2.1 = 3 then (if bt378.2.2 = true then (some (t381 == 5)) else (some false)) else (some false)) else (some false)) else (some false)) else (some false)) else (some false)) else (some false))))))
def hogsheadlaw20_awake.f (k : Nat)  : Option (Bool) := (image_Lay.f k (([(⟨(⟨#[]⟩ : ByteArray), 1, (⟨#[]⟩ : ByteArray)⟩ : S35), (⟨(⟨#[97]⟩ : ByteArray), 2, (⟨#[97, 98, 99]⟩ : ByteArray)⟩ : S35)] : List (S35)))).bind fun bt367 => ((view_OpenOk.f k bt367.1).bind fun bt371 => (if 0 = 0 then (hogsheadlaw20_awake.j0 k false bt371.1 bt371.2) else (hogsheadlaw20_awake.j0 k true bt371.1 bt371.2)))
theorem hogsheadlaw20_awake.mono_l : ∀ k, (∀ y0 y1 y2, LeO (hogsheadlaw20_awake.j0 k y0 y1 y2) (hogsheadlaw20_awake.j0 (k + 1) y0 y1 y2))
 | 0 => fun _ _ _ r h => by simp [hogsheadlaw20_awake.j0] at h
 | k + 1 => by
  have ih0 := hogsheadlaw20_awake.mono_l k
  ·intro y0 y1 y2
   unfold hogsheadlaw20_awake.j0
   repeat' with_reducible first | exact ih0 _ _ _ | exact view_OpenErr.mono _ _ | exact image_Lay.mono _ _ | exact view_OpenOk.mono _ _ | exact view_View_Lookup.mono _ _ _ _ | exact view_View_ReadAt.mono _ _ _ _ _ _ | exact LeO.refl _ | exact LeO.none _ | refine LeO.ite ?_ ?_ | refine LeO.bind ?_ (fun _ => ?_)
theorem hogsheadlaw20_awake.mono : ∀ k, LeO (hogsheadlaw20_awake.f k ) (hogsheadlaw20_awake.f (k + 1) ) := by
 intro  k; have ih0 := hogsheadlaw20_awake.mono_l k; unfold hogsheadlaw20_awake.f
 repeat' with_reducible first | exact ih0 _ _ _ | exact view_OpenErr.mono _ _ | exact image_Lay.mono _ _ | exact view_OpenOk.mono _ _ | exact view_View_Lookup.mono _ _ _ _ | exact view_View_ReadAt.mono _ _ _ _ _ _ | exact LeO.refl _ | exact LeO.none _ | refine LeO.ite ?_ ?_ | refine LeO.bind ?_ (fun _ => ?_)
set_option maxHeartbeats 8000000 in
set_option maxRecDepth 100000 in
theorem hogsheadlaw20_awake.calls (k : Nat)  (r : Bool) (w : World) (h : hogsheadlaw20_awake.f k  = some true) :
  Calls Tryd.prog 11 #[] w fun e w' => e = .returned (.bool true) ∧ Below w.heap.size w w' := by
 have hu35 := Tryd.underlying35; have HB := am (Below.refl w.heap.size w); have H : ((image_Lay.f k (([(⟨(⟨#[]⟩ : ByteArray), 1, (⟨#[]⟩ : ByteArray)⟩ : S35), (⟨(⟨#[97]⟩ : ByteArray), 2, (⟨#[97, 98, 99]⟩ : ByteArray)⟩ : S35)] : List (S35)))).bind fun bt367 => ((view_OpenOk.f k bt367.1).bind fun bt371 => (if 0 = 0 then (hogsheadlaw20_awake.j0 k false bt371.1 bt371.2) else (hogsheadlaw20_awake.j0 k true bt371.1 bt371.2)))) = some true := h; clear h; obtain ⟨y364, hy364⟩ : ∃ y_ : List (S35), y_ = (([(⟨(⟨#[]⟩ : ByteArray), 1, (⟨#[]⟩ : ByteArray)⟩ : S35), (⟨(⟨#[97]⟩ : ByteArray), 2, (⟨#[97, 98, 99]⟩ : ByteArray)⟩ : S35)] : List (S35))) := ⟨_, rfl⟩; try rw [← hy364] at H
 have Ny364 := am hy364; clear hy364; replace H := oB H; obtain ⟨⟨t367, t368⟩, A10, H⟩ := H; replace H : ((view_OpenOk.f k t367).bind fun bt371 => (if 0 = 0 then (hogsheadlaw20_awake.j0 k false bt371.1 bt371.2) else (hogsheadlaw20_awake.j0 k true bt371.1 bt371.2))) = some true := H; have A1 := am A10; clear A10; replace H := oB H; obtain ⟨⟨t371, t372⟩, A20, H⟩ := H; replace H : (if 0 = 0 then (hogsheadlaw20_awake.j0 k false t371 t372) else (hogsheadlaw20_awake.j0 k true t371 t372)) = some true := H; have A2 := am A20; clear A20; have HC3 := am H; clear H; go_enter Tryd.func11, Tryd.ntmps11; go_upto_region 3 with (first | ((with_reducible refine gate_dst (N := 17) rfl ?_); refine Kd.R_lit k35 _ 35 ?hg (N := 17) ?hd (xs := ([(⟨(⟨#[]⟩ : ByteArray), 1, (⟨#[]⟩ : ByteArray)⟩ : S35), (⟨(⟨#[97]⟩ : ByteArray), 2, (⟨#[97, 98, 99]⟩ : ByteArray)⟩ : S35)] : List (S35))) (inner := [.string (⟨#[]⟩ : ByteArray), .int .i64 1, .string (⟨#[]⟩ : ByteArray), .string (⟨#[97]⟩ : ByteArray), .int .i64 2, .string (⟨#[97, 98, 99]⟩ : ByteArray)]) (ok := fun _ => True) (okp := fun _ => True) ?hr ?hp (fun _ hk => hk) trivial (Below.refl _ _) (Nat.le_refl _) (by simp) ?_; (case hd => rfl); (case hg => rfl); (case hr => first | (go_simp; done) | (go_simp; rfl)); (case hp => exact (Reps.c3 (show Kd.M k35 _ _ _ (⟨(⟨#[]⟩ : ByteArray), 1, (⟨#[]⟩ : ByteArray)⟩ : S35) [.string (⟨#[]⟩ : ByteArray), .int .i64 1, .string (⟨#[]⟩ : ByteArray)] from (k35_mkM _ _ _ (⟨(⟨#[]⟩ : ByteArray), 1, (⟨#[]⟩ : ByteArray)⟩ : S35) )) (Reps.c3 (show Kd.M k35 _ _ _ (⟨(⟨#[97]⟩ : ByteArray), 2, (⟨#[97, 98, 99]⟩ : ByteArray)⟩ : S35) [.string (⟨#[97]⟩ : ByteArray), .int .i64 2, .string (⟨#[97, 98, 99]⟩ : ByteArray)] from (k35_mkM _ _ _ (⟨(⟨#[97]⟩ : ByteArray), 2, (⟨#[97, 98, 99]⟩ : ByteArray)⟩ : S35) )) (Reps.none _ _)))); intro v365 w4 ho5 hb hg_ hnew_; clear hg_ hnew_; (first | rw [← Ny364.out] at ho5 | (simp only [Int.reduceToNat] at ho5; rw [← Ny364.out] at ho5)); have HO366 := am (Kd.R_lower ho5 siz); replace HB := bs hb; clear hb ho5; obtain ⟨Ao6, co6, eo6⟩ := Kd.R_slice HO366.out; subst eo6) | ((with_reducible refine gate_callee (f := 13) rfl ?_); refine gL (some 18) Tryd.func13 #[.slice Ao6 y364.length co6] ?_; (with_reducible refine (image_Lay.calls k _ _ y364 t367 t368 _ ?side1 ?side2 A1.out).mono ?_); (case side1 => exact cz (Kd.R_reads' HO366.out).2.2); (case side2 => exact (Kd.R_reads' HO366.out).2.1); rintro e w7 ⟨v369, rfl, ho0, hb⟩; refine ⟨_, rfl, ?_⟩; replace HO366 := am (Kd.R_below (rz HO366.out) hb); have HO370 := am (Kd.R_lower ho0 siz); replace HB := bs hb; (try clear ho0); obtain ⟨Ao8, co8, eo8⟩ := Kd.R_slice HO370.out; subst eo8) | ((with_reducible refine gate_callee (f := 14) rfl ?_); refine gL (some 23) Tryd.func14 #[.slice Ao8 t367.length co8] ?_; (with_reducible refine (view_OpenOk.calls k _ _ t367 t371 t372 _ ?side2 ?side3 A2.out).mono ?_); (case side2 => exact cz (Kd.R_reads' HO370.out).2.2); (case side3 => exact (Kd.R_reads' HO370.out).2.1); rintro e w9 ⟨g373, rfl, hgv_, hvr_, hb2⟩; refine ⟨_, rfl, ?_⟩; have HB9_ := am (below_step bz hb2); replace HO366 := am (Kd.R_below (rz HO366.out) hb2); replace HO370 := am (Kd.R_below (rz HO370.out) hb2); replace HB := am (HB9_.out); have HI373 := am (show IsV84 w9 w9 g373 t371 t372 from ⟨hvr_.is, Below.refl _ _⟩)))
 (try simp only [Act.put, sA, sB, sC])
 go_cut [31] (fun v31 wc => ∃ (kq : Nat) (x31_2 : Bool), v31 = .bool x31_2 ∧ Aside0 (hogsheadlaw20_awake.j0 kq x31_2 t371 t372 = some true) ∧ Aside0 (kq ≤ k) ∧ Aside0 (IsV84 w9 wc g373 t371 t372) ∧ Aside0 (Below w.heap.size w wc))
 case first =>
  have H := HC3.out; clear HC3; by_cases c10 : 0 = 0
  ·first | rw [if_pos c10] at H | rw [if_pos trivial] at H
   have c10b0 : (0 == 0) = true := beq_iff_eq.mpr c10; have c10b1 : (0 != 0) = false := bne_eq_false_iff_eq.mpr c10; clear c10; (first | rw [c10b0] | (simp only [i64_w, i32_w]; rw [c10b0]) | skip)
   have H' := am H; clear H; go_wp2
   go_meet; case rel => exact ⟨_, (false), (by first | rfl | (simp; done) | (simp [*]; done)), H', ⟨by first | omega | exact Nat.le_refl _⟩, ⟨by repeat (first | (with_reducible first | exact HI373.out | apply IsV84.alloc | apply IsV84.drewN | apply IsV84.drew) | exact HI373.out)⟩, ⟨by repeat (first | (with_reducible first | exact HB.out | apply bA | apply bN | apply bO | refine below_set ?_ (IsV84.ge HI373.out)) | exact HB.out)⟩⟩
  ·exact absurd rfl c10
 case rest =>
  clear HC3; (try clear c1); (try clear p2); (try clear c3); (try clear c10); (try clear c10b0); (try clear c10b1); obtain ⟨kq, x31_2, rfl, HA, HJ2, HI373, HB⟩ := hcut; cases kq with
  | zero => exact absurd HA.out (by simp [hogsheadlaw20_awake.j0])
  | succ kj2 =>
   have H := HA.out; clear HA; simp only [hogsheadlaw20_awake.j0] at H
   by_cases c11 : x31_2 = true
   ·subst c11
    have H1 : (some false) = some true := by rw [if_pos rfl] at H; exact H
    exact absurd H1 (by simp)
   ·replace c11 := Bool.eq_false_iff.mpr c11
    subst c11; have H1 : ((view_View_ReadAt.f kj2 t371 t372 (⟨#[97]⟩ : ByteArray) 1 9).bind fun bt374 => ((view_View_ReadAt.f kj2 t371 t372 (⟨#[97]⟩ : ByteArray) 5 1).bind fun bt376 => ((view_View_Lookup.f kj2 t371 t372 (⟨#[97]⟩ : ByteArray)).bind fun bt378 => ((view_OpenErr.f kj2 ([] : List Int)).bind fun t381 => (if bt374.1.toList = ([98, 99] : List UInt8) then (if bt374.2 = true then (if bt376.1.toList = ([] : List UInt8) then (if bt376.2 = true then (if bt378.1 = 2 then (if bt378.2.1 = 3 then (if bt378.2.2 = true then (some (t381 == 5)) else (some false)) else (some false)) else (some false)) else (some false)) else (some false)) else (some false)) else (some false)))))) = some true := by rw [if_neg (show ¬ (false = true) by decide)] at H; exact H
    clear H; have H := H1; clear H1; replace H := oB H; obtain ⟨⟨t374, t375⟩, A120, H⟩ := H; replace H : ((view_View_ReadAt.f kj2 t371 t372 (⟨#[97]⟩ : ByteArray) 5 1).bind fun bt376 => ((view_View_Lookup.f kj2 t371 t372 (⟨#[97]⟩ : ByteArray)).bind fun bt378 => ((view_OpenErr.f kj2 ([] : List Int)).bind fun t381 => (if t374.toList = ([98, 99] : List UInt8) then (if t375 = true then (if bt376.1.toList = ([] : List UInt8) then (if bt376.2 = true then (if bt378.1 = 2 then (if bt378.2.1 = 3 then (if bt378.2.2 = true then (some (t381 == 5)) else (some false)) else (some false)) else (some false)) else (some false)) else (some false)) else (some false)) else (some false))))) = some true := H; have A12 := am A120; clear A120; replace H := oB H; obtain ⟨⟨t376, t377⟩, A130, H⟩ := H; replace H : ((view_View_Lookup.f kj2 t371 t372 (⟨#[97]⟩ : ByteArray)).bind fun bt378 => ((view_OpenErr.f kj2 ([] : List Int)).bind fun t381 => (if t374.toList = ([98, 99] : List UInt8) then (if t375 = true then (if t376.toList = ([] : List UInt8) then (if t377 = true then (if bt378.1 = 2 then (if bt378.2.1 = 3 then (if bt378.2.2 = true then (some (t381 == 5)) else (some false)) else (some false)) else (some false)) else (some false)) else (some false)) else (some false)) else (some false)))) = some true := H; have A13 := am A130; clear A130; replace H := oB H; obtain ⟨⟨t378, t379, t380⟩, A140, H⟩ := H; replace H : ((view_OpenErr.f kj2 ([] : List Int)).bind fun t381 => (if t374.toList = ([98, 99] : List UInt8) then (if t375 = true then (if t376.toList = ([] : List UInt8) then (if t377 = true then (if t378 = 2 then (if t379 = 3 then (if t380 = true then (some (t381 == 5)) else (some false)) else (some false)) else (some false)) else (some false)) else (some false)) else (some false)) else (some false))) = some true := H
    have A14 := am A140; clear A140; refine oR H ?_; clear H; intro t381 A15 H; by_cases c16 : t374.toList = ([98, 99] : List UInt8)
    ·rw [if_pos c16] at H
     have c16b0 : (t374.toList == ([98, 99] : List UInt8)) = true := beq_iff_eq.mpr c16; have c16b1 : (t374.toList != ([98, 99] : List UInt8)) = false := bne_eq_false_iff_eq.mpr c16; clear c16; by_cases c17 : t375 = true
     ·subst c17
      have H1 : (if t376.toList = ([] : List UInt8) then (if t377 = true then (if t378 = 2 then (if t379 = 3 then (if t380 = true then (some (t381 == 5)) else (some false)) else (some false)) else (some false)) else (some false)) else (some false)) = some true := by rw [if_pos rfl] at H; exact H
      clear H; have H := H1; clear H1; by_cases c18 : t376.toList = ([] : List UInt8)
      ·rw [if_pos c18] at H
       have c18b0 : (t376.toList == ([] : List UInt8)) = true := beq_iff_eq.mpr c18; have c18b1 : (t376.toList != ([] : List UInt8)) = false := bne_eq_false_iff_eq.mpr c18; clear c18; by_cases c19 : t377 = true
       ·subst c19
        have H1 : (if t378 = 2 then (if t379 = 3 then (if t380 = true then (some (t381 == 5)) else (some false)) else (some false)) else (some false)) = some true := by rw [if_pos rfl] at H; exact H
        clear H; have H := H1; clear H1; by_cases c20 : t378 = 2
        ·rw [if_pos c20] at H
         have c20b0 : (t378 == 2) = true := beq_iff_eq.mpr c20; have c20b1 : (t378 != 2) = false := bne_eq_false_iff_eq.mpr c20; clear c20; by_cases c21 : t379 = 3
         ·rw [if_pos c21] at H
          have c21b0 : (t379 == 3) = true := beq_iff_eq.mpr c21; have c21b1 : (t379 != 3) = false := bne_eq_false_iff_eq.mpr c21; clear c21; by_cases c22 : t380 = true
          ·subst c22
           have H1 : (some (t381 == 5)) = some true := by rw [if_pos rfl] at H; exact H
           clear H; have H := H1; clear H1; have hr_ := Option.some.inj H; go_wp2_with (first | ((with_reducible refine gate_callee (f := 15) rfl ?_); refine gL (some 34) Tryd.func15 #[.pointer (some ⟨g373, 0, none⟩), .string (⟨#[97]⟩ : ByteArray), .int .i64 1, .int .i64 9] ?_; (with_reducible refine (view_View_ReadAt.calls kj2 g373 t371 t372 (⟨#[97]⟩ : ByteArray) 1 9 t374 true w9 _ ?side1 ?side2 A12.out).mono ?_); (case side1 => refine IsV84.is ?_; repeat (first | (with_reducible first | exact HI373.out | apply IsV84.alloc | apply IsV84.drewN | apply IsV84.drew) | exact HI373.out)); (case side2 => refine IsV84.bel (g := g373) (f0 := t371) (f1 := t372) ?_; repeat (first | (with_reducible first | exact HI373.out | apply IsV84.alloc | apply IsV84.drewN | apply IsV84.drew) | exact HI373.out)); rintro e w23 ⟨rfl, hi, hb, hk⟩; refine ⟨_, rfl, ?_⟩; replace HB := am (below_step HB9_.out hb); replace HI373 := am (IsV84.of hi hb)) | ((with_reducible refine gate_callee (f := 15) rfl ?_); refine gL (some 39) Tryd.func15 #[.pointer (some ⟨g373, 0, none⟩), .string (⟨#[97]⟩ : ByteArray), .int .i64 5, .int .i64 1] ?_; (with_reducible refine (view_View_ReadAt.calls kj2 g373 t371 t372 (⟨#[97]⟩ : ByteArray) 5 1 t376 true w9 _ ?side1 ?side2 A13.out).mono ?_); (case side1 => refine IsV84.is ?_; repeat (first | (with_reducible first | exact HI373.out | apply IsV84.alloc | apply IsV84.drewN | apply IsV84.drew) | exact HI373.out)); (case side2 => refine IsV84.bel (g := g373) (f0 := t371) (f1 := t372) ?_; repeat (first | (with_reducible first | exact HI373.out | apply IsV84.alloc | apply IsV84.drewN | apply IsV84.drew) | exact HI373.out)); rintro e w24 ⟨rfl, hi, hb, hk⟩; refine ⟨_, rfl, ?_⟩; replace HB := am (below_step HB9_.out hb); replace HI373 := am (IsV84.of hi hb)) | ((with_reducible refine gate_callee (f := 18) rfl ?_); refine gL (some 44) Tryd.func18 #[.pointer (some ⟨g373, 0, none⟩), .string (⟨#[97]⟩ : ByteArray)] ?_; (with_reducible refine (view_View_Lookup.calls kj2 g373 t371 t372 (⟨#[97]⟩ : ByteArray) t378 t379 true w9 _ ?side1 ?side2 A14.out).mono ?_); (case side1 => refine IsV84.is ?_; repeat (first | (with_reducible first | exact HI373.out | apply IsV84.alloc | apply IsV84.drewN | apply IsV84.drew) | exact HI373.out)); (case side2 => refine IsV84.bel (g := g373) (f0 := t371) (f1 := t372) ?_; repeat (first | (with_reducible first | exact HI373.out | apply IsV84.alloc | apply IsV84.drewN | apply IsV84.drew) | exact HI373.out)); rintro e w25 ⟨rfl, hi, hb, hk⟩; refine ⟨_, rfl, ?_⟩; replace HB := am (below_step HB9_.out hb); replace HI373 := am (IsV84.of hi hb)) | ((with_reducible refine gate_callee (f := 14) rfl ?_); refine gL (some 49) Tryd.func14 #[.slice none 0 0] ?_; (refine (view_OpenErr.calls kj2 _ _ ([] : List Int) t381 _ ?side1 ?side2 A15.out).mono ?_); (case side1 => exact Kd.C_nil _ _); (case side2 => exact Nat.le_refl _); rintro e w26 ⟨vE_, rfl, hb⟩; refine ⟨_, rfl, ?_⟩; replace HB := am (below_step (by repeat (first | (with_reducible first | exact HB.out | apply bA | apply bN | apply bO | refine below_set ?_ (IsV84.ge HI373.out)) | exact HB.out)) hb); replace HI373 := am (IsV84.below (by repeat (first | (with_reducible first | exact HI373.out | apply IsV84.alloc | apply IsV84.drewN | apply IsV84.drew) | exact HI373.out)) hb)))
           go_ret; exact ⟨ez, by repeat (first | (with_reducible first | exact HB.out | apply bA | apply bN | apply bO | refine below_set ?_ (IsV84.ge HI373.out)) | exact HB.out)⟩
          ·replace c22 := Bool.eq_false_iff.mpr c22
           subst c22; have H1 : (some false) = some true := by rw [if_neg (show ¬ (false = true) by decide)] at H; exact H
           exact absurd H1 (by simp)
         ·rw [if_neg c21] at H
          exact absurd H (by simp)
        ·rw [if_neg c20] at H
         exact absurd H (by simp)
       ·replace c19 := Bool.eq_false_iff.mpr c19
        subst c19; have H1 : (some false) = some true := by rw [if_neg (show ¬ (false = true) by decide)] at H; exact H
        exact absurd H1 (by simp)
      ·rw [if_neg c18] at H
       exact absurd H (by simp)
     ·replace c17 := Bool.eq_false_iff.mpr c17
      subst c17; have H1 : (some false) = some true := by rw [if_neg (show ¬ (false = true) by decide)] at H; exact H
      exact absurd H1 (by simp)
    ·rw [if_neg c16] at H
     exact absurd H (by simp)
/-! ### path_Base: function 40 -/
def path_Base.f (k : Nat) (a0 : ByteArray) : Option (ByteArray) := (path_May.f k a0).bind fun t382 => (if t382 = true then ((strings_LastIndexByte.f k a0 47).bind fun t383 => (if 0 ≤ (wrap64 (t383 + 1)) then (if (wrap64 (t383 + 1)) ≤ (a0.size : Int) then (some (a0.extract ((wrap64 (t383 + 1)) : Int).toNat a0.size)) else (none)) else (none))) else (some (⟨#[]⟩ : ByteArray)))
theorem path_Base.mono : ∀ a0 k, LeO (path_Base.f k a0) (path_Base.f (k + 1) a0) := by
 intro a0 k; unfold path_Base.f
 repeat' with_reducible first | exact path_May.mono _ _ | exact strings_LastIndexByte.mono _ _ _ | exact LeO.refl _ | exact LeO.none _ | refine LeO.ite ?_ ?_ | refine LeO.bind ?_ (fun _ => ?_)
set_option maxHeartbeats 8000000 in
set_option maxRecDepth 100000 in
theorem path_Base.calls (k : Nat) (a0 : ByteArray) (r : ByteArray) (w : World) (h : path_Base.f k a0 = some r) :
  Calls Tryd.prog 40 #[.string a0] w fun e w' => e = .returned (.string r) ∧ Below w.heap.size w w' := by
 have HB := am (Below.refl w.heap.size w); have H : ((path_May.f k a0).bind fun t382 => (if t382 = true then ((strings_LastIndexByte.f k a0 47).bind fun t383 => (if 0 ≤ (wrap64 (t383 + 1)) then (if (wrap64 (t383 + 1)) ≤ (a0.size : Int) then (some (a0.extract ((wrap64 (t383 + 1)) : Int).toNat a0.size)) else (none)) else (none))) else (some (⟨#[]⟩ : ByteArray)))) = some r := h; clear h; refine oR H ?_; clear H; intro t382 A2 H; by_cases c3 : t382 = true
 ·subst c3
  have H1 : ((strings_LastIndexByte.f k a0 47).bind fun t383 => (if 0 ≤ (wrap64 (t383 + 1)) then (if (wrap64 (t383 + 1)) ≤ (a0.size : Int) then (some (a0.extract ((wrap64 (t383 + 1)) : Int).toNat a0.size)) else (none)) else (none))) = some r := by rw [if_pos rfl] at H; exact H
  clear H; have H := H1; clear H1; refine oR H ?_; clear H; intro t383 A4 H; obtain ⟨ji5, hji5⟩ : ∃ j_ : Int, (wrap64 (t383 + 1)) = j_ := ⟨_, rfl⟩; replace H : (if 0 ≤ (ji5) then (if (ji5) ≤ (a0.size : Int) then (some (a0.extract ((ji5) : Int).toNat a0.size)) else (none)) else (none)) = some r := by first | (rw [hji5] at H; exact H) | (simp only [hji5] at H ⊢; exact H)
  (try rw [hji5] at A2)
  (try rw [hji5] at A4)
  have hji5w : (IntKind.i64.wrap (t383 + 1)) = ji5 := (i64_w _).trans hji5; by_cases c6 : 0 ≤ (ji5)
  ·rw [if_pos c6] at H
   have c6b0 := eq_true c6; have c6b1 : decide (0 ≤ (ji5)) = true := decide_eq_true c6; clear c6; by_cases c7 : (ji5) ≤ (a0.size : Int)
   ·rw [if_pos c7] at H
    have c7b0 := eq_true c7; have c7b1 : decide ((ji5) ≤ (a0.size : Int)) = true := decide_eq_true c7; clear c7; obtain rfl := Option.some.inj H; go_enter Tryd.func40, Tryd.ntmps40; go_wp2_with (first | ((with_reducible refine gate_callee (f := 60) rfl ?_); refine gL (some 4) Tryd.func60 #[.string a0] ?_; (with_reducible refine (path_May.calls k a0 true _ A2.out).mono ?_); rintro e w8 ⟨rfl, hb⟩; refine ⟨_, rfl, ?_⟩; replace HB := bs hb) | ((with_reducible refine gate_callee (f := 61) rfl ?_); refine gL (some 8) Tryd.func61 #[.string a0, .int .u8 47] ?_; (with_reducible refine (strings_LastIndexByte.calls k a0 47 t383 _ A4.out).mono ?_); rintro e w' ⟨rfl, ⟨nd, rfl⟩⟩; refine ⟨_, rfl, ?_⟩))
    go_ret; exact ⟨by first | rfl | (simp [eN, eS] <;> rfl) | (simp only [← hji5]; first | rfl | (simp [eN, eS] <;> rfl)) | (simp [*, eN, eS] <;> rfl), bz⟩
   ·rw [if_neg c7] at H
    exact absurd H (by simp)
  ·rw [if_neg c6] at H
   exact absurd H (by simp)
 ·replace c3 := Bool.eq_false_iff.mpr c3
  subst c3; have H1 : (some (⟨#[]⟩ : ByteArray)) = some r := by rw [if_neg (show ¬ (false = true) by decide)] at H; exact H
  clear H; have H := H1; clear H1; obtain rfl := Option.some.inj H; go_enter Tryd.func40, Tryd.ntmps40; go_wp2_with (first | ((with_reducible refine gate_callee (f := 60) rfl ?_); refine gL (some 4) Tryd.func60 #[.string a0] ?_; (with_reducible refine (path_May.calls k a0 false _ A2.out).mono ?_); rintro e w9 ⟨rfl, hb⟩; refine ⟨_, rfl, ?_⟩; replace HB := bs hb))
  go_ret; exact ⟨ez, bz⟩

end Go.Proofs.YthbdbgjggoobnaaDoor.P
-- FIX_VIEW
