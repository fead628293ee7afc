/- Laid by a program of this session (wip/pr), after the printer of the kit: the functions that a statement reaches as plain Lean functions, and that the calls of the machine come to them. No condition. -/
import Derived.Test.YthbdbgjggoobnaaDoorPx0
import Derived.Test.YthbdbgjggoobnaaDoorPx15
namespace Go.Proofs.YthbdbgjggoobnaaDoor.P
open Go.RowKit Go.Proofs.YthbdbgjggoobnaaDoorX Go.Proofs.YthbdbgjggoobnaaDoorW.PrintWords Go.Proofs.YthbdbgjggoobnaaDoorW.PrintLast Go.Proofs.YthbdbgjggoobnaaDoorW.PrintMore
attribute [local go_sem] max2_int min2_int max_two min_two
set_option linter.unusedVariables false
set_option linter.unusedSimpArgs false

/-- What a reader's take comes to: what is read, what is left, whether it has met what may not be. -/
def tk (n : Int) (xs : List Int) (bad : Bool) : List Int × List Int × Bool := if bad = true ∨ n < 0 ∨ (xs.length : Int) < n then ([], xs, true) else (xs.take n.toNat, xs.drop n.toNat, false)
/-- What a call of a reader's take leaves. -/
def TakeP (w0 w : World) (g : Nat) (r : List Int × List Int × Bool) (e : Ending) (w' : World) : Prop :=
 (∃ A c, e = .returned (.slice A r.1.length c) ∧ Kd.C (Kd.int .u8) w0 A r.1.length r.1) ∧ IsS79 w0 w' g r.2.1 r.2.2 ∧ Below w0.heap.size w0 w' ∧ KeepBut w w' g none
theorem rd_take_calls (g : Nat) (n : Int) (xs : List Int) (bad : Bool) (w0 w : World) (hI : IsS79 w0 w g xs bad) (hB : Below w0.heap.size w0 w) :
  Calls Tryd.prog 58 #[.pointer (some ⟨g, 0, none⟩), .int .i64 n] w (TakeP w0 w g (tk n xs bad)) := by
 have HI := am hI; obtain ⟨A0, c0, hb, hg, hr, hlc⟩ := hI; have hm : xs.length ≤ 9223372036854775807 := hr.2.1; have HR := am hr; have HB := am hB; have HG := am hg; have BK := am hb; clear hr hB hg; have hc0 : w.cell? ⟨g, 0, none⟩ = some (.slice A0 xs.length c0) := (blk_cell hb 0).trans rfl; have hc1 : w.cell? ⟨g, 1, none⟩ = some (.bool bad) := (blk_cell hb 1).trans rfl; have hf0 : w.frozen? ⟨g, 0, none⟩ = false := blk_frozen hb 0; have hf1 : w.frozen? ⟨g, 1, none⟩ = false := blk_frozen hb 1; clear hb; by_cases hbad : bad = true ∨ n < 0 ∨ (xs.length : Int) < n
 ·have e : tk n xs bad = ([], xs, true) := if_pos hbad
  rw [e]; clear e; have c3 : bad = true ∨ (bad = false ∧ decide (n < 0) = true) ∨ (bad = false ∧ decide (n < 0) = false ∧ decide ((xs.length : Int) < n) = true) := by
   cases bad
   ·by_cases h : n < 0
    ·exact .inr (.inl ⟨rfl, decide_eq_true h⟩)
    ·exact .inr (.inr ⟨rfl, decide_eq_false h, decide_eq_true (hbad.elim (fun h' => absurd h' (by simp)) (fun h' => h'.elim (fun h' => absurd h' h) id))⟩)
   ·exact .inl rfl
  clear hbad; rcases c3 with rfl | ⟨rfl, c1⟩ | ⟨rfl, c1, c2⟩
  all_goals
   go_enter Tryd.func58, Tryd.ntmps58; go_wp2
   go_ret; exact ⟨⟨none, 0, rfl, Kd.C_nil _ _⟩, IsS79.set_1 HI.out true, below_set HB.out HG.out, (KeepBut.refl w g none).set_ 1 _⟩
 ·have e : tk n xs bad = (xs.take n.toNat, xs.drop n.toNat, false) := if_neg hbad
  rw [e]; clear e; have hb0 : bad = false := by
   cases bad
   ·rfl
   ·exact absurd (Or.inl rfl) hbad
  have hn0 : 0 ≤ n := Int.not_lt.1 (fun h => hbad (.inr (.inl h))); have hnl : n ≤ (xs.length : Int) := Int.not_lt.1 (fun h => hbad (.inr (.inr h))); clear hbad; subst hb0; obtain ⟨m, rfl⟩ := Int.eq_ofNat_of_zero_le hn0; have hml : m ≤ xs.length := by omega
  have hmc : m ≤ c0 := by omega
  have c1 : decide ((m : Int) < 0) = false := decide_eq_false (by omega); have c2 : decide ((xs.length : Int) < (m : Int)) = false := decide_eq_false (by omega); have hlen : (xs.take m).length = m := by rw [lT]; omega
  go_enter Tryd.func58, Tryd.ntmps58; have HM := am hml; have HLC := am hlc; have HCT := am (Kd.C_take HR.out hml); have HCD := am (Kd.C_drop HR.out hml hlc); rw [Int.toNat_natCast]; have HLEN := am hlen; clear hml hlc hlen; by_cases hq : c0 = m
  ·go_wp2
   go_ret; refine ⟨⟨A0, _, by rw [HLEN.out]; rfl, HCT.out⟩, ?_, below_set HB.out HG.out, (KeepBut.refl w g none).set_ 0 _⟩
   have hd := HCD.out; rw [if_pos hq] at hd; refine ⟨_, _, by rw [lD]; exact blk_put BK.out 0 _ rfl, HG.out, hd, ?_⟩
   have := HLC.out; rw [lD]; omega
  ·go_wp2
   go_ret; refine ⟨⟨A0, _, by rw [HLEN.out]; rfl, HCT.out⟩, ?_, below_set HB.out HG.out, (KeepBut.refl w g none).set_ 0 _⟩
   have hd := HCD.out; rw [if_neg hq] at hd; refine ⟨_, _, by rw [lD]; exact blk_put BK.out 0 _ rfl, HG.out, by simpa [show (Kd.int .u8).sz = 1 from rfl] using hd, ?_⟩
   have := HLC.out; rw [lD]; omega

/-- A take whose bytes become a text at once. -/
def view_takeS.f (s0_0 : List Int) (s0_1 : Bool) (a1 : Int) : Option (ByteArray × List Int × Bool) := if (tk a1 s0_0 s0_1).1.length ≤ 9223372036854775807 then some (strOfNums (tk a1 s0_0 s0_1).1, (tk a1 s0_0 s0_1).2.1, (tk a1 s0_0 s0_1).2.2) else none

/-- Bytes as a number, the first one the greatest. -/
def num64 (l : List Int) : Int := l.foldl (fun n x => Go.bits .or .u64 (IntKind.u64.wrap (n * 256)) (IntKind.u64.wrap x)) 0
theorem num64_snoc (l : List Int) (x : Int) : num64 (l ++ [x]) = Go.bits .or .u64 (IntKind.u64.wrap (num64 l * 256)) (IntKind.u64.wrap x) := by unfold num64; rw [List.foldl_append]; rfl
def view_reader_num.f (s0_0 : List Int) (s0_1 : Bool) : Option (Int × List Int × Bool) := some (wrap64 (num64 (tk 8 s0_0 s0_1).1), (tk 8 s0_0 s0_1).2.1, (tk 8 s0_0 s0_1).2.2)
theorem take_snocI (l : List Int) (i : Nat) (h : i < l.length) : l.take (i + 1) = l.take i ++ [rd l (i : Int)] := by
 rw [List.take_add_one, List.getElem?_eq_getElem h]; unfold rd
 rw [Int.toNat_natCast, List.getD_eq_getElem?_getD, List.getElem?_eq_getElem h]; rfl
set_option maxHeartbeats 1000000 in
theorem view_reader_num.calls (g : Nat) (s0_0 : List Int) (s0_1 : Bool) (r1 : Int) (r2 : List Int) (r3 : Bool) (w0 w : World) (hI : IsS79 w0 w g s0_0 s0_1) (hB : Below w0.heap.size w0 w) (h : view_reader_num.f s0_0 s0_1 = some (r1, r2, r3)) :
  Calls Tryd.prog 56 #[.pointer (some ⟨g, 0, none⟩)] w fun e w' => e = .returned (.int .i64 r1) ∧ IsS79 w0 w' g r2 r3 ∧ Below w0.heap.size w0 w' ∧ KeepBut w w' g none := by
 unfold view_reader_num.f at h
 have hc := rd_take_calls g 8 s0_0 s0_1 w0 w hI hB; generalize tk 8 s0_0 s0_1 = t at h hc
 obtain ⟨l, xs', bad'⟩ := t; injection h with h; simp only [Prod.mk.injEq] at h
 obtain ⟨h1, rfl, rfl⟩ := h; have H1 := am h1; clear h1 hI hB; go_enter Tryd.func56, Tryd.ntmps56; go_wp2_with (go_at_call 58; refine hc.mono ?_; rintro e w1 ⟨⟨A, c, rfl, hr⟩, hi, hb, hk⟩; have HI := am hi; have HB := am hb; have HK := am hk; have HR := am hr; clear hi hb hk hr hc)
 go_loop [3, 9] (fun v3 v9 => ∃ i : Nat, i ≤ l.length ∧ v9 = .int .i64 i ∧ v3 = .int .u64 (num64 (l.take i))) (fun _ v9 => l.length - (intOf v9).toNat)
 case atStart => exact ⟨0, Nat.zero_le _, rfl, rfl⟩
 case round =>
  obtain ⟨i, hi, rfl, rfl⟩ := hrel; have hm : l.length ≤ 9223372036854775807 := HR.out.2.1; by_cases hlt : i < l.length
  ·have c1 : decide ((i : Int) < (l.length : Int)) = true := decide_eq_true (by omega)
   have c2 : (0 ≤ (i : Int)) = True := eq_true (by omega); have c3 : ((i : Int) < (l.length : Int)) = True := eq_true (by omega); obtain ⟨ad, e1, hx⟩ := Kd.at_int HR.out (i : Int) (by omega) (by omega); have hx1 := (HB.out.cell (wB w0 _ hx)).trans hx; rw [Int.toNat_natCast] at hx1; have HS := am (take_snocI l i hlt); clear hx; subst e1; go_wp2
   go_round
   case rel => exact ⟨i + 1, by omega, by go_num, by rw [HS.out, num64_snoc]⟩
   case measure => simp [intOf]; omega
  ·have c1 : decide ((i : Int) < (l.length : Int)) = false := decide_eq_false (by omega)
   go_wp2
   go_ret; exact ⟨by rw [← H1.out]; have : l.take i = l := List.take_of_length_le (by omega); rw [this]; rfl, HI.out, HB.out, HK.out⟩

/-- How many bytes fill up the last eight. -/
def padOf (s : ByteArray) : Int := -((s.size : Int) % 8) % 8
def view_reader_text.f (s0_0 : List Int) (s0_1 : Bool) : Option (ByteArray × List Int × Bool) :=
 (view_reader_num.f s0_0 s0_1).bind fun a => if (tk a.1 a.2.1 a.2.2).1.length ≤ 9223372036854775807 then some (strOfNums (tk a.1 a.2.1 a.2.2).1, (tk (padOf (strOfNums (tk a.1 a.2.1 a.2.2).1)) (tk a.1 a.2.1 a.2.2).2.1 (tk a.1 a.2.1 a.2.2).2.2).2.1,
  (tk (padOf (strOfNums (tk a.1 a.2.1 a.2.2).1)) (tk a.1 a.2.1 a.2.2).2.1 (tk a.1 a.2.1 a.2.2).2.2).2.2) else none
set_option maxHeartbeats 1000000 in
theorem view_reader_text.calls (g : Nat) (s0_0 : List Int) (s0_1 : Bool) (r1 : ByteArray) (r2 : List Int) (r3 : Bool) (w0 w : World) (hI : IsS79 w0 w g s0_0 s0_1) (hB : Below w0.heap.size w0 w) (h : view_reader_text.f s0_0 s0_1 = some (r1, r2, r3)) :
  Calls Tryd.prog 54 #[.pointer (some ⟨g, 0, none⟩)] w fun e w' => e = .returned (.string r1) ∧ IsS79 w0 w' g r2 r3 ∧ Below w0.heap.size w0 w' ∧ KeepBut w w' g none := by
 unfold view_reader_text.f at h
 obtain ⟨⟨n, xs1, b1⟩, h1, h⟩ := oB h; simp only at h
 have hc1 := view_reader_num.calls g s0_0 s0_1 n xs1 b1 w0 w hI hB h1; have hc2 := fun W hi hb => rd_take_calls g n xs1 b1 w0 W hi hb
 generalize tk n xs1 b1 = t at h hc2
 obtain ⟨l, xs2, b2⟩ := t; simp only at h hc2
 by_cases hl : l.length ≤ 9223372036854775807
 case neg => rw [if_neg hl] at h; cases h
 rw [if_pos hl] at h; obtain ⟨s, hs⟩ : ∃ s, strOfNums l = s := ⟨_, rfl⟩; rw [hs] at h; have hsz : s.size ≤ 9223372036854775807 := by rw [← hs, show (strOfNums l).size = l.length by simp [strOfNums, ByteArray.size]]; exact hl
 have hc3 := fun W hi hb => rd_take_calls g (padOf s) xs2 b2 w0 W hi hb
 generalize tk (padOf s) xs2 b2 = t at h hc3
 obtain ⟨l3, xs3, b3⟩ := t; simp only at h hc3
 injection h with h; simp only [Prod.mk.injEq] at h
 obtain ⟨rfl, rfl, rfl⟩ := h; have HS := am hs; have HC2 := am hc2; have HC3 := am hc3; clear hs hc2 hc3 hI hB h1; clear h; go_enter Tryd.func54, Tryd.ntmps54; go_wp2_with (first | (go_at_call 56; refine hc1.mono ?_; rintro e w1 ⟨rfl, hi, hb, hk⟩; have HI1 := am hi; have HB1 := am hb; have HK1 := am hk; clear hi hb hk hc1) | (go_at_call 58; refine (HC2.out w1 HI1.out HB1.out).mono ?_; rintro e w2 ⟨⟨A2, c2, rfl, hr⟩, hi, hb, hk⟩; have HI2 := am hi; have HB2 := am hb; have HK2 := am (HK1.out.trans hk (.inl rfl)); have HR2 := am hr; have hcv : (convert 27 9 (.slice A2 l.length c2)).run Tryd.prog w2 = .ok (.string s) w2 := (Kd.C_string Tryd.underlying27 Tryd.underlying5 Tryd.underlying9 (Kd.C_below HR2.out HB2.out)).trans (congrArg (fun z => Result.ok (Value.string z) w2) HS.out); clear hi hb hk hr HI1 HB1 HK1) | (go_at_call 58; refine (HC3.out w2 HI2.out HB2.out).mono ?_; rintro e w3 ⟨⟨A3, c3, rfl, hr⟩, hi, hb, hk⟩; have HI3 := am hi; have HB3 := am hb; have HK3 := am (HK2.out.trans hk (.inl rfl)); have HR3 := am hr; clear hi hb hk hr HI2 HB2 HK2 hcv))
 go_ret; exact ⟨rfl, HI3.out, HB3.out, HK3.out⟩

/-! ### view_reader_count: function 55 -/
def view_reader_count.f (s0_0 : List Int) (s0_1 : Bool) (a1 : Int) : Option (Int × List Int × Bool) := (view_reader_num.f s0_0 s0_1).bind fun bt277 => (if bt277.2.2 = true then (some (0, bt277.2.1, true)) else (if bt277.1 < 0 then (some (0, bt277.2.1, true)) else (if bt277.1 > a1 then (some (0, bt277.2.1, decide (bt277.1 > a1))) else (some (bt277.1, bt277.2.1, decide (bt277.1 > a1))))))
set_option maxHeartbeats 8000000 in
set_option maxRecDepth 100000 in
theorem view_reader_count.calls (g : Nat) (s0_0 : List Int) (s0_1 : Bool) (a1 : Int) (r1 : Int) (r2 : List Int) (r3 : Bool) (w0 w : World) (hI : IsS79 w0 w g s0_0 s0_1) (hB : Below w0.heap.size w0 w) (h : view_reader_count.f s0_0 s0_1 a1 = some (r1, r2, r3)) :
  Calls Tryd.prog 55 #[.pointer (some ⟨g, 0, none⟩), .int .i64 a1] w fun e w' => e = .returned (.int .i64 r1) ∧ IsS79 w0 w' g r2 r3 ∧ Below w0.heap.size w0 w' ∧ KeepBut w w' g none := by
 have HI0 := am hI; have HK := am (KeepBut.refl w g none); have HL := am hB.size; clear hI; have HW0 := am hB.size; have HB := am hB; clear hB; have H : ((view_reader_num.f s0_0 s0_1).bind fun bt277 => (if bt277.2.2 = true then (some (0, bt277.2.1, true)) else (if bt277.1 < 0 then (some (0, bt277.2.1, true)) else (if bt277.1 > a1 then (some (0, bt277.2.1, decide (bt277.1 > a1))) else (some (bt277.1, bt277.2.1, decide (bt277.1 > a1))))))) = some (r1, r2, r3) := h; clear h; replace H := oB H; obtain ⟨⟨t277, t278, t279⟩, A30, H⟩ := H; replace H : (if t279 = true then (some (0, t278, true)) else (if t277 < 0 then (some (0, t278, true)) else (if t277 > a1 then (some (0, t278, decide (t277 > a1))) else (some (t277, t278, decide (t277 > a1)))))) = some (r1, r2, r3) := H; have A3 := am A30; clear A30; by_cases c4 : t279 = true
 ·subst c4
  have H1 : (some (0, t278, true)) = some (r1, r2, r3) := by rw [if_pos rfl] at H; exact H
  clear H; have H := H1; clear H1; simp only [Option.some.injEq, Prod.mk.injEq] at H
  obtain ⟨rfl, rfl, rfl⟩ := H; go_enter Tryd.func55, Tryd.ntmps55; go_wp2_with (first | ((with_reducible refine gate_callee (f := 56) rfl ?_); refine gL (some 7) Tryd.func56 #[.pointer (some ⟨g, 0, none⟩)] ?_; (with_reducible refine (view_reader_num.calls g s0_0 s0_1 t277 t278 true w0 _ ?side1 ?side2 A3.out).mono ?_); (case side1 => repeat (first | (with_reducible first | exact HI0.out | apply IsS79.alloc | apply IsS79.drewN | apply IsS79.drew | apply IsS79.set_0 | apply IsS79.set_1) | exact HI0.out)); (case side2 => repeat (first | (with_reducible first | exact HB.out | apply bA | apply bN | apply bO | refine below_set ?_ (IsS79.ge HI0.out)) | exact HB.out)); rintro e w5 ⟨rfl, hi, hb, hk⟩; refine ⟨_, rfl, ?_⟩; replace HK := am (KeepBut.trans (by repeat (first | (with_reducible first | exact HK.out | apply KeepBut.set_ | apply keep_drewN | apply keep_drew | apply keep_alloc) | exact HK.out)) hk (.inl rfl)); replace HB := am (hb); replace HI0 := am (hi); obtain ⟨ASz6_0, cSz6_0, HGz6, hgz6, HSz6_0⟩ := HI0.out; have hcz6_0 := cellS79_0 HGz6; have hcz6_1 := cellS79_1 HGz6; have hfz6_0 := blk_frozen HGz6 0; have hfz6_1 := blk_frozen HGz6 1; clear HGz6 hgz6))
  go_ret; exact ⟨ez, by repeat (first | (with_reducible first | exact HI0.out | apply IsS79.alloc | apply IsS79.drewN | apply IsS79.drew | apply IsS79.set_0 | apply IsS79.set_1) | exact HI0.out), by repeat (first | (with_reducible first | exact HB.out | apply bA | apply bN | apply bO | refine below_set ?_ (IsS79.ge HI0.out)) | exact HB.out), by repeat (first | (with_reducible first | exact HK.out | apply KeepBut.set_ | apply keep_drewN | apply keep_drew | apply keep_alloc) | exact HK.out)⟩
 ·replace c4 := Bool.eq_false_iff.mpr c4
  subst c4; have H1 : (if t277 < 0 then (some (0, t278, true)) else (if t277 > a1 then (some (0, t278, decide (t277 > a1))) else (some (t277, t278, decide (t277 > a1))))) = some (r1, r2, r3) := by rw [if_neg (show ¬ (false = true) by decide)] at H; exact H
  clear H; have H := H1; clear H1; by_cases c7 : t277 < 0
  ·rw [if_pos c7] at H
   have c7b0 : decide (t277 < 0) = true := decide_eq_true c7; clear c7; simp only [Option.some.injEq, Prod.mk.injEq] at H
   obtain ⟨rfl, rfl, rfl⟩ := H; go_enter Tryd.func55, Tryd.ntmps55; go_wp2_with (first | ((with_reducible refine gate_callee (f := 56) rfl ?_); refine gL (some 7) Tryd.func56 #[.pointer (some ⟨g, 0, none⟩)] ?_; (with_reducible refine (view_reader_num.calls g s0_0 s0_1 t277 t278 false w0 _ ?side1 ?side2 A3.out).mono ?_); (case side1 => repeat (first | (with_reducible first | exact HI0.out | apply IsS79.alloc | apply IsS79.drewN | apply IsS79.drew | apply IsS79.set_0 | apply IsS79.set_1) | exact HI0.out)); (case side2 => repeat (first | (with_reducible first | exact HB.out | apply bA | apply bN | apply bO | refine below_set ?_ (IsS79.ge HI0.out)) | exact HB.out)); rintro e w8 ⟨rfl, hi, hb, hk⟩; refine ⟨_, rfl, ?_⟩; replace HK := am (KeepBut.trans (by repeat (first | (with_reducible first | exact HK.out | apply KeepBut.set_ | apply keep_drewN | apply keep_drew | apply keep_alloc) | exact HK.out)) hk (.inl rfl)); replace HB := am (hb); replace HI0 := am (hi); obtain ⟨ASz9_0, cSz9_0, HGz9, hgz9, HSz9_0⟩ := HI0.out; have hcz9_0 := cellS79_0 HGz9; have hcz9_1 := cellS79_1 HGz9; have hfz9_0 := blk_frozen HGz9 0; have hfz9_1 := blk_frozen HGz9 1; clear HGz9 hgz9))
   go_ret; exact ⟨ez, by repeat (first | (with_reducible first | exact HI0.out | apply IsS79.alloc | apply IsS79.drewN | apply IsS79.drew | apply IsS79.set_0 | apply IsS79.set_1) | exact HI0.out), by repeat (first | (with_reducible first | exact HB.out | apply bA | apply bN | apply bO | refine below_set ?_ (IsS79.ge HI0.out)) | exact HB.out), by repeat (first | (with_reducible first | exact HK.out | apply KeepBut.set_ | apply keep_drewN | apply keep_drew | apply keep_alloc) | exact HK.out)⟩
  ·rw [if_neg c7] at H
   have c7b0 : decide (t277 < 0) = false := decide_eq_false c7; clear c7; by_cases c10 : t277 > a1
   ·rw [if_pos c10] at H
    have c10b0 : decide (a1 < t277) = true := decide_eq_true c10; clear c10; simp only [Option.some.injEq, Prod.mk.injEq] at H
    obtain ⟨rfl, rfl, rfl⟩ := H; go_enter Tryd.func55, Tryd.ntmps55; go_wp2_with (first | ((with_reducible refine gate_callee (f := 56) rfl ?_); refine gL (some 7) Tryd.func56 #[.pointer (some ⟨g, 0, none⟩)] ?_; (with_reducible refine (view_reader_num.calls g s0_0 s0_1 t277 t278 false w0 _ ?side1 ?side2 A3.out).mono ?_); (case side1 => repeat (first | (with_reducible first | exact HI0.out | apply IsS79.alloc | apply IsS79.drewN | apply IsS79.drew | apply IsS79.set_0 | apply IsS79.set_1) | exact HI0.out)); (case side2 => repeat (first | (with_reducible first | exact HB.out | apply bA | apply bN | apply bO | refine below_set ?_ (IsS79.ge HI0.out)) | exact HB.out)); rintro e w11 ⟨rfl, hi, hb, hk⟩; refine ⟨_, rfl, ?_⟩; replace HK := am (KeepBut.trans (by repeat (first | (with_reducible first | exact HK.out | apply KeepBut.set_ | apply keep_drewN | apply keep_drew | apply keep_alloc) | exact HK.out)) hk (.inl rfl)); replace HB := am (hb); replace HI0 := am (hi); obtain ⟨ASz12_0, cSz12_0, HGz12, hgz12, HSz12_0⟩ := HI0.out; have hcz12_0 := cellS79_0 HGz12; have hcz12_1 := cellS79_1 HGz12; have hfz12_0 := blk_frozen HGz12 0; have hfz12_1 := blk_frozen HGz12 1; clear HGz12 hgz12))
    go_ret; first | rw [show (decide (t277 > a1)) = true from c10b0] | rw [show (decide (t277 > a1)) = false from c10b0]
    exact ⟨ez, by repeat (first | (with_reducible first | exact HI0.out | apply IsS79.alloc | apply IsS79.drewN | apply IsS79.drew | apply IsS79.set_0 | apply IsS79.set_1) | exact HI0.out), by repeat (first | (with_reducible first | exact HB.out | apply bA | apply bN | apply bO | refine below_set ?_ (IsS79.ge HI0.out)) | exact HB.out), by repeat (first | (with_reducible first | exact HK.out | apply KeepBut.set_ | apply keep_drewN | apply keep_drew | apply keep_alloc) | exact HK.out)⟩
   ·rw [if_neg c10] at H
    have c10b0 : decide (a1 < t277) = false := decide_eq_false c10; clear c10; simp only [Option.some.injEq, Prod.mk.injEq] at H
    obtain ⟨rfl, rfl, rfl⟩ := H; go_enter Tryd.func55, Tryd.ntmps55; go_wp2_with (first | ((with_reducible refine gate_callee (f := 56) rfl ?_); refine gL (some 7) Tryd.func56 #[.pointer (some ⟨g, 0, none⟩)] ?_; (with_reducible refine (view_reader_num.calls g s0_0 s0_1 t277 t278 false w0 _ ?side1 ?side2 A3.out).mono ?_); (case side1 => repeat (first | (with_reducible first | exact HI0.out | apply IsS79.alloc | apply IsS79.drewN | apply IsS79.drew | apply IsS79.set_0 | apply IsS79.set_1) | exact HI0.out)); (case side2 => repeat (first | (with_reducible first | exact HB.out | apply bA | apply bN | apply bO | refine below_set ?_ (IsS79.ge HI0.out)) | exact HB.out)); rintro e w13 ⟨rfl, hi, hb, hk⟩; refine ⟨_, rfl, ?_⟩; replace HK := am (KeepBut.trans (by repeat (first | (with_reducible first | exact HK.out | apply KeepBut.set_ | apply keep_drewN | apply keep_drew | apply keep_alloc) | exact HK.out)) hk (.inl rfl)); replace HB := am (hb); replace HI0 := am (hi); obtain ⟨ASz14_0, cSz14_0, HGz14, hgz14, HSz14_0⟩ := HI0.out; have hcz14_0 := cellS79_0 HGz14; have hcz14_1 := cellS79_1 HGz14; have hfz14_0 := blk_frozen HGz14 0; have hfz14_1 := blk_frozen HGz14 1; clear HGz14 hgz14))
    go_ret; first | rw [show (decide (t277 > a1)) = true from c10b0] | rw [show (decide (t277 > a1)) = false from c10b0]
    exact ⟨ez, by repeat (first | (with_reducible first | exact HI0.out | apply IsS79.alloc | apply IsS79.drewN | apply IsS79.drew | apply IsS79.set_0 | apply IsS79.set_1) | exact HI0.out), by repeat (first | (with_reducible first | exact HB.out | apply bA | apply bN | apply bO | refine below_set ?_ (IsS79.ge HI0.out)) | exact HB.out), by repeat (first | (with_reducible first | exact HK.out | apply KeepBut.set_ | apply keep_drewN | apply keep_drew | apply keep_alloc) | exact HK.out)⟩

end Go.Proofs.YthbdbgjggoobnaaDoor.P
-- FIX_VIEW
