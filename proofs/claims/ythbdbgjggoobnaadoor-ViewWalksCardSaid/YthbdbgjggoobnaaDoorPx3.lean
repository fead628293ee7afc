/- Laid by a program of this session (wip/pr), after the printer of the kit: the functions that a statement reaches as plain Lean functions, and that the calls of the machine come to them. No condition. -/
import Derived.Test.YthbdbgjggoobnaaDoorPx0
import Derived.Test.YthbdbgjggoobnaaDoorPx2
namespace Go.Proofs.YthbdbgjggoobnaaDoor.P
open Go.RowKit Go.Proofs.YthbdbgjggoobnaaDoorX Go.Proofs.YthbdbgjggoobnaaDoorW.PrintWords Go.Proofs.YthbdbgjggoobnaaDoorW.PrintLast Go.Proofs.YthbdbgjggoobnaaDoorW.PrintMore
attribute [local go_sem] max2_int min2_int max_two min_two
set_option linter.unusedVariables false
set_option linter.unusedSimpArgs false

/-! ### tree_Good: function 44 -/
mutual
def tree_Good.j0 : Nat → Bool → ByteArray → Int → ByteArray → Option (Bool)
 | 0, _, _, _, _ => none
 | k + 1, x12, x120000, x120001, x120002 => if x12 = true then (some false) else (if x120001 = 1 then (some (x120002.toList == ([] : List UInt8))) else (if x120001 = 2 then (tree_Good.j1 k x120001 (x120001 == 2) x120000 x120001 x120002) else (tree_Good.j1 k x120001 (x120001 == 3) x120000 x120001 x120002)))
def tree_Good.j1 : Nat → Int → Bool → ByteArray → Int → ByteArray → Option (Bool)
 | 0, _, _, _, _, _ => none
 | k + 1, x14, x20, x120000, x120001, x120002 => if x20 = true then (some true) else (if x14 = 4 then (if x120002.toList = ([] : List UInt8) then (some false) else ((strings_IndexByte.f x120002 0).bind fun t121 => (some (decide (t121 < 0))))) else (some false))
end
def tree_Good.f (k : Nat) (a0_0 : ByteArray) (a0_1 : Int) (a0_2 : ByteArray) : Option (Bool) := (path_May.f k a0_0).bind fun t120 => (if t120 = true then (tree_Good.j0 k (decide ((a0_2.size : Int) > 400)) a0_0 a0_1 a0_2) else (tree_Good.j0 k true a0_0 a0_1 a0_2))
theorem tree_Good.mono_l : ∀ k, (∀ y0 y1 y2 y3, LeO (tree_Good.j0 k y0 y1 y2 y3) (tree_Good.j0 (k + 1) y0 y1 y2 y3)) ∧ (∀ y0 y1 y2 y3 y4, LeO (tree_Good.j1 k y0 y1 y2 y3 y4) (tree_Good.j1 (k + 1) y0 y1 y2 y3 y4))
 | 0 => ⟨fun _ _ _ _ r h => by simp [tree_Good.j0] at h, fun _ _ _ _ _ r h => by simp [tree_Good.j1] at h⟩
 | k + 1 => by
  obtain ⟨ih0, ih1⟩ := tree_Good.mono_l k; refine ⟨?_, ?_⟩
  ·intro y0 y1 y2 y3
   unfold tree_Good.j0
   repeat' with_reducible first | exact ih0 _ _ _ _ | exact ih1 _ _ _ _ _ | exact path_May.mono _ _ | exact LeO.refl _ | exact LeO.none _ | refine LeO.ite ?_ ?_ | refine LeO.bind ?_ (fun _ => ?_)
  ·intro y0 y1 y2 y3 y4
   unfold tree_Good.j1
   repeat' with_reducible first | exact ih0 _ _ _ _ | exact ih1 _ _ _ _ _ | exact path_May.mono _ _ | exact LeO.refl _ | exact LeO.none _ | refine LeO.ite ?_ ?_ | refine LeO.bind ?_ (fun _ => ?_)
theorem tree_Good.mono : ∀ a0 a1 a2 k, LeO (tree_Good.f k a0 a1 a2) (tree_Good.f (k + 1) a0 a1 a2) := by
 intro a0 a1 a2 k; obtain ⟨ih0, ih1⟩ := tree_Good.mono_l k; unfold tree_Good.f
 repeat' with_reducible first | exact ih0 _ _ _ _ | exact ih1 _ _ _ _ _ | exact path_May.mono _ _ | exact LeO.refl _ | exact LeO.none _ | refine LeO.ite ?_ ?_ | refine LeO.bind ?_ (fun _ => ?_)
set_option maxHeartbeats 8000000 in
set_option maxRecDepth 100000 in
theorem tree_Good.calls (k : Nat) (a0_0 : ByteArray) (a0_1 : Int) (a0_2 : ByteArray) (r : Bool) (w : World) (h : tree_Good.f k a0_0 a0_1 a0_2 = some r) :
  Calls Tryd.prog 44 #[.agg #[.string a0_0, .int .i64 a0_1, .string a0_2]] w fun e w' => e = .returned (.bool r) ∧ Below w.heap.size w w' := by
 have hu35 := Tryd.underlying35; have HB := am (Below.refl w.heap.size w); have H : ((path_May.f k a0_0).bind fun t120 => (if t120 = true then (tree_Good.j0 k (decide ((a0_2.size : Int) > 400)) a0_0 a0_1 a0_2) else (tree_Good.j0 k true a0_0 a0_1 a0_2))) = some r := h; clear h; have HC2 := am H; clear H; go_enter Tryd.func44, Tryd.ntmps44; go_upto_region 1 with (first | ((with_reducible refine gate_dst (N := 1) rfl ?_); (try (refine gate_guard (by rfl) ?_; dsimp only)); refine bx 1 #[.string a0_0, .int .i64 a0_1, .string a0_2] 35 ?_; intro gb119 hg w3 hbox hb; have BK119 := am (hbox); have GW119 := gz hg; have GE119 := gz hg; replace HB := bs hb; clear hb hbox hg))
 (try simp only [Act.put, sA, sB, sC])
 go_cut [12] (fun v12 wc => ∃ (kq : Nat) (x12_1 : Bool), v12 = .bool x12_1 ∧ Aside0 (tree_Good.j0 kq x12_1 a0_0 a0_1 a0_2 = some r) ∧ Aside0 (kq ≤ k) ∧ Aside0 (wc.heap[gb119]? = some (.cells #[.string a0_0, .int .i64 a0_1, .string a0_2] 35 (0, 0))) ∧ Aside0 (Below w.heap.size w wc))
 case first =>
  have H := HC2.out; clear HC2; refine oR H ?_; clear H; intro t120 A4 H; by_cases c5 : t120 = true
  ·subst c5
   have H1 : (tree_Good.j0 k (decide ((a0_2.size : Int) > 400)) a0_0 a0_1 a0_2) = some r := by rw [if_pos rfl] at H; exact H
   clear H; have H := H1; clear H1; have H' := am H; clear H; obtain ⟨hcz6_0, hcz6_1, hcz6_2⟩ := cq3 BK119.out; obtain ⟨hfz6_0, hfz6_1, hfz6_2⟩ := fq3 BK119.out; go_wp2_with (first | ((with_reducible refine gate_callee (f := 60) rfl ?_); refine gL (some 5) Tryd.func60 #[.string a0_0] ?_; (with_reducible refine (path_May.calls k a0_0 true _ A4.out).mono ?_); rintro e w7 ⟨rfl, hb⟩; refine ⟨_, rfl, ?_⟩; replace BK119 := am (blk_below (g := gb119) (o := .cells #[.string a0_0, .int .i64 a0_1, .string a0_2] 35 (0, 0)) (bk BK119.out) hb); replace HB := bw hb; obtain ⟨hcz8_0, hcz8_1, hcz8_2⟩ := cq3 BK119.out; obtain ⟨hfz8_0, hfz8_1, hfz8_2⟩ := fq3 BK119.out))
   go_meet; case rel => exact ⟨_, (decide ((a0_2.size : Int) > 400)), (by first | rfl | (simp; done) | (simp [*]; done)), H', ⟨by first | omega | exact Nat.le_refl _⟩, ⟨bk BK119.out⟩, ⟨bq⟩⟩
  ·replace c5 := Bool.eq_false_iff.mpr c5
   subst c5; have H1 : (tree_Good.j0 k true a0_0 a0_1 a0_2) = some r := by rw [if_neg (show ¬ (false = true) by decide)] at H; exact H
   clear H; have H := H1; clear H1; have H' := am H; clear H; obtain ⟨hcz9_0, hcz9_1, hcz9_2⟩ := cq3 BK119.out; obtain ⟨hfz9_0, hfz9_1, hfz9_2⟩ := fq3 BK119.out; go_wp2_with (first | ((with_reducible refine gate_callee (f := 60) rfl ?_); refine gL (some 5) Tryd.func60 #[.string a0_0] ?_; (with_reducible refine (path_May.calls k a0_0 false _ A4.out).mono ?_); rintro e w10 ⟨rfl, hb⟩; refine ⟨_, rfl, ?_⟩; replace BK119 := am (blk_below (g := gb119) (o := .cells #[.string a0_0, .int .i64 a0_1, .string a0_2] 35 (0, 0)) (bk BK119.out) hb); replace HB := bw hb))
   go_meet; case rel => exact ⟨_, (true), (by first | rfl | (simp; done) | (simp [*]; done)), H', ⟨by first | omega | exact Nat.le_refl _⟩, ⟨bk BK119.out⟩, ⟨bq⟩⟩
 case rest =>
  clear HC2; (try clear p2); (try clear c4); (try clear c5); (try clear c6); (try clear hcz6_0); (try clear hcz6_1); (try clear hcz6_2); (try clear hcz8_0); (try clear hcz8_1); (try clear hcz8_2); (try clear hcz9_0); (try clear hcz9_1); (try clear hcz9_2); (try clear hfz6_0); (try clear hfz6_1); (try clear hfz6_2); (try clear hfz8_0); (try clear hfz8_1); (try clear hfz8_2); (try clear hfz9_0); (try clear hfz9_1); (try clear hfz9_2); obtain ⟨kq, x12_1, rfl, HA, HJ1, BK119, HB⟩ := hcut; cases kq with
  | zero => exact absurd HA.out (by simp [tree_Good.j0])
  | succ kj1 =>
   have H := HA.out; clear HA; simp only [tree_Good.j0] at H
   by_cases c11 : x12_1 = true
   ·subst c11
    have H1 : (some false) = some r := by rw [if_pos rfl] at H; exact H
    clear H; have H := H1; clear H1; obtain rfl := Option.some.inj H; go_wp2
    go_ret; exact ⟨ez, bq⟩
   ·replace c11 := Bool.eq_false_iff.mpr c11
    subst c11; have H1 : (if a0_1 = 1 then (some (a0_2.toList == ([] : List UInt8))) else (if a0_1 = 2 then (tree_Good.j1 kj1 a0_1 (a0_1 == 2) a0_0 a0_1 a0_2) else (tree_Good.j1 kj1 a0_1 (a0_1 == 3) a0_0 a0_1 a0_2))) = some r := by rw [if_neg (show ¬ (false = true) by decide)] at H; exact H
    clear H; have H := H1; clear H1; by_cases c12 : a0_1 = 1
    ·rw [if_pos c12] at H
     have c12b0 : (a0_1 == 1) = true := beq_iff_eq.mpr c12; have c12b1 : (a0_1 != 1) = false := bne_eq_false_iff_eq.mpr c12; clear c12; obtain rfl := Option.some.inj H; obtain ⟨hcz13_0, hcz13_1, hcz13_2⟩ := cq3 BK119.out; obtain ⟨hfz13_0, hfz13_1, hfz13_2⟩ := fq3 BK119.out; go_wp2
     go_ret; exact ⟨ez, bq⟩
    ·rw [if_neg c12] at H
     have c12b0 : (a0_1 == 1) = false := beq_eq_false_iff_ne.mpr c12; have c12b1 : (a0_1 != 1) = true := bne_iff_ne.mpr c12; have HC14 := am H; clear H; obtain ⟨hcz15_0, hcz15_1, hcz15_2⟩ := cq3 BK119.out; obtain ⟨hfz15_0, hfz15_1, hfz15_2⟩ := fq3 BK119.out; go_upto_if 20 with (fail)
     go_cut [20] (fun v20 wc => ∃ (kq : Nat) (x20_13 : Bool), v20 = .bool x20_13 ∧ Aside0 (tree_Good.j1 kq a0_1 x20_13 a0_0 a0_1 a0_2 = some r) ∧ Aside0 (kq ≤ kj1) ∧ Aside0 (wc.heap[gb119]? = some (.cells #[.string a0_0, .int .i64 a0_1, .string a0_2] 35 (0, 0))) ∧ Aside0 (Below w.heap.size w wc))
     case first =>
      have H := HC14.out; clear HC14; by_cases c16 : a0_1 = 2
      ·rw [if_pos c16] at H
       have c16b0 : (a0_1 == 2) = true := beq_iff_eq.mpr c16; have c16b1 : (a0_1 != 2) = false := bne_eq_false_iff_eq.mpr c16; clear c16; (first | rw [c16b0] | (simp only [i64_w, i32_w]; rw [c16b0]) | skip)
       have H' := am H; clear H; go_wp2
       go_meet; case rel => exact ⟨_, ((a0_1 == 2)), (by first | rfl | (simp; done) | (simp [*]; done)), H', ⟨by have := HJ1.out; first | omega | exact Nat.le_refl _⟩, ⟨bk BK119.out⟩, ⟨bq⟩⟩
      ·rw [if_neg c16] at H
       have c16b0 : (a0_1 == 2) = false := beq_eq_false_iff_ne.mpr c16; have c16b1 : (a0_1 != 2) = true := bne_iff_ne.mpr c16; (first | rw [c16b0] | (simp only [i64_w, i32_w]; rw [c16b0]) | skip)
       have H' := am H; clear H; go_wp2
       go_meet; case rel => exact ⟨_, ((a0_1 == 3)), (by first | rfl | (simp; done) | (simp [*]; done)), H', ⟨by have := HJ1.out; first | omega | exact Nat.le_refl _⟩, ⟨bk BK119.out⟩, ⟨bq⟩⟩
     case rest =>
      clear HC14; (try clear c1); (try clear p2); (try clear c4); (try clear c5); (try clear c6); (try clear c11); (try clear c12); (try clear c12b0); (try clear c12b1); (try clear c16); (try clear c16b0); (try clear c16b1); (try clear hcz13_0); (try clear hcz13_1); (try clear hcz13_2); (try clear hcz15_0); (try clear hcz15_1); (try clear hcz15_2); (try clear hcz6_0); (try clear hcz6_1); (try clear hcz6_2); (try clear hcz8_0); (try clear hcz8_1); (try clear hcz8_2); (try clear hcz9_0); (try clear hcz9_1); (try clear hcz9_2); (try clear hfz13_0); (try clear hfz13_1); (try clear hfz13_2); (try clear hfz15_0); (try clear hfz15_1); (try clear hfz15_2); (try clear hfz6_0); (try clear hfz6_1); (try clear hfz6_2); (try clear hfz8_0); (try clear hfz8_1); (try clear hfz8_2); (try clear hfz9_0); (try clear hfz9_1); (try clear hfz9_2); (try clear p2); obtain ⟨kq, x20_13, rfl, HA, HJ13, BK119, HB⟩ := hcut; cases kq with
      | zero => exact absurd HA.out (by simp [tree_Good.j1])
      | succ kj13 =>
       have H := HA.out; clear HA; simp only [tree_Good.j1] at H
       by_cases c17 : x20_13 = true
       ·subst c17
        have H1 : (some true) = some r := by rw [if_pos rfl] at H; exact H
        clear H; have H := H1; clear H1; obtain rfl := Option.some.inj H; go_wp2
        go_ret; exact ⟨ez, bq⟩
       ·replace c17 := Bool.eq_false_iff.mpr c17
        subst c17; have H1 : (if a0_1 = 4 then (if a0_2.toList = ([] : List UInt8) then (some false) else ((strings_IndexByte.f a0_2 0).bind fun t121 => (some (decide (t121 < 0))))) else (some false)) = some r := by rw [if_neg (show ¬ (false = true) by decide)] at H; exact H
        clear H; have H := H1; clear H1; by_cases c18 : a0_1 = 4
        ·rw [if_pos c18] at H
         have c18b0 : (a0_1 == 4) = true := beq_iff_eq.mpr c18; have c18b1 : (a0_1 != 4) = false := bne_eq_false_iff_eq.mpr c18; clear c18; by_cases c19 : a0_2.toList = ([] : List UInt8)
         ·rw [if_pos c19] at H
          have c19b0 : (a0_2.toList == ([] : List UInt8)) = true := beq_iff_eq.mpr c19; have c19b1 : (a0_2.toList != ([] : List UInt8)) = false := bne_eq_false_iff_eq.mpr c19; clear c19; obtain rfl := Option.some.inj H; obtain ⟨hcz20_0, hcz20_1, hcz20_2⟩ := cq3 BK119.out; obtain ⟨hfz20_0, hfz20_1, hfz20_2⟩ := fq3 BK119.out; go_wp2
          go_ret; exact ⟨ez, bq⟩
         ·rw [if_neg c19] at H
          have c19b0 : (a0_2.toList == ([] : List UInt8)) = false := beq_eq_false_iff_ne.mpr c19; have c19b1 : (a0_2.toList != ([] : List UInt8)) = true := bne_iff_ne.mpr c19; refine oR H ?_; clear H; intro t121 A21 H; obtain rfl := Option.some.inj H; obtain ⟨hcz22_0, hcz22_1, hcz22_2⟩ := cq3 BK119.out; obtain ⟨hfz22_0, hfz22_1, hfz22_2⟩ := fq3 BK119.out; go_wp2_with (first | (go_at_call 64; (with_reducible refine (strings_IndexByte.calls a0_2 0 t121 _ A21.out).mono ?_); rintro e w' ⟨rfl, ⟨nd, rfl⟩⟩))
          go_ret; exact ⟨ez, bq⟩
        ·rw [if_neg c18] at H
         have c18b0 : (a0_1 == 4) = false := beq_eq_false_iff_ne.mpr c18; have c18b1 : (a0_1 != 4) = true := bne_iff_ne.mpr c18; obtain rfl := Option.some.inj H; go_wp2
         go_ret; exact ⟨ez, bq⟩

end Go.Proofs.YthbdbgjggoobnaaDoor.P
