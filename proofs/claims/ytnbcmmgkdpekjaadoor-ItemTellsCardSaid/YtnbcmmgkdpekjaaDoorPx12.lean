/- Laid by a program of this session (wip/pr), after the printer of the kit: the functions that a statement reaches as plain Lean functions, and that the calls of the machine come to them. No condition. -/
import Derived.Test.YtnbcmmgkdpekjaaDoorPx0
import Derived.Test.YtnbcmmgkdpekjaaDoorPx11
namespace Go.Proofs.YtnbcmmgkdpekjaaDoor.P
open Go.RowKit Go.Proofs.YtnbcmmgkdpekjaaDoorX Go.Proofs.YtnbcmmgkdpekjaaDoorW.PrintWords Go.Proofs.YtnbcmmgkdpekjaaDoorW.PrintLast Go.Proofs.YtnbcmmgkdpekjaaDoorW.PrintMore
attribute [local go_sem] max2_int min2_int max_two min_two
set_option linter.unusedVariables false
set_option linter.unusedSimpArgs false

/-! ### item_Own: function 12 -/
def item_Own.f (a0_0 : ByteArray) (l0_1 : List ByteArray) (l0_2 : List (S45)) : Option (ByteArray × List ByteArray × (List (S45))) := (slices_Clone_string_string.f l0_1).bind fun t222 => ((api_Node_29.f l0_2).bind fun t225 => (some (a0_0, t222, t225)))
def item_Own.T1 : Bool × List (List Nat × List Nat) := (true, [([], []), ([0], [0]), ([1], [1]), ([], []), ([3], [3]), ([4, 2], [4]), ([0, 1, 2, 3, 4], []), ([6, 2, 5, 0, 1, 2, 3, 4], [2, 6]), ([0, 1, 2, 3, 4, 5, 6, 7], []), ([8, 5, 7, 0, 1, 2, 3, 4, 5, 6, 7], [5, 8])])
def item_Own.B1 : List Nat := [0, 1, 3, 0, 8, 31, 31, 127, 255, 511]
theorem item_Own.tab1 : rtab .any (opsOf Tryd.f12 1) = item_Own.T1 := by kernel_rfl
theorem item_Own.bits1 : waitsOk item_Own.T1.2 item_Own.B1 = true := by kernel_rfl
set_option maxHeartbeats 8000000 in
set_option maxRecDepth 100000 in
theorem item_Own.calls (a0_0 : ByteArray) (A0_1 : Option Addr) (c0_1 : Nat) (l0_1 : List ByteArray) (A0_2 : Option Addr) (c0_2 : Nat) (l0_2 : List (S45)) (r1 : ByteArray) (r2 : List ByteArray) (r3 : List (S45)) (w : World) (hr0_1 : Kd.C Kd.string w A0_1 l0_1.length l0_1) (hc0_1 : l0_1.length ≤ c0_1) (hr0_2 : Kd.C k45 w A0_2 l0_2.length l0_2) (hc0_2 : l0_2.length ≤ c0_2) (h : item_Own.f a0_0 l0_1 l0_2 = some (r1, r2, r3)) :
  Calls Tryd.prog 12 #[.agg #[.string a0_0, .slice A0_1 l0_1.length c0_1, .slice A0_2 l0_2.length c0_2]] w fun e w' => ∃ v1_ v2_ : Value, e = .returned (.agg #[.string r1, v1_, v2_]) ∧ Kd.R Kd.string 9 w' w.heap.size (fun _ => True) v1_ r2 ∧ Kd.R k45 45 w' w.heap.size (fun _ => True) v2_ r3 ∧ Below w.heap.size w w' := by
 have hu34 := Tryd.underlying34; have HR0_1 := am hr0_1; have HC0_1 := am hc0_1; clear hr0_1 hc0_1; have HR0_2 := am hr0_2; have HC0_2 := am hc0_2; clear hr0_2 hc0_2; have HB := am (Below.refl w.heap.size w); have H : ((slices_Clone_string_string.f l0_1).bind fun t222 => ((api_Node_29.f l0_2).bind fun t225 => (some (a0_0, t222, t225)))) = some (r1, r2, r3) := h; clear h; refine oR H ?_; clear H; intro t222 A2 H; refine oR H ?_; clear H; intro t225 A3 H; simp only [Option.some.injEq, Prod.mk.injEq] at H
 obtain ⟨rfl, rfl, rfl⟩ := H; go_enter Tryd.func12, Tryd.ntmps12; try go_wp2_with (first | ((with_reducible refine gate_dst (N := 1) rfl ?_); refine bx 1 #[.string a0_0, .slice A0_1 l0_1.length c0_1, .slice A0_2 l0_2.length c0_2] 34 ?_; intro gb220 hg w4 hbox hb; have BK220 := am (hbox); have GW220 := gz hg; have GE220 := gz hg; replace HB := bs hb; clear hb hbox hg) | ((with_reducible refine gate_dst (N := 2) rfl ?_); refine bx 2 #[.string (⟨#[]⟩ : ByteArray), .slice none 0 0, .slice none 0 0] 34 ?_; intro gb221 hg w5 hbox hb; have BK221 := am (hbox); have GW221 := gq hg; have GE221 := gq hg; replace HB := bw hb; have NB220_221 := am ((by rw [hg]; exact Nat.ne_of_lt (blk_lt (g := gb220) (o := .cells #[.string a0_0, .slice A0_1 l0_1.length c0_1, .slice A0_2 l0_2.length c0_2] 34 (0, 0)) (bk BK220.out)) : gb220 ≠ gb221)); have NB221_220 := am ((by rw [hg]; exact Nat.ne_of_gt (blk_lt (g := gb220) (o := .cells #[.string a0_0, .slice A0_1 l0_1.length c0_1, .slice A0_2 l0_2.length c0_2] 34 (0, 0)) (bk BK220.out)) : gb221 ≠ gb220)); replace BK220 := am (blk_below (g := gb220) (o := .cells #[.string a0_0, .slice A0_1 l0_1.length c0_1, .slice A0_2 l0_2.length c0_2] 34 (0, 0)) (bk BK220.out) hb); clear hb hbox hg))
 replace BK220 := am (kD BK220.out); replace BK221 := am (kD BK221.out); replace HB := am (bO HB.out); refine start_ (n := 10) (S := fun w' => w'.cell? ⟨gb220, 0, none⟩ = some (.string a0_0) ∧ w'.cell? ⟨gb220, 1, none⟩ = some (.slice A0_1 l0_1.length c0_1) ∧ w'.cell? ⟨gb220, 2, none⟩ = some (.slice A0_2 l0_2.length c0_2)) (ds := [7, 9]) #[fF,fF,fF,fF,fF,fF,fF,fF,fF,fF] (by kernel_rfl) rfl rfl ⟨(blk_cell BK220.out 0).trans rfl, (blk_cell BK220.out 1).trans rfl, (blk_cell BK220.out 2).trans rfl⟩ (fun hHeld => ?_); refine with_tabW item_Own.tab1 item_Own.bits1 (fun HT_ HW_ => ?_)
 generalize w5.drew = w6 at BK220 BK221 HB hHeld ⊢
 refine pu 0 (some 3) ?_
 refine pu 3 (some 6) ?_
 refine take_ (i := 1) (N := some 4) (v := ?_) (a' := ?_) #[tT,tT,fF,tT,fF,fF,fF,fF,fF,fF] rfl rfl (take_ofW HT_.out HW_.out (by kernel_rfl)) (fun _ _ _ h => h) (Or.inl ⟨by rfl, ?_⟩) hHeld ?_ ?_
 rotate_left
 ·rintro w' ⟨s0, s1, s2⟩
  go_simp
  with_reducible rfl
 rotate_left
 ·simp only [Act.put, sA, sB, sC, i64_w, i32_w]
  rfl
 refine take_ (i := 4) (N := some 7) (v := ?_) (a' := ?_) #[tT,tT,fF,tT,tT,fF,fF,fF,fF,fF] rfl rfl (take_ofW HT_.out HW_.out (by kernel_rfl)) (fun _ _ _ h => h) (Or.inl ⟨by rfl, ?_⟩) hHeld ?_ ?_
 rotate_left
 ·rintro w' ⟨s0, s1, s2⟩
  go_simp
  with_reducible rfl
 rotate_left
 ·simp only [Act.put, sA, sB, sC, i64_w, i32_w]
  rfl
 refine one_ (i := 2) (N := some 5) #[tT,tT,tT,tT,tT,fF,fF,fF,fF,fF] rfl rfl (one_of HT_.out (by kernel_rfl)) (by decide) (fun K hK => ?_)
 refine goes_ Tryd.func28 (by kernel_rfl) rfl #[.slice A0_1 l0_1.length c0_1] (by rfl) rfl rfl (by (try simp only [mT, mC, mN]); first | done | rfl | (simp only [lD, lT]; rfl)) ?_
 with_reducible refine (slices_Clone_string_string.calls _ _ l0_1 t222 _ ?side1 ?side2 A2.out).mono ?_
 (case side1 => exact cz (Kd.C_below HR0_1.out HB.out))
 (case side2 => exact HC0_1.out)
 rintro e w7 ⟨v223, rfl, ho0, hb⟩; refine ⟨_, rfl, ?_⟩
 have HO224 := am (Kd.R_lower ho0 siq); replace BK220 := am (blk_below (g := gb220) (o := .cells #[.string a0_0, .slice A0_1 l0_1.length c0_1, .slice A0_2 l0_2.length c0_2] 34 (0, 0)) (bk BK220.out) hb); replace BK221 := am (blk_below (g := gb221) (o := .cells #[.string (⟨#[]⟩ : ByteArray), .slice none 0 0, .slice none 0 0] 34 (0, 0)) (bk BK221.out) hb); replace HB := bw hb; (try clear ho0); refine hK.out _ _ ⟨(blk_cell BK220.out 0).trans rfl, (blk_cell BK220.out 1).trans rfl, (blk_cell BK220.out 2).trans rfl⟩ (fun hHeld => ?_)
 clear hK K; refine norm_ (a' := ?_) ?_ ?_
 rotate_left
 ·show Act.put _ (some 5) _ = _
  simp only [Act.put, sA, sB, sC, i64_w, i32_w]
  rfl
 refine pu 6 (some 9) ?_
 refine one_ (i := 5) (N := some 8) #[tT,tT,tT,tT,tT,tT,tT,fF,fF,fF] rfl rfl (one_of HT_.out (by kernel_rfl)) (by decide) (fun K hK => ?_)
 refine goes_ Tryd.func29 (by kernel_rfl) rfl #[.slice A0_2 l0_2.length c0_2] (by rfl) rfl rfl (by (try simp only [mT, mC, mN]); first | done | rfl | (simp only [lD, lT]; rfl)) ?_
 with_reducible refine (api_Node_29.calls _ _ l0_2 t225 _ ?side1 ?side2 A3.out).mono ?_
 (case side1 => exact cz (Kd.C_below HR0_2.out HB.out))
 (case side2 => exact HC0_2.out)
 rintro e w8 ⟨v226, rfl, ho0, hb⟩; refine ⟨_, rfl, ?_⟩
 replace HO224 := am (Kd.R_below (rz HO224.out) hb); have HO227 := am (Kd.R_lower ho0 siq); replace BK220 := am (blk_below (g := gb220) (o := .cells #[.string a0_0, .slice A0_1 l0_1.length c0_1, .slice A0_2 l0_2.length c0_2] 34 (0, 0)) (bk BK220.out) hb); replace BK221 := am (blk_below (g := gb221) (o := .cells #[.string (⟨#[]⟩ : ByteArray), .slice none 0 0, .slice none 0 0] 34 (0, 0)) (bk BK221.out) hb); replace HB := bw hb; (try clear ho0); obtain ⟨Ao9, co9, eo9⟩ := Kd.R_slice HO224.out; (first | subst eo9 | (injection eo9 with f1_ f2_ f3_; have f4_ := f1_.symm; have f5_ := f3_.symm; clear f1_ f2_ f3_; subst f4_; subst f5_))
 obtain ⟨Ao11, co11, eo11⟩ := Kd.R_slice HO227.out; (first | subst eo11 | (injection eo11 with f1_ f2_ f3_; have f4_ := f1_.symm; have f5_ := f3_.symm; clear f1_ f2_ f3_; subst f4_; subst f5_))
 refine hK.out _ _ ⟨(blk_cell BK220.out 0).trans rfl, (blk_cell BK220.out 1).trans rfl, (blk_cell BK220.out 2).trans rfl⟩ (fun hHeld => ?_)
 clear hK K; refine norm_ (a' := ?_) ?_ ?_
 rotate_left
 ·show Act.put _ (some 8) _ = _
  simp only [Act.put, sA, sB, sC, i64_w, i32_w]
  rfl
 refine last_ (i := 7) (N := none) #[tT,tT,tT,tT,tT,tT,tT,tT,fF,fF] rfl rfl (one_of HT_.out (by kernel_rfl)) (by decide) (fun K hK => ?_)
 have hs10 : w8.cell? ⟨gb220, 1, none⟩ = some (.slice A0_1 l0_1.length c0_1) := (blk_cell BK220.out 1).trans rfl; have hfs10 := blk_frozen BK220.out 1; have hns10_1 := NB221_220.out; have hms10_1 := NB220_221.out; refine skip_ (w1 := ?_) (by rfl) rfl ?_ ?_
 rotate_left
 ·go_simp
  rfl
 refine hK.out _ _ ?_
 clear hK K; refine pure_ (i := 8) (N := some 10) (v := ?_) (a' := ?_) #[tT,tT,tT,tT,tT,tT,tT,tT,tT,fF] rfl rfl (any_of HT_.out (by kernel_rfl)) (fun _ _ _ h => h) (Or.inl ⟨by rfl, ?_⟩) ?_ ?_
 rotate_left
 ·intro w'
  go_simp
  with_reducible rfl
 rotate_left
 ·simp only [Act.put, sA, sB, sC, i64_w, i32_w]
  rfl
 refine last_ (i := 9) (N := none) #[tT,tT,tT,tT,tT,tT,tT,tT,tT,tT] rfl rfl (one_of HT_.out (by kernel_rfl)) (by decide) (fun K hK => ?_)
 have hs12 : w8.cell? ⟨gb220, 2, none⟩ = some (.slice A0_2 l0_2.length c0_2) := (blk_cell BK220.out 2).trans rfl; have hfs12 := blk_frozen BK220.out 2; have hns12_1 := NB221_220.out; have hms12_1 := NB220_221.out; refine skip_ (w1 := ?_) (by rfl) rfl ?_ ?_
 rotate_left
 ·go_simp
  rfl
 refine hK.out _ _ ?_
 clear hK K; refine done_ (done_of HT_.out (by kernel_rfl)) ?_
 have hnb13 := NB220_221.out; have hnc13 := NB221_220.out; obtain ⟨hcz14_0, hcz14_1, hcz14_2⟩ := cq3 BK220.out; obtain ⟨hfz14_0, hfz14_1, hfz14_2⟩ := fq3 BK220.out; obtain ⟨hcz15_0, hcz15_1, hcz15_2⟩ := cq3 BK221.out; obtain ⟨hfz15_0, hfz15_1, hfz15_2⟩ := fq3 BK221.out; try go_wp2
 refine bodyPost_ret (results_cell_row rfl _ _ gb221 34 #[.string a0_0, .slice Ao9 t222.length co9, .slice Ao11 t225.length co11] (0, 0) _ rfl (by (with_reducible repeat (first | refine kN ?_ _ | refine kD ?_ | refine kA ?_ _)); refine blk_put (cs := #[.string a0_0, .slice Ao9 t222.length co9, .slice none 0 0]) ?_ 2 _ rfl; (with_reducible repeat (first | refine kN ?_ _ | refine kD ?_ | refine kA ?_ _)); refine blk_put (cs := #[.string a0_0, .slice none 0 0, .slice none 0 0]) ?_ 1 _ rfl; (with_reducible repeat (first | refine kN ?_ _ | refine kD ?_ | refine kA ?_ _)); refine blk_put (cs := #[.string (⟨#[]⟩ : ByteArray), .slice none 0 0, .slice none 0 0]) ?_ 0 _ rfl; (with_reducible repeat (first | refine kN ?_ _ | refine kD ?_ | refine kA ?_ _)); refine blk_far ?_ NB221_220.out _; (with_reducible repeat (first | refine kN ?_ _ | refine kD ?_ | refine kA ?_ _)); refine blk_far ?_ NB221_220.out _; (with_reducible repeat (first | refine kN ?_ _ | refine kD ?_ | refine kA ?_ _)); exact BK221.out) Tryd.underlying34 rfl (by kernel_rfl)) rfl ?_
 exact ⟨_, _, by first | rfl | (simp [eN, eS] <;> rfl) | (simp [*, eN, eS] <;> rfl), by (with_reducible repeat (first | apply rA | apply rN | apply rD)); exact Kd.R_mono (Kd.R_far (p := ⟨gb221, 2, none⟩) (Kd.R_far (p := ⟨gb221, 1, none⟩) (Kd.R_far (p := ⟨gb221, 0, none⟩) (Kd.R_far (p := ⟨gb220, 2, none⟩) (Kd.R_far (p := ⟨gb220, 1, none⟩) (Kd.R_types (Kd.R_types HO224.out BK220.out (by decide)) BK221.out (by decide)) (fun _ hk => hk.1.2) (.slice Ao9 t222.length co9)) (fun _ hk => hk.1.2) (.slice Ao11 t225.length co11)) (fun _ hk => hk.2) (.string a0_0)) (fun _ hk => hk.2) (.slice Ao9 t222.length co9)) (fun _ hk => hk.2) (.slice Ao11 t225.length co11)) (fun _ hk => trivial), by (with_reducible repeat (first | apply rA | apply rN | apply rD)); exact Kd.R_mono (Kd.R_far (p := ⟨gb221, 2, none⟩) (Kd.R_far (p := ⟨gb221, 1, none⟩) (Kd.R_far (p := ⟨gb221, 0, none⟩) (Kd.R_far (p := ⟨gb220, 2, none⟩) (Kd.R_far (p := ⟨gb220, 1, none⟩) (Kd.R_types (Kd.R_types HO227.out BK220.out (by decide)) BK221.out (by decide)) (fun _ hk => hk.1.2) (.slice Ao9 t222.length co9)) (fun _ hk => hk.1.2) (.slice Ao11 t225.length co11)) (fun _ hk => hk.2) (.string a0_0)) (fun _ hk => hk.2) (.slice Ao9 t222.length co9)) (fun _ hk => hk.2) (.slice Ao11 t225.length co11)) (fun _ hk => trivial), bq⟩

/-! ### hogsheadlaw0_OverTexts: function 14 -/
def hogsheadlaw0_OverTexts.l0 : Nat → List ByteArray → Int → Option (Unit)
 | 0, _, _ => none
 | k + 1, x0, x2 => if x2 < (x0.length : Int) then (if 0 ≤ x2 then (hogsheadlaw0_OverTexts.l0 k (x0.set (x2 : Int).toNat (⟨#[111, 118, 101, 114]⟩ : ByteArray)) (wrap64 (x2 + 1))) else (none)) else (if x0.length < 8796093022208 then (some ()) else (none))
def hogsheadlaw0_OverTexts.f (k : Nat) (l0 : List ByteArray) : Option (Unit) := hogsheadlaw0_OverTexts.l0 k l0 0
theorem hogsheadlaw0_OverTexts.mono_l : ∀ k, (∀ y0 y1, LeO (hogsheadlaw0_OverTexts.l0 k y0 y1) (hogsheadlaw0_OverTexts.l0 (k + 1) y0 y1))
 | 0 => fun _ _ r h => by simp [hogsheadlaw0_OverTexts.l0] at h
 | k + 1 => by
  have ih0 := hogsheadlaw0_OverTexts.mono_l k
  ·intro y0 y1
   unfold hogsheadlaw0_OverTexts.l0
   repeat' with_reducible first | exact ih0 _ _ | exact LeO.refl _ | exact LeO.none _ | refine LeO.ite ?_ ?_ | refine LeO.bind ?_ (fun _ => ?_)
theorem hogsheadlaw0_OverTexts.mono : ∀ a0 k, LeO (hogsheadlaw0_OverTexts.f k a0) (hogsheadlaw0_OverTexts.f (k + 1) a0) := by
 intro a0 k; have ih0 := hogsheadlaw0_OverTexts.mono_l k; unfold hogsheadlaw0_OverTexts.f
 repeat' with_reducible first | exact ih0 _ _ | exact LeO.refl _ | exact LeO.none _ | refine LeO.ite ?_ ?_ | refine LeO.bind ?_ (fun _ => ?_)
set_option maxHeartbeats 8000000 in
set_option maxRecDepth 100000 in
theorem hogsheadlaw0_OverTexts.calls (k : Nat) (P0_ : Nat → Prop) (u9000_ : Value) (l0 : List ByteArray) (w0 w : World) (hB : Below w0.heap.size w0 w) (ho0 : Kd.R Kd.string 9 w w0.heap.size P0_ u9000_ l0) (h : hogsheadlaw0_OverTexts.f k l0 = some ()) :
  Calls Tryd.prog 14 #[u9000_] w fun e w' => e = .returned (.tuple #[]) ∧ Below w0.heap.size w0 w' ∧ Kept w w' (fun k_ => P0_ k_) := by
 have HO0 := am (show Kd.R Kd.string 9 w w0.heap.size (fun k_ => (P0_ k_ ∨ w.heap.size ≤ k_)) u9000_ l0 from Kd.R_mono ho0 (fun k_ hk => (.inl hk))); have HK := am (Kept.refl w (fun k_ => P0_ k_)); have HW0 := am hB.size; have HB := am hB; clear hB; have H : (hogsheadlaw0_OverTexts.l0 k l0 0) = some () := h; clear h; have H' := am H; clear H; go_enter Tryd.func14, Tryd.ntmps14; go_wp2
 go_loopg [2] k (fun kq v2 w' => ∃ (x0_1 : List ByteArray) (x2_1 : Int), v2 = .int .i64 x2_1 ∧ Aside0 (hogsheadlaw0_OverTexts.l0 kq x0_1 x2_1 = some ()) ∧ Aside0 (kq ≤ k) ∧ Aside0 (Kd.R Kd.string 9 w' w0.heap.size (fun k_ => (P0_ k_ ∨ w.heap.size ≤ k_)) u9000_ x0_1) ∧ Aside0 (Kept w w' (fun k_ => P0_ k_)) ∧ Aside0 (Below w0.heap.size w0 w'))
 case atStart => exact ⟨(l0), (0), (by first | rfl | (simp; done) | (simp [*]; done)), H', ⟨Nat.le_refl _⟩, ⟨rz HO0.out⟩, ⟨kz⟩, ⟨bz⟩⟩
 case round =>
  clear H'; (try clear c1); obtain ⟨x0_1, x2_1, rfl, HA, HK1, HO_0, HK, HB⟩ := hrel; cases gk with
  | zero => exact absurd HA.out (by simp [hogsheadlaw0_OverTexts.l0])
  | succ k1 =>
   have H := HA.out; clear HA; simp only [hogsheadlaw0_OverTexts.l0] at H
   by_cases c2 : x2_1 < (x0_1.length : Int)
   ·rw [if_pos c2] at H
    have c2b0 : decide (x2_1 < (x0_1.length : Int)) = true := decide_eq_true c2; clear c2; by_cases c3 : 0 ≤ x2_1
    ·rw [if_pos c3] at H
     have c3b0 : decide (0 ≤ x2_1) = true := decide_eq_true c3; clear c3; obtain ⟨y228, hy228⟩ : ∃ y_ : List ByteArray, y_ = (x0_1.set (x2_1 : Int).toNat (⟨#[111, 118, 101, 114]⟩ : ByteArray)) := ⟨_, rfl⟩; try rw [← hy228] at H
     have Ny228 := am hy228; clear hy228; have H' := am H; clear H; obtain ⟨Ao5, co5, eo5⟩ := Kd.R_slice HO_0.out; subst eo5; have p4 : 0 ≤ (x2_1 : Int) := of_decide_eq_true (by assumption); have q4 : (x2_1 : Int) < ((x0_1.length : Int) : Int) := of_decide_eq_true (by assumption); obtain ⟨go4, co4, eo4, gb4, gl4, cl4, HG4⟩ := Kd.R_form HO_0.out (by omega); (first | cases eo4 | (injection eo4 with ea_ en_ ec_; (first | subst ea_ | (injection ea_ with ea_; subst ea_)); subst ec_; clear en_))
     have GB4 := am gb4; have GG4 := am HG4; clear gb4 gl4 HG4; have HMgo4 := am (show (P0_ go4 ∨ w.heap.size ≤ go4) from (HO_0.out.1 _ rfl)); obtain ⟨hx4_0, hf4_0⟩ := Kd.R_celln (⟨#[]⟩ : ByteArray) HO_0.out (x2_1 : Int) p4 q4; replace p4 := eq_true p4; replace q4 := eq_true q4; have HP6 := Kd.R_putg HO_0.out (x2_1 : Int) (⟨#[111, 118, 101, 114]⟩ : ByteArray); go_wp2_with (first | ((with_reducible refine gate_store (t := 9) (p := 11) rfl ?_); refine store_event (t := 9) (p := 11) (v := ?vo_w7) (w1 := (wr.setCell ⟨go4, (x2_1 : Int).toNat, none⟩ (.string (⟨#[111, 118, 101, 114]⟩ : ByteArray)))) ?hg ?ho ?hn ?hr ?_; (case ho => rfl); (case hg => rfl); (case hn => rfl); (case hr => first | (go_simp; done) | (go_simp; rfl)); intro w7 hw; have hg : wr.grownBy w7 (some go4) := (by rw [hw]; exact HP6.2); have hp_ : Kd.R Kd.string 9 w7 w0.heap.size (fun k_ => (P0_ k_ ∨ w.heap.size ≤ k_)) (.slice (some ⟨go4, 0, none⟩) x0_1.length co5) y228 := (by rw [hw, Ny228.out]; exact HP6.1); clear HP6; replace HB := am ((by rw [hw]; exact below_set (HB.out) GB4.out : Below w0.heap.size w0 w7)); replace HK := am (Kept.of_grown (S := (fun k_ => P0_ k_)) hg kz (fun k_ e_ => (HO_0.out.1 k_ e_))); replace HO_0 := am (hp_); clear hg hw hp_))
     go_roundg k1
     case measure => have := HK1.out; omega
     case rel => exact ⟨(y228), (wrap64 (x2_1 + 1)), (by first | rfl | (simp; done) | (simp [*]; done)), H', ⟨by have := HK1.out; omega⟩, ⟨rz HO_0.out⟩, ⟨kz⟩, ⟨bz⟩⟩
    ·rw [if_neg c3] at H
     exact absurd H (by simp)
   ·rw [if_neg c2] at H
    have c2b0 : decide (x2_1 < (x0_1.length : Int)) = false := decide_eq_false c2; clear c2; by_cases c8 : x0_1.length < 8796093022208
    ·rw [if_pos c8] at H
     have LMc8 := am c8; clear c8; obtain ⟨y229, hy229⟩ : ∃ y_ : List ByteArray, y_ = (x0_1 ++ [(⟨#[111, 118, 101, 114]⟩ : ByteArray)]) := ⟨_, rfl⟩; try rw [← hy229] at H
     have Ny229 := am hy229; clear hy229; obtain ⟨Ao9, co9, eo9⟩ := Kd.R_slice HO_0.out; subst eo9; go_wp2_with (first | ((with_reducible refine gate_builtin (b := .append) (xs := #[.tmp 12, .tmp 13]) rfl ?_); at_builtin; refine Kd.R_append Kd.string (w0 := w0) w0.heap.size rfl (.tmp 12) (.tmp 13) 31 9 (.string ⟨#[]⟩) 16 rfl Tryd.underlying31 info9 rfl (by decide) (by omega) (.slice Ao9 x0_1.length co9) x0_1 (⟨#[111, 118, 101, 114]⟩ : ByteArray) [.string (⟨#[111, 118, 101, 114]⟩ : ByteArray)] (fun k_ => (P0_ k_ ∨ w.heap.size ≤ k_)) (fun _ => False) rfl rfl ?aP (fun _ hk => hk.elim) ?aF ?aO ?aB ?aS ?aL ?_; (case aP => exact rfl); (case aB => exact bz); (case aF => exact (fun k_ hk => (.inr (Nat.le_trans (by first | exact HK.out.1 | exact (show Kept w _ (fun k_ => P0_ k_) from by repeat (first | (with_reducible first | exact HK.out | apply Kept.alloc | apply Kept.drewN | apply Kept.drew) | exact HK.out)).1) hk)))); (case aO => exact (rz HO_0.out)); (case aS => exact siz); (case aL => have := LMc8.out; omega); intro v230 w10 ho hb hg hat; rw [← Ny229.out] at ho; have n0_ := am (hb); have n1_ := am (Kept.of_grown (S := (fun k_ => P0_ k_)) hg kz (fun k_ e_ => (HO_0.out.1 k_ e_))); have n2_ := am (ho); clear HB; clear HK; clear HO_0; have HB := n0_; have HK := n1_; have HO231 := n2_; clear n0_ n1_ n2_; clear ho hb hg hat))
     first | go_end0 | ((try simp only [Exit.inBlock, Exit.then]); refine bodyPost_ret (results_none rfl _ _ _) rfl ?_)
     exact ⟨ez, by repeat (first | (with_reducible first | exact HB.out | apply bA | apply bN | apply bO) | exact HB.out), kz⟩
    ·rw [if_neg c8] at H
     exact absurd H (by simp)

/-! ### hogsheadlaw0_OverNodes: function 15 -/
def hogsheadlaw0_OverNodes.l0 : Nat → List (S45) → Int → Option (Unit)
 | 0, _, _ => none
 | k + 1, x0, x2 => if x2 < (x0.length : Int) then (if 0 ≤ x2 then (hogsheadlaw0_OverNodes.l0 k (x0.set (x2 : Int).toNat (⟨(⟨#[111, 118, 101, 114]⟩ : ByteArray), 0, (⟨#[]⟩ : ByteArray)⟩ : S45)) (wrap64 (x2 + 1))) else (none)) else (if x0.length < 3518437208883 then (some ()) else (none))
def hogsheadlaw0_OverNodes.f (k : Nat) (l0 : List (S45)) : Option (Unit) := hogsheadlaw0_OverNodes.l0 k l0 0
theorem hogsheadlaw0_OverNodes.mono_l : ∀ k, (∀ y0 y1, LeO (hogsheadlaw0_OverNodes.l0 k y0 y1) (hogsheadlaw0_OverNodes.l0 (k + 1) y0 y1))
 | 0 => fun _ _ r h => by simp [hogsheadlaw0_OverNodes.l0] at h
 | k + 1 => by
  have ih0 := hogsheadlaw0_OverNodes.mono_l k
  ·intro y0 y1
   unfold hogsheadlaw0_OverNodes.l0
   repeat' with_reducible first | exact ih0 _ _ | exact LeO.refl _ | exact LeO.none _ | refine LeO.ite ?_ ?_ | refine LeO.bind ?_ (fun _ => ?_)
theorem hogsheadlaw0_OverNodes.mono : ∀ a0 k, LeO (hogsheadlaw0_OverNodes.f k a0) (hogsheadlaw0_OverNodes.f (k + 1) a0) := by
 intro a0 k; have ih0 := hogsheadlaw0_OverNodes.mono_l k; unfold hogsheadlaw0_OverNodes.f
 repeat' with_reducible first | exact ih0 _ _ | exact LeO.refl _ | exact LeO.none _ | refine LeO.ite ?_ ?_ | refine LeO.bind ?_ (fun _ => ?_)
set_option maxHeartbeats 8000000 in
set_option maxRecDepth 100000 in
theorem hogsheadlaw0_OverNodes.calls (k : Nat) (P0_ : Nat → Prop) (u9000_ : Value) (l0 : List (S45)) (w0 w : World) (hB : Below w0.heap.size w0 w) (ho0 : Kd.R k45 45 w w0.heap.size P0_ u9000_ l0) (h : hogsheadlaw0_OverNodes.f k l0 = some ()) :
  Calls Tryd.prog 15 #[u9000_] w fun e w' => e = .returned (.tuple #[]) ∧ Below w0.heap.size w0 w' ∧ Kept w w' (fun k_ => P0_ k_) := by
 have hu45 := Tryd.underlying45; have HO0 := am (show Kd.R k45 45 w w0.heap.size (fun k_ => (P0_ k_ ∨ w.heap.size ≤ k_)) u9000_ l0 from Kd.R_mono ho0 (fun k_ hk => (.inl hk))); have HK := am (Kept.refl w (fun k_ => P0_ k_)); have HW0 := am hB.size; have HB := am hB; clear hB; have H : (hogsheadlaw0_OverNodes.l0 k l0 0) = some () := h; clear h; have H' := am H; clear H; go_enter Tryd.func15, Tryd.ntmps15; go_wp2
 go_loopg [2] k (fun kq v2 w' => ∃ (x0_1 : List (S45)) (x2_1 : Int), v2 = .int .i64 x2_1 ∧ Aside0 (hogsheadlaw0_OverNodes.l0 kq x0_1 x2_1 = some ()) ∧ Aside0 (kq ≤ k) ∧ Aside0 (Kd.R k45 45 w' w0.heap.size (fun k_ => (P0_ k_ ∨ w.heap.size ≤ k_)) u9000_ x0_1) ∧ Aside0 (Kept w w' (fun k_ => P0_ k_)) ∧ Aside0 (Below w0.heap.size w0 w'))
 case atStart => exact ⟨(l0), (0), (by first | rfl | (simp; done) | (simp [*]; done)), H', ⟨Nat.le_refl _⟩, ⟨rz HO0.out⟩, ⟨kz⟩, ⟨bz⟩⟩
 case round =>
  clear H'; (try clear c1); obtain ⟨x0_1, x2_1, rfl, HA, HK1, HO_0, HK, HB⟩ := hrel; cases gk with
  | zero => exact absurd HA.out (by simp [hogsheadlaw0_OverNodes.l0])
  | succ k1 =>
   have H := HA.out; clear HA; simp only [hogsheadlaw0_OverNodes.l0] at H
   by_cases c2 : x2_1 < (x0_1.length : Int)
   ·rw [if_pos c2] at H
    have c2b0 : decide (x2_1 < (x0_1.length : Int)) = true := decide_eq_true c2; clear c2; by_cases c3 : 0 ≤ x2_1
    ·rw [if_pos c3] at H
     have c3b0 : decide (0 ≤ x2_1) = true := decide_eq_true c3; clear c3; obtain ⟨y232, hy232⟩ : ∃ y_ : List (S45), y_ = (x0_1.set (x2_1 : Int).toNat (⟨(⟨#[111, 118, 101, 114]⟩ : ByteArray), 0, (⟨#[]⟩ : ByteArray)⟩ : S45)) := ⟨_, rfl⟩; try rw [← hy232] at H
     have Ny232 := am hy232; clear hy232; have H' := am H; clear H; obtain ⟨Ao5, co5, eo5⟩ := Kd.R_slice HO_0.out; subst eo5; have p4 : 0 ≤ (x2_1 : Int) := of_decide_eq_true (by assumption); have q4 : (x2_1 : Int) < ((x0_1.length : Int) : Int) := of_decide_eq_true (by assumption); obtain ⟨go4, co4, eo4, gb4, gl4, cl4, HG4⟩ := Kd.R_form HO_0.out (by omega); (first | cases eo4 | (injection eo4 with ea_ en_ ec_; (first | subst ea_ | (injection ea_ with ea_; subst ea_)); subst ec_; clear en_))
     have GB4 := am gb4; have GG4 := am HG4; clear gb4 gl4 HG4; have HMgo4 := am (show (P0_ go4 ∨ w.heap.size ≤ go4) from (HO_0.out.1 _ rfl)); obtain ⟨ce4, hcl4, hM4, hcc4, hfr4⟩ := Kd.R_elem HO_0.out z45 (x2_1 : Int) p4 q4; obtain rfl := k45_openM hM4; have hx4_0 : wr.cell? ⟨go4, (x2_1 : Int).toNat * 3, none⟩ = some (.string ((rd_T45 x0_1 x2_1).f0)) := hcc4 0 _ rfl; have hx4_1 : wr.cell? ⟨go4, (x2_1 : Int).toNat * 3 + 1, none⟩ = some (.int .i64 ((rd_T45 x0_1 x2_1).f1)) := hcc4 1 _ rfl; have hx4_2 : wr.cell? ⟨go4, (x2_1 : Int).toNat * 3 + 2, none⟩ = some (.string ((rd_T45 x0_1 x2_1).f2)) := hcc4 2 _ rfl; have hf4_0 : wr.frozen? ⟨go4, (x2_1 : Int).toNat * 3, none⟩ = false := hfr4 0; have hf4_1 : wr.frozen? ⟨go4, (x2_1 : Int).toNat * 3 + 1, none⟩ = false := hfr4 1; have hf4_2 : wr.frozen? ⟨go4, (x2_1 : Int).toNat * 3 + 2, none⟩ = false := hfr4 2; clear hcl4 hcc4 hfr4 hM4; replace p4 := eq_true p4; replace q4 := eq_true q4; have HX6 := am (show Kd.R k45 45 wr w0.heap.size (fun k_ => (P0_ k_ ∨ w.heap.size ≤ k_)) (.slice (some ⟨go4, 0, none⟩) x0_1.length co5) x0_1 from (rz HO_0.out)); obtain ⟨ce6, hcl6, hM6, hcc6, hfr6⟩ := Kd.R_elem HX6.out z45 (x2_1 : Int) (of_decide_eq_true (by assumption)) (by have h_ : (x2_1 : Int) < ((x0_1.length : Int) : Int) := of_decide_eq_true (by assumption); first | exact h_ | (have e_ := (Kd.R_reads' HO_0.out).1; omega) | simpa using h_)
     obtain rfl := k45_openM hM6; have HP6 := Kd.R_seg HX6.out (x2_1 : Int) (of_decide_eq_true (by assumption)) (by have h_ : (x2_1 : Int) < ((x0_1.length : Int) : Int) := of_decide_eq_true (by assumption); first | exact h_ | (have e_ := (Kd.R_reads' HO_0.out).1; omega) | simpa using h_) (seg := [.string (⟨#[111, 118, 101, 114]⟩ : ByteArray), .int .i64 0, .string (⟨#[]⟩ : ByteArray)]) (j := 0) hcl6 hcc6 (show 3 ≤ 3 from by decide) (x' := (⟨(⟨#[111, 118, 101, 114]⟩ : ByteArray), 0, (⟨#[]⟩ : ByteArray)⟩ : S45)) (k45_mkM _ _ _ (⟨(⟨#[111, 118, 101, 114]⟩ : ByteArray), 0, (⟨#[]⟩ : ByteArray)⟩ : S45) ) (fun _ hk => hk); have hx6_0 := hcc6 0 _ rfl; (try simp only [show (k45).sz = 3 from rfl, Nat.mul_one, Nat.add_zero] at hx6_0)
     have hf6_0 := hfr6 0; (try simp only [show (k45).sz = 3 from rfl, Nat.mul_one, Nat.add_zero] at hf6_0)
     have hx6_1 := hcc6 1 _ rfl; (try simp only [show (k45).sz = 3 from rfl, Nat.mul_one, Nat.add_zero] at hx6_1)
     have hf6_1 := hfr6 1; (try simp only [show (k45).sz = 3 from rfl, Nat.mul_one, Nat.add_zero] at hf6_1)
     have hx6_2 := hcc6 2 _ rfl; (try simp only [show (k45).sz = 3 from rfl, Nat.mul_one, Nat.add_zero] at hx6_2)
     have hf6_2 := hfr6 2; (try simp only [show (k45).sz = 3 from rfl, Nat.mul_one, Nat.add_zero] at hf6_2)
     clear hcl6 hcc6 hfr6 hM6; go_wp2_with (first | ((with_reducible refine gate_store (t := 45) (p := 12) rfl ?_); refine store_event (t := 45) (p := 12) (v := ?vo_w7) (w1 := (((wr.setCell ⟨go4, (x2_1 : Int).toNat * 3, none⟩ (.string (⟨#[111, 118, 101, 114]⟩ : ByteArray))).setCell ⟨go4, (x2_1 : Int).toNat * 3 + 1, none⟩ (.int .i64 0)).setCell ⟨go4, (x2_1 : Int).toNat * 3 + 2, none⟩ (.string (⟨#[]⟩ : ByteArray)))) ?hg ?ho ?hn ?hr ?_; (case ho => rfl); (case hg => rfl); (case hn => rfl); (case hr => first | (go_simp; done) | (go_simp; rfl)); intro w7 hw; have hg : wr.grownBy w7 (some go4) := (by rw [hw]; exact HP6.2); have hp_ : Kd.R k45 45 w7 w0.heap.size (fun k_ => (P0_ k_ ∨ w.heap.size ≤ k_)) (.slice (some ⟨go4, 0, none⟩) x0_1.length co5) y232 := (by rw [hw, Ny232.out]; exact HP6.1); clear HP6; replace HB := am ((by rw [hw]; exact below_set (below_set (below_set (HB.out) GB4.out) GB4.out) GB4.out : Below w0.heap.size w0 w7)); replace HK := am (Kept.of_grown (S := (fun k_ => P0_ k_)) hg kz (fun k_ e_ => (HO_0.out.1 k_ e_))); replace HO_0 := am (hp_); clear hg hw hp_))
     go_roundg k1
     case measure => have := HK1.out; omega
     case rel => exact ⟨(y232), (wrap64 (x2_1 + 1)), (by first | rfl | (simp; done) | (simp [*]; done)), H', ⟨by have := HK1.out; omega⟩, ⟨rz HO_0.out⟩, ⟨kz⟩, ⟨bz⟩⟩
    ·rw [if_neg c3] at H
     exact absurd H (by simp)
   ·rw [if_neg c2] at H
    have c2b0 : decide (x2_1 < (x0_1.length : Int)) = false := decide_eq_false c2; clear c2; by_cases c8 : x0_1.length < 3518437208883
    ·rw [if_pos c8] at H
     have LMc8 := am c8; clear c8; obtain ⟨y233, hy233⟩ : ∃ y_ : List (S45), y_ = (x0_1 ++ [(⟨(⟨#[111, 118, 101, 114]⟩ : ByteArray), 0, (⟨#[]⟩ : ByteArray)⟩ : S45)]) := ⟨_, rfl⟩; try rw [← hy233] at H
     have Ny233 := am hy233; clear hy233; obtain ⟨Ao9, co9, eo9⟩ := Kd.R_slice HO_0.out; subst eo9; go_wp2_with (first | ((with_reducible refine gate_builtin (b := .append) (xs := #[.tmp 13, .tmp 15]) rfl ?_); at_builtin; refine Kd.R_append k45 (w0 := w0) w0.heap.size rfl (.tmp 13) (.tmp 15) 32 45 (.agg #[(.string ⟨#[]⟩), (.int .i64 0), (.string ⟨#[]⟩)]) 40 rfl Tryd.underlying32 info45 rfl (by decide) (by omega) (.slice Ao9 x0_1.length co9) x0_1 (⟨(⟨#[111, 118, 101, 114]⟩ : ByteArray), 0, (⟨#[]⟩ : ByteArray)⟩ : S45) [.string (⟨#[111, 118, 101, 114]⟩ : ByteArray), .int .i64 0, .string (⟨#[]⟩ : ByteArray)] (fun k_ => (P0_ k_ ∨ w.heap.size ≤ k_)) (fun _ => False) rfl rfl ?aP (fun _ hk => hk.elim) ?aF ?aO ?aB ?aS ?aL ?_; (case aP => exact k45_mkM _ _ _ (⟨(⟨#[111, 118, 101, 114]⟩ : ByteArray), 0, (⟨#[]⟩ : ByteArray)⟩ : S45)); (case aB => exact bz); (case aF => exact (fun k_ hk => (.inr (Nat.le_trans (by first | exact HK.out.1 | exact (show Kept w _ (fun k_ => P0_ k_) from by repeat (first | (with_reducible first | exact HK.out | apply Kept.alloc | apply Kept.drewN | apply Kept.drew) | exact HK.out)).1) hk)))); (case aO => exact (rz HO_0.out)); (case aS => exact siz); (case aL => have := LMc8.out; omega); intro v234 w10 ho hb hg hat; rw [← Ny233.out] at ho; have n0_ := am (hb); have n1_ := am (Kept.of_grown (S := (fun k_ => P0_ k_)) hg kz (fun k_ e_ => (HO_0.out.1 k_ e_))); have n2_ := am (ho); clear HB; clear HK; clear HO_0; have HB := n0_; have HK := n1_; have HO235 := n2_; clear n0_ n1_ n2_; clear ho hb hg hat))
     first | go_end0 | ((try simp only [Exit.inBlock, Exit.then]); refine bodyPost_ret (results_none rfl _ _ _) rfl ?_)
     exact ⟨ez, by repeat (first | (with_reducible first | exact HB.out | apply bA | apply bN | apply bO) | exact HB.out), kz⟩
    ·rw [if_neg c8] at H
     exact absurd H (by simp)

end Go.Proofs.YtnbcmmgkdpekjaaDoor.P
