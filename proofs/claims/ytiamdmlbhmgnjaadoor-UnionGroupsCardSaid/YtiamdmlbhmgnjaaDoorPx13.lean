/- Laid by a program of this session (wip/pr), after the printer of the kit: the functions that a statement reaches as plain Lean functions, and that the calls of the machine come to them. No condition. -/
import Derived.Test.YtiamdmlbhmgnjaaDoorPx0
import Derived.Test.YtiamdmlbhmgnjaaDoorPx1
import Derived.Test.YtiamdmlbhmgnjaaDoorPx2
import Derived.Test.YtiamdmlbhmgnjaaDoorPx12
namespace Go.Proofs.YtiamdmlbhmgnjaaDoor.P
open Go.RowKit Go.Proofs.YtiamdmlbhmgnjaaDoorX Go.Proofs.YtiamdmlbhmgnjaaDoorW.PrintWords Go.Proofs.YtiamdmlbhmgnjaaDoorW.PrintLast Go.Proofs.YtiamdmlbhmgnjaaDoorW.PrintMore
attribute [local go_sem] max2_int min2_int max_two min_two
set_option linter.unusedVariables false
set_option linter.unusedSimpArgs false

attribute [local go_sem high] eqA37
/-! ### union_pile_add: function 18 -/
def union_pile_add.f (k : Nat) (s0_0 : Bool) (s0_1 : List (S37)) (s0_2 : Bool) (a1_0 : ByteArray) (a1_1 : Int) (a1_2 : ByteArray) : Option (Bool × (List (S37)) × Bool) := (pile_lookN.f s0_0 s0_1 s0_2 a1_0 a1_1 a1_2).bind fun bt196 => (if bt196.2.2.2.1 = true then (if bt196.2.2.2.2.2.2 = true then (some (bt196.2.2.2.2.1, bt196.2.2.2.2.2.1, true)) else (some (bt196.2.2.2.2.1, bt196.2.2.2.2.2.1, (!(bt196.1.toList == a1_0.toList) || (!(bt196.2.1 == a1_1) || (!(bt196.2.2.1.toList == a1_2.toList))))))) else ((union_pile_blocked.f k bt196.2.2.2.2.1 bt196.2.2.2.2.2.1 bt196.2.2.2.2.2.2 a1_0 a1_1 a1_2).bind fun bt204 => (if bt204.1 = true then (some (bt204.2.1, bt204.2.2.1, true)) else ((pile_put.f bt204.2.1 bt204.2.2.1 bt204.2.2.2 a1_0 a1_1 a1_2).bind fun bt208 => (some (bt208.1, bt208.2.1, bt208.2.2))))))
theorem union_pile_add.mono : ∀ a0 a1 a2 a3 a4 a5 k, LeO (union_pile_add.f k a0 a1 a2 a3 a4 a5) (union_pile_add.f (k + 1) a0 a1 a2 a3 a4 a5) := by
 intro a0 a1 a2 a3 a4 a5 k; unfold union_pile_add.f
 repeat' with_reducible first | exact union_pile_blocked.mono _ _ _ _ _ _ _ | exact LeO.refl _ | exact LeO.none _ | refine LeO.ite ?_ ?_ | refine LeO.bind ?_ (fun _ => ?_)
def union_pile_add.T1 : Bool × List (List Nat × List Nat) := (true, [([], []), ([0], [0]), ([1], [1]), ([2], [2]), ([], []), ([4], [4]), ([3, 5], [3, 5]), ([6], [6]), ([7], [7]), ([7], [7]), ([], []), ([10, 8, 0, 1, 2, 3, 4, 5, 6, 7, 8, 10], [8, 10]), ([9, 11, 0, 1, 2, 3, 4, 5, 6, 7, 8, 9, 10, 11], [9])])
def union_pile_add.B1 : List Nat := [0, 1, 3, 7, 0, 16, 63, 127, 255, 255, 0, 1535, 4095]
theorem union_pile_add.tab1 : rtab .any (opsOf Tryd.f18 1) = union_pile_add.T1 := by kernel_rfl
theorem union_pile_add.bits1 : waitsOk union_pile_add.T1.2 union_pile_add.B1 = true := by kernel_rfl
def union_pile_add.T2 : Bool × List (List Nat × List Nat) := (true, [([], []), ([0], [0]), ([1], [1]), ([2], [2]), ([], []), ([4], [4]), ([], []), ([3, 5, 6, 0, 1, 2, 3, 4, 5, 6], [3, 5, 6])])
def union_pile_add.B2 : List Nat := [0, 1, 3, 7, 0, 16, 0, 127]
theorem union_pile_add.tab2 : rtab .any (opsOf Tryd.f18 2) = union_pile_add.T2 := by kernel_rfl
theorem union_pile_add.bits2 : waitsOk union_pile_add.T2.2 union_pile_add.B2 = true := by kernel_rfl
def union_pile_add.T3 : Bool × List (List Nat × List Nat) := (true, [([], []), ([], []), ([1], [1]), ([2], [2]), ([3], [3]), ([], []), ([5], [5]), ([4, 6], [4, 6]), ([0, 0, 1, 2, 3, 4, 5, 6, 7], [0]), ([8, 0, 1, 2, 3, 4, 5, 6, 7], [8]), ([9, 7, 7, 0, 1, 2, 3, 4, 5, 6, 7], [7, 9])])
def union_pile_add.B3 : List Nat := [0, 0, 2, 6, 14, 0, 32, 126, 255, 511, 1023]
theorem union_pile_add.tab3 : rtab .any (opsOf Tryd.f18 3) = union_pile_add.T3 := by kernel_rfl
theorem union_pile_add.bits3 : waitsOk union_pile_add.T3.2 union_pile_add.B3 = true := by kernel_rfl
set_option maxHeartbeats 8000000 in
set_option maxRecDepth 100000 in
theorem union_pile_add.calls (k : Nat) (g : Nat) (s0_0 : Bool) (s0_1 : List (S37)) (s0_2 : Bool) (a1_0 : ByteArray) (a1_1 : Int) (a1_2 : ByteArray) (r1 : Bool) (r2 : List (S37)) (r3 : Bool) (w0 w : World) (hI : IsS46 w0 w g s0_0 s0_1 s0_2) (hB : Below w0.heap.size w0 w) (h : union_pile_add.f k s0_0 s0_1 s0_2 a1_0 a1_1 a1_2 = some (r1, r2, r3)) :
  Calls Tryd.prog 18 #[.pointer (some ⟨g, 0, none⟩), .agg #[.string a1_0, .int .i64 a1_1, .string a1_2]] w fun e w' => e = .returned (.tuple #[]) ∧ IsS46 w0 w' g r1 r2 r3 ∧ Below w0.heap.size w0 w' := by
 have hu37 := Tryd.underlying37; obtain ⟨mP_, hIP_⟩ := IsPileN.of hI; have HI0 := am hIP_; clear hIP_; have HK := am (KeptP.refl w g); have HL := am hB.size; clear hI; have HW0 := am hB.size; have HB := am hB; clear hB; have H : ((pile_lookN.f s0_0 s0_1 s0_2 a1_0 a1_1 a1_2).bind fun bt196 => (if bt196.2.2.2.1 = true then (if bt196.2.2.2.2.2.2 = true then (some (bt196.2.2.2.2.1, bt196.2.2.2.2.2.1, true)) else (some (bt196.2.2.2.2.1, bt196.2.2.2.2.2.1, (!(bt196.1.toList == a1_0.toList) || (!(bt196.2.1 == a1_1) || (!(bt196.2.2.1.toList == a1_2.toList))))))) else ((union_pile_blocked.f k bt196.2.2.2.2.1 bt196.2.2.2.2.2.1 bt196.2.2.2.2.2.2 a1_0 a1_1 a1_2).bind fun bt204 => (if bt204.1 = true then (some (bt204.2.1, bt204.2.2.1, true)) else ((pile_put.f bt204.2.1 bt204.2.2.1 bt204.2.2.2 a1_0 a1_1 a1_2).bind fun bt208 => (some (bt208.1, bt208.2.1, bt208.2.2))))))) = some (r1, r2, r3) := h; clear h; replace H := oB H; obtain ⟨⟨t196, t197, t198, t199, t200, t201, t202⟩, A30, H⟩ := H; replace H : (if t199 = true then (if t202 = true then (some (t200, t201, true)) else (some (t200, t201, (!(t196.toList == a1_0.toList) || (!(t197 == a1_1) || (!(t198.toList == a1_2.toList))))))) else ((union_pile_blocked.f k t200 t201 t202 a1_0 a1_1 a1_2).bind fun bt204 => (if bt204.1 = true then (some (bt204.2.1, bt204.2.2.1, true)) else ((pile_put.f bt204.2.1 bt204.2.2.1 bt204.2.2.2 a1_0 a1_1 a1_2).bind fun bt208 => (some (bt208.1, bt208.2.1, bt208.2.2)))))) = some (r1, r2, r3) := H
 have A3 := am A30; clear A30; by_cases c4 : t199 = true
 ·subst c4
  have H1 : (if t202 = true then (some (t200, t201, true)) else (some (t200, t201, (!(t196.toList == a1_0.toList) || (!(t197 == a1_1) || (!(t198.toList == a1_2.toList))))))) = some (r1, r2, r3) := by rw [if_pos rfl] at H; exact H
  clear H; have H := H1; clear H1; by_cases c5 : t202 = true
  ·subst c5
   have H1 : (some (t200, t201, true)) = some (r1, r2, r3) := by rw [if_pos rfl] at H; exact H
   clear H; have H := H1; clear H1; simp only [Option.some.injEq, Prod.mk.injEq] at H
   obtain ⟨rfl, rfl, rfl⟩ := H; go_enter Tryd.func18, Tryd.ntmps18; obtain ⟨e4_, e5_, e6_⟩ := (IsS46.look (HI0.out).1 (show pile_look.f _ _ _ _ = some _ from A3.out)).2; subst e4_; subst e5_; subst e6_; try go_wp2_with (first | ((with_reducible refine gate_dst (N := 3) rfl ?_); refine bx 3 #[.string a1_0, .int .i64 a1_1, .string a1_2] 37 ?_; intro gb195 hg w6 hbox hb; replace HB := am (below_step (by repeat (first | (with_reducible first | exact HB.out | apply bA | apply bN | apply bO | refine below_set ?_ (IsPileN.ge HI0.out)) | exact HB.out)) hb); have BK195 := am (hbox); have GW195 := am ((by rw [hg]; exact (KeptP.size (w := w) (g := g) (by repeat (first | (with_reducible first | exact HK.out | apply KeptP.set_ | apply KeptP.drewN | apply KeptP.drew | apply KeptP.alloc) | exact HK.out))) : w.heap.size ≤ gb195)); have GE195 := am ((Nat.le_trans HW0.out (by rw [hg]; exact (KeptP.size (w := w) (g := g) (by repeat (first | (with_reducible first | exact HK.out | apply KeptP.set_ | apply KeptP.drewN | apply KeptP.drew | apply KeptP.alloc) | exact HK.out))) : w.heap.size ≤ gb195) : w0.heap.size ≤ gb195)); replace HK := am (KeptP.below (w := w) (g := g) (by repeat (first | (with_reducible first | exact HK.out | apply KeptP.set_ | apply KeptP.drewN | apply KeptP.drew | apply KeptP.alloc) | exact HK.out)) hb); have NB0_195 := am ((by rw [hg]; exact Nat.ne_of_lt (IsPileN.lt (show IsPileN w0 _ g w.heap.size mP_ _ _ _ from by repeat (first | (with_reducible first | exact HI0.out | apply IsPileN.alloc | apply IsPileN.drewN | apply IsPileN.drew | apply IsPileN.set_2) | exact HI0.out))) : g ≠ gb195)); have NB195_0 := am ((by rw [hg]; exact Nat.ne_of_gt (IsPileN.lt (show IsPileN w0 _ g w.heap.size mP_ _ _ _ from by repeat (first | (with_reducible first | exact HI0.out | apply IsPileN.alloc | apply IsPileN.drewN | apply IsPileN.drew | apply IsPileN.set_2) | exact HI0.out))) : gb195 ≠ g)); replace HI0 := am (IsPileN.below (by repeat (first | (with_reducible first | exact HI0.out | apply IsPileN.alloc | apply IsPileN.drewN | apply IsPileN.drew | apply IsPileN.set_2) | exact HI0.out)) hb); clear hb hbox hg))
   replace BK195 := am (kD BK195.out); replace HI0 := am (IsPileN.drew HI0.out); replace HK := am (KeptP.drew HK.out); replace HB := am (bO HB.out); refine start_ (n := 13) (S := fun w' => w'.cell? ⟨gb195, 0, none⟩ = some (.string a1_0) ∧ w'.cell? ⟨gb195, 1, none⟩ = some (.int .i64 a1_1) ∧ w'.cell? ⟨gb195, 2, none⟩ = some (.string a1_2) ∧ w'.cell? ⟨g, 0, none⟩ = some (.map (some mP_)) ∧ (Instr.lookup 44 (.map (some mP_)) (.string a1_0) true).run Tryd.prog w' = .ok (.tuple #[.agg #[.string t196, .int .i64 t197, .string t198], .bool true]) w') (ds := []) #[fF,fF,fF,fF,fF,fF,fF,fF,fF,fF,fF,fF,fF] (by kernel_rfl) rfl rfl ⟨(blk_cell BK195.out 0).trans rfl, (blk_cell BK195.out 1).trans rfl, (blk_cell BK195.out 2).trans rfl, (IsPileN.cell0 (w0 := w0) (N := w.heap.size) (by repeat (first | (with_reducible first | exact HI0.out | apply IsPileN.alloc | apply IsPileN.drewN | apply IsPileN.drew | apply IsPileN.set_2 | refine IsPileN.far ?_ GW195.out _) | exact HI0.out))), (IsPileN.look (w0 := w0) (g := g) (N := w.heap.size) (by repeat (first | (with_reducible first | exact HI0.out | apply IsPileN.alloc | apply IsPileN.drewN | apply IsPileN.drew | apply IsPileN.set_2 | refine IsPileN.far ?_ GW195.out _) | exact HI0.out)) (show pile_look.f _ _ _ _ = some _ from A3.out) rfl)⟩ (fun hHeld => ?_); refine with_tabW union_pile_add.tab1 union_pile_add.bits1 (fun HT_ HW_ => ?_)
   generalize w6.drew = w8 at BK195 HI0 HK HB hHeld ⊢
   refine pu 0 (some 7) ?_
   refine pu 1 (some 8) ?_
   refine pu 2 (some 9) ?_
   refine take_ (i := 3) (N := some 10) (v := ?_) (a' := ?_) #[tT,tT,tT,tT,fF,fF,fF,fF,fF,fF,fF,fF,fF] rfl rfl (take_ofW HT_.out HW_.out (by kernel_rfl)) (fun _ _ _ h => h) (Or.inl ⟨by rfl, ?_⟩) hHeld ?_ ?_
   rotate_left
   ·rintro w' ⟨s0, s1, s2, s3, s4⟩
    go_simp
    with_reducible rfl
   rotate_left
   ·simp only [Act.put, sA, sB, sC, i64_w, i32_w]
    rfl
   refine pu 4 (some 11) ?_
   refine take_ (i := 5) (N := some 12) (v := ?_) (a' := ?_) #[tT,tT,tT,tT,tT,tT,fF,fF,fF,fF,fF,fF,fF] rfl rfl (take_ofW HT_.out HW_.out (by kernel_rfl)) (fun _ _ _ h => h) (Or.inl ⟨by rfl, ?_⟩) hHeld ?_ ?_
   rotate_left
   ·rintro w' ⟨s0, s1, s2, s3, s4⟩
    go_simp
    with_reducible rfl
   rotate_left
   ·simp only [Act.put, sA, sB, sC, i64_w, i32_w]
    rfl
   refine take_ (i := 6) (N := some 13) (v := ?_) (a' := ?_) #[tT,tT,tT,tT,tT,tT,tT,fF,fF,fF,fF,fF,fF] rfl rfl (take_ofW HT_.out HW_.out (by kernel_rfl)) (fun _ _ _ h => h) (Or.inl ⟨by rfl, ?_⟩) hHeld ?_ ?_
   rotate_left
   ·rintro w' ⟨s0, s1, s2, s3, s4⟩
    go_simp
    with_reducible rfl
   rotate_left
   ·simp only [Act.put, sA, sB, sC, i64_w, i32_w]
    rfl
   refine pu 7 (some 6) ?_
   refine pu 8 (some 14) ?_
   refine pu 9 (some 15) ?_
   refine one_ (i := 10) (N := some 4) #[tT,tT,tT,tT,tT,tT,tT,tT,tT,tT,tT,fF,fF] rfl rfl (one_of HT_.out (by kernel_rfl)) (by decide) (fun K hK => ?_)
   refine box_step ?hg (N := 4) ?hd (cs := #[.string (⟨#[]⟩ : ByteArray), .int .i64 0, .string (⟨#[]⟩ : ByteArray)]) (t := 37) ?hr ?_; (case hd => rfl); (case hg => rfl); (case hr => first | (go_simp; done) | (go_simp; rfl))
   intro gb203 hg w9 hbox hb; have n0_ := am (IsPileN.below (by repeat (first | (with_reducible first | exact HI0.out | apply IsPileN.alloc | apply IsPileN.drewN | apply IsPileN.drew | apply IsPileN.set_2 | refine IsPileN.far ?_ GW195.out _) | exact HI0.out)) hb); have n1_ := am (blk_below (g := gb195) (o := .cells #[.string a1_0, .int .i64 a1_1, .string a1_2] 37 (0, 0)) (bk BK195.out) hb); have n2_ := am (KeptP.below (w := w) (g := g) (by repeat (first | (with_reducible first | exact HK.out | apply KeptP.set_ | apply KeptP.drewN | apply KeptP.drew | apply KeptP.alloc | refine KeptP.far ?_ GW195.out _) | exact HK.out)) hb); have n3_ := am (below_step (by repeat (first | (with_reducible first | exact HB.out | apply bA | apply bN | apply bO | refine below_set ?_ (IsPileN.ge HI0.out) | refine below_set ?_ GE195.out) | exact HB.out)) hb); have n4_ := am (hbox); have n5_ := am ((by rw [hg]; exact (KeptP.size (w := w) (g := g) (by repeat (first | (with_reducible first | exact HK.out | apply KeptP.set_ | apply KeptP.drewN | apply KeptP.drew | apply KeptP.alloc | refine KeptP.far ?_ GW195.out _) | exact HK.out))) : w.heap.size ≤ gb203)); have n6_ := am ((Nat.le_trans HW0.out (by rw [hg]; exact (KeptP.size (w := w) (g := g) (by repeat (first | (with_reducible first | exact HK.out | apply KeptP.set_ | apply KeptP.drewN | apply KeptP.drew | apply KeptP.alloc | refine KeptP.far ?_ GW195.out _) | exact HK.out))) : w.heap.size ≤ gb203) : w0.heap.size ≤ gb203))
   have n7_ := am ((by rw [hg]; exact Nat.ne_of_lt (blk_lt (g := gb195) (o := .cells #[.string a1_0, .int .i64 a1_1, .string a1_2] 37 (0, 0)) (bk BK195.out)) : gb195 ≠ gb203)); have n8_ := am ((by rw [hg]; exact Nat.ne_of_gt (blk_lt (g := gb195) (o := .cells #[.string a1_0, .int .i64 a1_1, .string a1_2] 37 (0, 0)) (bk BK195.out)) : gb203 ≠ gb195)); have n9_ := am ((by rw [hg]; exact Nat.ne_of_lt (IsPileN.lt (show IsPileN w0 _ g w.heap.size mP_ _ _ _ from by repeat (first | (with_reducible first | exact HI0.out | apply IsPileN.alloc | apply IsPileN.drewN | apply IsPileN.drew | apply IsPileN.set_2 | refine IsPileN.far ?_ GW195.out _) | exact HI0.out))) : g ≠ gb203)); have n10_ := am ((by rw [hg]; exact Nat.ne_of_gt (IsPileN.lt (show IsPileN w0 _ g w.heap.size mP_ _ _ _ from by repeat (first | (with_reducible first | exact HI0.out | apply IsPileN.alloc | apply IsPileN.drewN | apply IsPileN.drew | apply IsPileN.set_2 | refine IsPileN.far ?_ GW195.out _) | exact HI0.out))) : gb203 ≠ g)); clear HI0; clear BK195; clear HK; clear HB; have HI0 := n0_; have BK195 := n1_; have HK := n2_; have HB := n3_; have BK203 := n4_; have GW203 := n5_; have GE203 := n6_; have NB195_203 := n7_; have NB203_195 := n8_; have NB0_203 := n9_; have NB203_0 := n10_; clear n0_ n1_ n2_ n3_ n4_ n5_ n6_ n7_ n8_ n9_ n10_
   clear hb hbox hg; refine hK.out _ _ ⟨(blk_cell BK195.out 0).trans rfl, (blk_cell BK195.out 1).trans rfl, (blk_cell BK195.out 2).trans rfl, (IsPileN.cell0 (w0 := w0) (N := w.heap.size) (by repeat (first | (with_reducible first | exact HI0.out | apply IsPileN.alloc | apply IsPileN.drewN | apply IsPileN.drew | apply IsPileN.set_2 | refine IsPileN.far ?_ GW195.out _ | refine IsPileN.far ?_ GW203.out _) | exact HI0.out))), (IsPileN.look (w0 := w0) (g := g) (N := w.heap.size) (by repeat (first | (with_reducible first | exact HI0.out | apply IsPileN.alloc | apply IsPileN.drewN | apply IsPileN.drew | apply IsPileN.set_2 | refine IsPileN.far ?_ GW195.out _ | refine IsPileN.far ?_ GW203.out _) | exact HI0.out)) (show pile_look.f _ _ _ _ = some _ from A3.out) rfl)⟩ (fun hHeld => ?_)
   clear hK K; refine norm_ (a' := ?_) ?_ ?_
   rotate_left
   ·show Act.put _ (some 4) _ = _
    simp only [Act.put, sA, sB, sC, i64_w, i32_w]
    rfl
   refine one_ (i := 11) (N := none) #[tT,tT,tT,tT,tT,tT,tT,tT,tT,tT,tT,tT,fF] rfl rfl (one_of HT_.out (by kernel_rfl)) (by decide) (fun K hK => ?_)
   have hs10 : w9.cell? ⟨gb203, 0, none⟩ = some (.string (⟨#[]⟩ : ByteArray)) := (blk_cell BK203.out 0).trans rfl; have hfs10 := blk_frozen BK203.out 0; have hns10_0 := NB195_203.out; have hms10_0 := NB203_195.out; have hs11 : w9.cell? ⟨gb203, 1, none⟩ = some (.int .i64 0) := (blk_cell BK203.out 1).trans rfl; have hfs11 := blk_frozen BK203.out 1; have hns11_0 := NB195_203.out; have hms11_0 := NB203_195.out; have hs12 : w9.cell? ⟨gb203, 2, none⟩ = some (.string (⟨#[]⟩ : ByteArray)) := (blk_cell BK203.out 2).trans rfl; have hfs12 := blk_frozen BK203.out 2; have hns12_0 := NB195_203.out; have hms12_0 := NB203_195.out; refine skip_ (w1 := ?_) (by rfl) rfl ?_ ?_
   rotate_left
   ·go_simp
    rfl
   refine hK.out _ _ ⟨((cell_far (p := ⟨gb203, _, none⟩) NB195_203.out _).trans (((cell_far (p := ⟨gb203, _, none⟩) NB195_203.out _).trans (((cell_far (p := ⟨gb203, _, none⟩) NB195_203.out _).trans (hHeld.1)))))), ((cell_far (p := ⟨gb203, _, none⟩) NB195_203.out _).trans (((cell_far (p := ⟨gb203, _, none⟩) NB195_203.out _).trans (((cell_far (p := ⟨gb203, _, none⟩) NB195_203.out _).trans (hHeld.2.1)))))), ((cell_far (p := ⟨gb203, _, none⟩) NB195_203.out _).trans (((cell_far (p := ⟨gb203, _, none⟩) NB195_203.out _).trans (((cell_far (p := ⟨gb203, _, none⟩) NB195_203.out _).trans (hHeld.2.2.1)))))), (IsPileN.cell0 (w0 := w0) (N := w.heap.size) (IsPileN.far3 HI0.out GW203.out _ _ _)), (IsPileN.look (w0 := w0) (g := g) (N := w.heap.size) (IsPileN.far3 HI0.out GW203.out _ _ _) (show pile_look.f _ _ _ _ = some _ from A3.out) rfl)⟩ (fun hHeld => ?_)
   clear hK K; refine pure_ (i := 12) (N := some 5) (v := ?_) (a' := ?_) #[tT,tT,tT,tT,tT,tT,tT,tT,tT,tT,tT,tT,tT] rfl rfl (any_of HT_.out (by kernel_rfl)) (fun _ _ _ h => h) (Or.inl ⟨by rfl, ?_⟩) ?_ ?_
   rotate_left
   ·intro w'
    go_simp
    with_reducible rfl
   rotate_left
   ·simp only [Act.put, sA, sB, sC, i64_w, i32_w]
    rfl
   refine done_ (done_of HT_.out (by kernel_rfl)) ?_
   obtain ⟨mSz_, ASz13_1, cSz13_1, HGz13, hgz13, HSz13_1⟩ := IsS46.open_ (IsPileN.far3 HI0.out GW203.out (.string t196) (.int .i64 t197) (.string t198)).1; have hcz13_0 := cellS46_0 HGz13; have hcz13_1 := cellS46_1 HGz13; have hcz13_2 := cellS46_2 HGz13; have hfz13_0 := blk_frozen HGz13 0; have hfz13_1 := blk_frozen HGz13 1; have hfz13_2 := blk_frozen HGz13 2; clear HGz13 hgz13; try go_wp2
   first | go_end0 | ((try simp only [Exit.inBlock, Exit.then]); refine bodyPost_ret (results_none rfl _ _ _) rfl ?_)
   exact ⟨ez, IsPileN.fst (N := w.heap.size) (m := mP_) (by repeat (first | (with_reducible first | exact HI0.out | exact IsPileN.far3 HI0.out GW203.out _ _ _ | apply IsPileN.alloc | apply IsPileN.drewN | apply IsPileN.drew | apply IsPileN.set_2 | refine IsPileN.far ?_ GW195.out _ | refine IsPileN.far ?_ GW203.out _) | exact HI0.out)), by repeat (first | (with_reducible first | exact HB.out | apply bA | apply bN | apply bO | refine below_set ?_ (IsPileN.ge HI0.out) | refine below_set ?_ GE195.out | refine below_set ?_ GE203.out) | exact HB.out)⟩
  ·replace c5 := Bool.eq_false_iff.mpr c5
   subst c5; have H1 : (some (t200, t201, (!(t196.toList == a1_0.toList) || (!(t197 == a1_1) || (!(t198.toList == a1_2.toList)))))) = some (r1, r2, r3) := by rw [if_neg (show ¬ (false = true) by decide)] at H; exact H
   clear H; have H := H1; clear H1; simp only [Option.some.injEq, Prod.mk.injEq] at H
   obtain ⟨rfl, rfl, rfl⟩ := H; go_enter Tryd.func18, Tryd.ntmps18; obtain ⟨e4_, e5_, e6_⟩ := (IsS46.look (HI0.out).1 (show pile_look.f _ _ _ _ = some _ from A3.out)).2; subst e4_; subst e5_; subst e6_; try go_wp2_with (first | ((with_reducible refine gate_dst (N := 3) rfl ?_); refine bx 3 #[.string a1_0, .int .i64 a1_1, .string a1_2] 37 ?_; intro gb195 hg w14 hbox hb; replace HB := am (below_step (by repeat (first | (with_reducible first | exact HB.out | apply bA | apply bN | apply bO | refine below_set ?_ (IsPileN.ge HI0.out)) | exact HB.out)) hb); have BK195 := am (hbox); have GW195 := am ((by rw [hg]; exact (KeptP.size (w := w) (g := g) (by repeat (first | (with_reducible first | exact HK.out | apply KeptP.set_ | apply KeptP.drewN | apply KeptP.drew | apply KeptP.alloc) | exact HK.out))) : w.heap.size ≤ gb195)); have GE195 := am ((Nat.le_trans HW0.out (by rw [hg]; exact (KeptP.size (w := w) (g := g) (by repeat (first | (with_reducible first | exact HK.out | apply KeptP.set_ | apply KeptP.drewN | apply KeptP.drew | apply KeptP.alloc) | exact HK.out))) : w.heap.size ≤ gb195) : w0.heap.size ≤ gb195)); replace HK := am (KeptP.below (w := w) (g := g) (by repeat (first | (with_reducible first | exact HK.out | apply KeptP.set_ | apply KeptP.drewN | apply KeptP.drew | apply KeptP.alloc) | exact HK.out)) hb); have NB0_195 := am ((by rw [hg]; exact Nat.ne_of_lt (IsPileN.lt (show IsPileN w0 _ g w.heap.size mP_ _ _ _ from by repeat (first | (with_reducible first | exact HI0.out | apply IsPileN.alloc | apply IsPileN.drewN | apply IsPileN.drew | apply IsPileN.set_2) | exact HI0.out))) : g ≠ gb195)); have NB195_0 := am ((by rw [hg]; exact Nat.ne_of_gt (IsPileN.lt (show IsPileN w0 _ g w.heap.size mP_ _ _ _ from by repeat (first | (with_reducible first | exact HI0.out | apply IsPileN.alloc | apply IsPileN.drewN | apply IsPileN.drew | apply IsPileN.set_2) | exact HI0.out))) : gb195 ≠ g)); replace HI0 := am (IsPileN.below (by repeat (first | (with_reducible first | exact HI0.out | apply IsPileN.alloc | apply IsPileN.drewN | apply IsPileN.drew | apply IsPileN.set_2) | exact HI0.out)) hb); clear hb hbox hg))
   replace BK195 := am (kD BK195.out); replace HI0 := am (IsPileN.drew HI0.out); replace HK := am (KeptP.drew HK.out); replace HB := am (bO HB.out); refine start_ (n := 13) (S := fun w' => w'.cell? ⟨gb195, 0, none⟩ = some (.string a1_0) ∧ w'.cell? ⟨gb195, 1, none⟩ = some (.int .i64 a1_1) ∧ w'.cell? ⟨gb195, 2, none⟩ = some (.string a1_2) ∧ w'.cell? ⟨g, 0, none⟩ = some (.map (some mP_)) ∧ (Instr.lookup 44 (.map (some mP_)) (.string a1_0) true).run Tryd.prog w' = .ok (.tuple #[.agg #[.string t196, .int .i64 t197, .string t198], .bool true]) w') (ds := []) #[fF,fF,fF,fF,fF,fF,fF,fF,fF,fF,fF,fF,fF] (by kernel_rfl) rfl rfl ⟨(blk_cell BK195.out 0).trans rfl, (blk_cell BK195.out 1).trans rfl, (blk_cell BK195.out 2).trans rfl, (IsPileN.cell0 (w0 := w0) (N := w.heap.size) (by repeat (first | (with_reducible first | exact HI0.out | apply IsPileN.alloc | apply IsPileN.drewN | apply IsPileN.drew | apply IsPileN.set_2 | refine IsPileN.far ?_ GW195.out _) | exact HI0.out))), (IsPileN.look (w0 := w0) (g := g) (N := w.heap.size) (by repeat (first | (with_reducible first | exact HI0.out | apply IsPileN.alloc | apply IsPileN.drewN | apply IsPileN.drew | apply IsPileN.set_2 | refine IsPileN.far ?_ GW195.out _) | exact HI0.out)) (show pile_look.f _ _ _ _ = some _ from A3.out) rfl)⟩ (fun hHeld => ?_); refine with_tabW union_pile_add.tab1 union_pile_add.bits1 (fun HT_ HW_ => ?_)
   generalize w14.drew = w16 at BK195 HI0 HK HB hHeld ⊢
   refine pu 0 (some 7) ?_
   refine pu 1 (some 8) ?_
   refine pu 2 (some 9) ?_
   refine take_ (i := 3) (N := some 10) (v := ?_) (a' := ?_) #[tT,tT,tT,tT,fF,fF,fF,fF,fF,fF,fF,fF,fF] rfl rfl (take_ofW HT_.out HW_.out (by kernel_rfl)) (fun _ _ _ h => h) (Or.inl ⟨by rfl, ?_⟩) hHeld ?_ ?_
   rotate_left
   ·rintro w' ⟨s0, s1, s2, s3, s4⟩
    go_simp
    with_reducible rfl
   rotate_left
   ·simp only [Act.put, sA, sB, sC, i64_w, i32_w]
    rfl
   refine pu 4 (some 11) ?_
   refine take_ (i := 5) (N := some 12) (v := ?_) (a' := ?_) #[tT,tT,tT,tT,tT,tT,fF,fF,fF,fF,fF,fF,fF] rfl rfl (take_ofW HT_.out HW_.out (by kernel_rfl)) (fun _ _ _ h => h) (Or.inl ⟨by rfl, ?_⟩) hHeld ?_ ?_
   rotate_left
   ·rintro w' ⟨s0, s1, s2, s3, s4⟩
    go_simp
    with_reducible rfl
   rotate_left
   ·simp only [Act.put, sA, sB, sC, i64_w, i32_w]
    rfl
   refine take_ (i := 6) (N := some 13) (v := ?_) (a' := ?_) #[tT,tT,tT,tT,tT,tT,tT,fF,fF,fF,fF,fF,fF] rfl rfl (take_ofW HT_.out HW_.out (by kernel_rfl)) (fun _ _ _ h => h) (Or.inl ⟨by rfl, ?_⟩) hHeld ?_ ?_
   rotate_left
   ·rintro w' ⟨s0, s1, s2, s3, s4⟩
    go_simp
    with_reducible rfl
   rotate_left
   ·simp only [Act.put, sA, sB, sC, i64_w, i32_w]
    rfl
   refine pu 7 (some 6) ?_
   refine pu 8 (some 14) ?_
   refine pu 9 (some 15) ?_
   refine one_ (i := 10) (N := some 4) #[tT,tT,tT,tT,tT,tT,tT,tT,tT,tT,tT,fF,fF] rfl rfl (one_of HT_.out (by kernel_rfl)) (by decide) (fun K hK => ?_)
   refine box_step ?hg (N := 4) ?hd (cs := #[.string (⟨#[]⟩ : ByteArray), .int .i64 0, .string (⟨#[]⟩ : ByteArray)]) (t := 37) ?hr ?_; (case hd => rfl); (case hg => rfl); (case hr => first | (go_simp; done) | (go_simp; rfl))
   intro gb203 hg w17 hbox hb; have n0_ := am (IsPileN.below (by repeat (first | (with_reducible first | exact HI0.out | apply IsPileN.alloc | apply IsPileN.drewN | apply IsPileN.drew | apply IsPileN.set_2 | refine IsPileN.far ?_ GW195.out _) | exact HI0.out)) hb); have n1_ := am (blk_below (g := gb195) (o := .cells #[.string a1_0, .int .i64 a1_1, .string a1_2] 37 (0, 0)) (bk BK195.out) hb); have n2_ := am (KeptP.below (w := w) (g := g) (by repeat (first | (with_reducible first | exact HK.out | apply KeptP.set_ | apply KeptP.drewN | apply KeptP.drew | apply KeptP.alloc | refine KeptP.far ?_ GW195.out _) | exact HK.out)) hb); have n3_ := am (below_step (by repeat (first | (with_reducible first | exact HB.out | apply bA | apply bN | apply bO | refine below_set ?_ (IsPileN.ge HI0.out) | refine below_set ?_ GE195.out) | exact HB.out)) hb); have n4_ := am (hbox); have n5_ := am ((by rw [hg]; exact (KeptP.size (w := w) (g := g) (by repeat (first | (with_reducible first | exact HK.out | apply KeptP.set_ | apply KeptP.drewN | apply KeptP.drew | apply KeptP.alloc | refine KeptP.far ?_ GW195.out _) | exact HK.out))) : w.heap.size ≤ gb203)); have n6_ := am ((Nat.le_trans HW0.out (by rw [hg]; exact (KeptP.size (w := w) (g := g) (by repeat (first | (with_reducible first | exact HK.out | apply KeptP.set_ | apply KeptP.drewN | apply KeptP.drew | apply KeptP.alloc | refine KeptP.far ?_ GW195.out _) | exact HK.out))) : w.heap.size ≤ gb203) : w0.heap.size ≤ gb203))
   have n7_ := am ((by rw [hg]; exact Nat.ne_of_lt (blk_lt (g := gb195) (o := .cells #[.string a1_0, .int .i64 a1_1, .string a1_2] 37 (0, 0)) (bk BK195.out)) : gb195 ≠ gb203)); have n8_ := am ((by rw [hg]; exact Nat.ne_of_gt (blk_lt (g := gb195) (o := .cells #[.string a1_0, .int .i64 a1_1, .string a1_2] 37 (0, 0)) (bk BK195.out)) : gb203 ≠ gb195)); have n9_ := am ((by rw [hg]; exact Nat.ne_of_lt (IsPileN.lt (show IsPileN w0 _ g w.heap.size mP_ _ _ _ from by repeat (first | (with_reducible first | exact HI0.out | apply IsPileN.alloc | apply IsPileN.drewN | apply IsPileN.drew | apply IsPileN.set_2 | refine IsPileN.far ?_ GW195.out _) | exact HI0.out))) : g ≠ gb203)); have n10_ := am ((by rw [hg]; exact Nat.ne_of_gt (IsPileN.lt (show IsPileN w0 _ g w.heap.size mP_ _ _ _ from by repeat (first | (with_reducible first | exact HI0.out | apply IsPileN.alloc | apply IsPileN.drewN | apply IsPileN.drew | apply IsPileN.set_2 | refine IsPileN.far ?_ GW195.out _) | exact HI0.out))) : gb203 ≠ g)); clear HI0; clear BK195; clear HK; clear HB; have HI0 := n0_; have BK195 := n1_; have HK := n2_; have HB := n3_; have BK203 := n4_; have GW203 := n5_; have GE203 := n6_; have NB195_203 := n7_; have NB203_195 := n8_; have NB0_203 := n9_; have NB203_0 := n10_; clear n0_ n1_ n2_ n3_ n4_ n5_ n6_ n7_ n8_ n9_ n10_
   clear hb hbox hg; refine hK.out _ _ ⟨(blk_cell BK195.out 0).trans rfl, (blk_cell BK195.out 1).trans rfl, (blk_cell BK195.out 2).trans rfl, (IsPileN.cell0 (w0 := w0) (N := w.heap.size) (by repeat (first | (with_reducible first | exact HI0.out | apply IsPileN.alloc | apply IsPileN.drewN | apply IsPileN.drew | apply IsPileN.set_2 | refine IsPileN.far ?_ GW195.out _ | refine IsPileN.far ?_ GW203.out _) | exact HI0.out))), (IsPileN.look (w0 := w0) (g := g) (N := w.heap.size) (by repeat (first | (with_reducible first | exact HI0.out | apply IsPileN.alloc | apply IsPileN.drewN | apply IsPileN.drew | apply IsPileN.set_2 | refine IsPileN.far ?_ GW195.out _ | refine IsPileN.far ?_ GW203.out _) | exact HI0.out)) (show pile_look.f _ _ _ _ = some _ from A3.out) rfl)⟩ (fun hHeld => ?_)
   clear hK K; refine norm_ (a' := ?_) ?_ ?_
   rotate_left
   ·show Act.put _ (some 4) _ = _
    simp only [Act.put, sA, sB, sC, i64_w, i32_w]
    rfl
   refine one_ (i := 11) (N := none) #[tT,tT,tT,tT,tT,tT,tT,tT,tT,tT,tT,tT,fF] rfl rfl (one_of HT_.out (by kernel_rfl)) (by decide) (fun K hK => ?_)
   have hs18 : w17.cell? ⟨gb203, 0, none⟩ = some (.string (⟨#[]⟩ : ByteArray)) := (blk_cell BK203.out 0).trans rfl; have hfs18 := blk_frozen BK203.out 0; have hns18_0 := NB195_203.out; have hms18_0 := NB203_195.out; have hs19 : w17.cell? ⟨gb203, 1, none⟩ = some (.int .i64 0) := (blk_cell BK203.out 1).trans rfl; have hfs19 := blk_frozen BK203.out 1; have hns19_0 := NB195_203.out; have hms19_0 := NB203_195.out; have hs20 : w17.cell? ⟨gb203, 2, none⟩ = some (.string (⟨#[]⟩ : ByteArray)) := (blk_cell BK203.out 2).trans rfl; have hfs20 := blk_frozen BK203.out 2; have hns20_0 := NB195_203.out; have hms20_0 := NB203_195.out; refine skip_ (w1 := ?_) (by rfl) rfl ?_ ?_
   rotate_left
   ·go_simp
    rfl
   refine hK.out _ _ ⟨((cell_far (p := ⟨gb203, _, none⟩) NB195_203.out _).trans (((cell_far (p := ⟨gb203, _, none⟩) NB195_203.out _).trans (((cell_far (p := ⟨gb203, _, none⟩) NB195_203.out _).trans (hHeld.1)))))), ((cell_far (p := ⟨gb203, _, none⟩) NB195_203.out _).trans (((cell_far (p := ⟨gb203, _, none⟩) NB195_203.out _).trans (((cell_far (p := ⟨gb203, _, none⟩) NB195_203.out _).trans (hHeld.2.1)))))), ((cell_far (p := ⟨gb203, _, none⟩) NB195_203.out _).trans (((cell_far (p := ⟨gb203, _, none⟩) NB195_203.out _).trans (((cell_far (p := ⟨gb203, _, none⟩) NB195_203.out _).trans (hHeld.2.2.1)))))), (IsPileN.cell0 (w0 := w0) (N := w.heap.size) (IsPileN.far3 HI0.out GW203.out _ _ _)), (IsPileN.look (w0 := w0) (g := g) (N := w.heap.size) (IsPileN.far3 HI0.out GW203.out _ _ _) (show pile_look.f _ _ _ _ = some _ from A3.out) rfl)⟩ (fun hHeld => ?_)
   clear hK K; refine pure_ (i := 12) (N := some 5) (v := ?_) (a' := ?_) #[tT,tT,tT,tT,tT,tT,tT,tT,tT,tT,tT,tT,tT] rfl rfl (any_of HT_.out (by kernel_rfl)) (fun _ _ _ h => h) (Or.inl ⟨by rfl, ?_⟩) ?_ ?_
   rotate_left
   ·intro w'
    go_simp
    with_reducible rfl
   rotate_left
   ·simp only [Act.put, sA, sB, sC, i64_w, i32_w]
    rfl
   refine done_ (done_of HT_.out (by kernel_rfl)) ?_
   obtain ⟨mSz_, ASz21_1, cSz21_1, HGz21, hgz21, HSz21_1⟩ := IsS46.open_ (IsPileN.far3 HI0.out GW203.out (.string t196) (.int .i64 t197) (.string t198)).1; have hcz21_0 := cellS46_0 HGz21; have hcz21_1 := cellS46_1 HGz21; have hcz21_2 := cellS46_2 HGz21; have hfz21_0 := blk_frozen HGz21 0; have hfz21_1 := blk_frozen HGz21 1; have hfz21_2 := blk_frozen HGz21 2; clear HGz21 hgz21; have hnb22 := NB203_195.out; have hnc22 := NB195_203.out; have hnb23 := NB203_0.out; have hnc23 := NB0_203.out; obtain ⟨hcz24_0, hcz24_1, hcz24_2⟩ := cq3 BK203.out; obtain ⟨hfz24_0, hfz24_1, hfz24_2⟩ := fq3 BK203.out; have hnb25 := NB195_0.out; have hnc25 := NB0_195.out; obtain ⟨hcz26_0, hcz26_1, hcz26_2⟩ := cq3 BK195.out; obtain ⟨hfz26_0, hfz26_1, hfz26_2⟩ := fq3 BK195.out; try go_wp2
   first | go_end0 | ((try simp only [Exit.inBlock, Exit.then]); refine bodyPost_ret (results_none rfl _ _ _) rfl ?_)
   exact ⟨ez, IsPileN.fst (N := w.heap.size) (m := mP_) (by repeat (first | (with_reducible first | exact HI0.out | exact IsPileN.far3 HI0.out GW203.out _ _ _ | apply IsPileN.alloc | apply IsPileN.drewN | apply IsPileN.drew | apply IsPileN.set_2 | refine IsPileN.far ?_ GW195.out _ | refine IsPileN.far ?_ GW203.out _) | exact HI0.out)), by repeat (first | (with_reducible first | exact HB.out | apply bA | apply bN | apply bO | refine below_set ?_ (IsPileN.ge HI0.out) | refine below_set ?_ GE195.out | refine below_set ?_ GE203.out) | exact HB.out)⟩
 ·replace c4 := Bool.eq_false_iff.mpr c4
  subst c4; have H1 : ((union_pile_blocked.f k t200 t201 t202 a1_0 a1_1 a1_2).bind fun bt204 => (if bt204.1 = true then (some (bt204.2.1, bt204.2.2.1, true)) else ((pile_put.f bt204.2.1 bt204.2.2.1 bt204.2.2.2 a1_0 a1_1 a1_2).bind fun bt208 => (some (bt208.1, bt208.2.1, bt208.2.2))))) = some (r1, r2, r3) := by rw [if_neg (show ¬ (false = true) by decide)] at H; exact H
  clear H; have H := H1; clear H1; replace H := oB H; obtain ⟨⟨t204, t205, t206, t207⟩, A270, H⟩ := H; replace H : (if t204 = true then (some (t205, t206, true)) else ((pile_put.f t205 t206 t207 a1_0 a1_1 a1_2).bind fun bt208 => (some (bt208.1, bt208.2.1, bt208.2.2)))) = some (r1, r2, r3) := H; have A27 := am A270; clear A270; by_cases c28 : t204 = true
  ·subst c28
   have H1 : (some (t205, t206, true)) = some (r1, r2, r3) := by rw [if_pos rfl] at H; exact H
   clear H; have H := H1; clear H1; simp only [Option.some.injEq, Prod.mk.injEq] at H
   obtain ⟨rfl, rfl, rfl⟩ := H; go_enter Tryd.func18, Tryd.ntmps18; obtain ⟨e4_, e5_, e6_⟩ := (IsS46.look (HI0.out).1 (show pile_look.f _ _ _ _ = some _ from A3.out)).2; subst e4_; subst e5_; subst e6_; try go_wp2_with (first | ((with_reducible refine gate_dst (N := 3) rfl ?_); refine bx 3 #[.string a1_0, .int .i64 a1_1, .string a1_2] 37 ?_; intro gb195 hg w29 hbox hb; replace HB := am (below_step (by repeat (first | (with_reducible first | exact HB.out | apply bA | apply bN | apply bO | refine below_set ?_ (IsPileN.ge HI0.out)) | exact HB.out)) hb); have BK195 := am (hbox); have GW195 := am ((by rw [hg]; exact (KeptP.size (w := w) (g := g) (by repeat (first | (with_reducible first | exact HK.out | apply KeptP.set_ | apply KeptP.drewN | apply KeptP.drew | apply KeptP.alloc) | exact HK.out))) : w.heap.size ≤ gb195)); have GE195 := am ((Nat.le_trans HW0.out (by rw [hg]; exact (KeptP.size (w := w) (g := g) (by repeat (first | (with_reducible first | exact HK.out | apply KeptP.set_ | apply KeptP.drewN | apply KeptP.drew | apply KeptP.alloc) | exact HK.out))) : w.heap.size ≤ gb195) : w0.heap.size ≤ gb195)); replace HK := am (KeptP.below (w := w) (g := g) (by repeat (first | (with_reducible first | exact HK.out | apply KeptP.set_ | apply KeptP.drewN | apply KeptP.drew | apply KeptP.alloc) | exact HK.out)) hb); have NB0_195 := am ((by rw [hg]; exact Nat.ne_of_lt (IsPileN.lt (show IsPileN w0 _ g w.heap.size mP_ _ _ _ from by repeat (first | (with_reducible first | exact HI0.out | apply IsPileN.alloc | apply IsPileN.drewN | apply IsPileN.drew | apply IsPileN.set_2) | exact HI0.out))) : g ≠ gb195)); have NB195_0 := am ((by rw [hg]; exact Nat.ne_of_gt (IsPileN.lt (show IsPileN w0 _ g w.heap.size mP_ _ _ _ from by repeat (first | (with_reducible first | exact HI0.out | apply IsPileN.alloc | apply IsPileN.drewN | apply IsPileN.drew | apply IsPileN.set_2) | exact HI0.out))) : gb195 ≠ g)); replace HI0 := am (IsPileN.below (by repeat (first | (with_reducible first | exact HI0.out | apply IsPileN.alloc | apply IsPileN.drewN | apply IsPileN.drew | apply IsPileN.set_2) | exact HI0.out)) hb); clear hb hbox hg))
   replace BK195 := am (kD BK195.out); replace HI0 := am (IsPileN.drew HI0.out); replace HK := am (KeptP.drew HK.out); replace HB := am (bO HB.out); refine start_ (n := 13) (S := fun w' => w'.cell? ⟨gb195, 0, none⟩ = some (.string a1_0) ∧ w'.cell? ⟨gb195, 1, none⟩ = some (.int .i64 a1_1) ∧ w'.cell? ⟨gb195, 2, none⟩ = some (.string a1_2) ∧ w'.cell? ⟨g, 0, none⟩ = some (.map (some mP_)) ∧ (Instr.lookup 44 (.map (some mP_)) (.string a1_0) true).run Tryd.prog w' = .ok (.tuple #[.agg #[.string t196, .int .i64 t197, .string t198], .bool false]) w') (ds := []) #[fF,fF,fF,fF,fF,fF,fF,fF,fF,fF,fF,fF,fF] (by kernel_rfl) rfl rfl ⟨(blk_cell BK195.out 0).trans rfl, (blk_cell BK195.out 1).trans rfl, (blk_cell BK195.out 2).trans rfl, (IsPileN.cell0 (w0 := w0) (N := w.heap.size) (by repeat (first | (with_reducible first | exact HI0.out | apply IsPileN.alloc | apply IsPileN.drewN | apply IsPileN.drew | apply IsPileN.set_2 | refine IsPileN.far ?_ GW195.out _) | exact HI0.out))), (IsPileN.look (w0 := w0) (g := g) (N := w.heap.size) (by repeat (first | (with_reducible first | exact HI0.out | apply IsPileN.alloc | apply IsPileN.drewN | apply IsPileN.drew | apply IsPileN.set_2 | refine IsPileN.far ?_ GW195.out _) | exact HI0.out)) (show pile_look.f _ _ _ _ = some _ from A3.out) rfl)⟩ (fun hHeld => ?_); refine with_tabW union_pile_add.tab1 union_pile_add.bits1 (fun HT_ HW_ => ?_)
   generalize w29.drew = w31 at BK195 HI0 HK HB hHeld ⊢
   refine pu 0 (some 7) ?_
   refine pu 1 (some 8) ?_
   refine pu 2 (some 9) ?_
   refine take_ (i := 3) (N := some 10) (v := ?_) (a' := ?_) #[tT,tT,tT,tT,fF,fF,fF,fF,fF,fF,fF,fF,fF] rfl rfl (take_ofW HT_.out HW_.out (by kernel_rfl)) (fun _ _ _ h => h) (Or.inl ⟨by rfl, ?_⟩) hHeld ?_ ?_
   rotate_left
   ·rintro w' ⟨s0, s1, s2, s3, s4⟩
    go_simp
    with_reducible rfl
   rotate_left
   ·simp only [Act.put, sA, sB, sC, i64_w, i32_w]
    rfl
   refine pu 4 (some 11) ?_
   refine take_ (i := 5) (N := some 12) (v := ?_) (a' := ?_) #[tT,tT,tT,tT,tT,tT,fF,fF,fF,fF,fF,fF,fF] rfl rfl (take_ofW HT_.out HW_.out (by kernel_rfl)) (fun _ _ _ h => h) (Or.inl ⟨by rfl, ?_⟩) hHeld ?_ ?_
   rotate_left
   ·rintro w' ⟨s0, s1, s2, s3, s4⟩
    go_simp
    with_reducible rfl
   rotate_left
   ·simp only [Act.put, sA, sB, sC, i64_w, i32_w]
    rfl
   refine take_ (i := 6) (N := some 13) (v := ?_) (a' := ?_) #[tT,tT,tT,tT,tT,tT,tT,fF,fF,fF,fF,fF,fF] rfl rfl (take_ofW HT_.out HW_.out (by kernel_rfl)) (fun _ _ _ h => h) (Or.inl ⟨by rfl, ?_⟩) hHeld ?_ ?_
   rotate_left
   ·rintro w' ⟨s0, s1, s2, s3, s4⟩
    go_simp
    with_reducible rfl
   rotate_left
   ·simp only [Act.put, sA, sB, sC, i64_w, i32_w]
    rfl
   refine pu 7 (some 6) ?_
   refine pu 8 (some 14) ?_
   refine pu 9 (some 15) ?_
   refine one_ (i := 10) (N := some 4) #[tT,tT,tT,tT,tT,tT,tT,tT,tT,tT,tT,fF,fF] rfl rfl (one_of HT_.out (by kernel_rfl)) (by decide) (fun K hK => ?_)
   refine box_step ?hg (N := 4) ?hd (cs := #[.string (⟨#[]⟩ : ByteArray), .int .i64 0, .string (⟨#[]⟩ : ByteArray)]) (t := 37) ?hr ?_; (case hd => rfl); (case hg => rfl); (case hr => first | (go_simp; done) | (go_simp; rfl))
   intro gb203 hg w32 hbox hb; have n0_ := am (IsPileN.below (by repeat (first | (with_reducible first | exact HI0.out | apply IsPileN.alloc | apply IsPileN.drewN | apply IsPileN.drew | apply IsPileN.set_2 | refine IsPileN.far ?_ GW195.out _) | exact HI0.out)) hb); have n1_ := am (blk_below (g := gb195) (o := .cells #[.string a1_0, .int .i64 a1_1, .string a1_2] 37 (0, 0)) (bk BK195.out) hb); have n2_ := am (KeptP.below (w := w) (g := g) (by repeat (first | (with_reducible first | exact HK.out | apply KeptP.set_ | apply KeptP.drewN | apply KeptP.drew | apply KeptP.alloc | refine KeptP.far ?_ GW195.out _) | exact HK.out)) hb); have n3_ := am (below_step (by repeat (first | (with_reducible first | exact HB.out | apply bA | apply bN | apply bO | refine below_set ?_ (IsPileN.ge HI0.out) | refine below_set ?_ GE195.out) | exact HB.out)) hb); have n4_ := am (hbox); have n5_ := am ((by rw [hg]; exact (KeptP.size (w := w) (g := g) (by repeat (first | (with_reducible first | exact HK.out | apply KeptP.set_ | apply KeptP.drewN | apply KeptP.drew | apply KeptP.alloc | refine KeptP.far ?_ GW195.out _) | exact HK.out))) : w.heap.size ≤ gb203)); have n6_ := am ((Nat.le_trans HW0.out (by rw [hg]; exact (KeptP.size (w := w) (g := g) (by repeat (first | (with_reducible first | exact HK.out | apply KeptP.set_ | apply KeptP.drewN | apply KeptP.drew | apply KeptP.alloc | refine KeptP.far ?_ GW195.out _) | exact HK.out))) : w.heap.size ≤ gb203) : w0.heap.size ≤ gb203))
   have n7_ := am ((by rw [hg]; exact Nat.ne_of_lt (blk_lt (g := gb195) (o := .cells #[.string a1_0, .int .i64 a1_1, .string a1_2] 37 (0, 0)) (bk BK195.out)) : gb195 ≠ gb203)); have n8_ := am ((by rw [hg]; exact Nat.ne_of_gt (blk_lt (g := gb195) (o := .cells #[.string a1_0, .int .i64 a1_1, .string a1_2] 37 (0, 0)) (bk BK195.out)) : gb203 ≠ gb195)); have n9_ := am ((by rw [hg]; exact Nat.ne_of_lt (IsPileN.lt (show IsPileN w0 _ g w.heap.size mP_ _ _ _ from by repeat (first | (with_reducible first | exact HI0.out | apply IsPileN.alloc | apply IsPileN.drewN | apply IsPileN.drew | apply IsPileN.set_2 | refine IsPileN.far ?_ GW195.out _) | exact HI0.out))) : g ≠ gb203)); have n10_ := am ((by rw [hg]; exact Nat.ne_of_gt (IsPileN.lt (show IsPileN w0 _ g w.heap.size mP_ _ _ _ from by repeat (first | (with_reducible first | exact HI0.out | apply IsPileN.alloc | apply IsPileN.drewN | apply IsPileN.drew | apply IsPileN.set_2 | refine IsPileN.far ?_ GW195.out _) | exact HI0.out))) : gb203 ≠ g)); clear HI0; clear BK195; clear HK; clear HB; have HI0 := n0_; have BK195 := n1_; have HK := n2_; have HB := n3_; have BK203 := n4_; have GW203 := n5_; have GE203 := n6_; have NB195_203 := n7_; have NB203_195 := n8_; have NB0_203 := n9_; have NB203_0 := n10_; clear n0_ n1_ n2_ n3_ n4_ n5_ n6_ n7_ n8_ n9_ n10_
   clear hb hbox hg; refine hK.out _ _ ⟨(blk_cell BK195.out 0).trans rfl, (blk_cell BK195.out 1).trans rfl, (blk_cell BK195.out 2).trans rfl, (IsPileN.cell0 (w0 := w0) (N := w.heap.size) (by repeat (first | (with_reducible first | exact HI0.out | apply IsPileN.alloc | apply IsPileN.drewN | apply IsPileN.drew | apply IsPileN.set_2 | refine IsPileN.far ?_ GW195.out _ | refine IsPileN.far ?_ GW203.out _) | exact HI0.out))), (IsPileN.look (w0 := w0) (g := g) (N := w.heap.size) (by repeat (first | (with_reducible first | exact HI0.out | apply IsPileN.alloc | apply IsPileN.drewN | apply IsPileN.drew | apply IsPileN.set_2 | refine IsPileN.far ?_ GW195.out _ | refine IsPileN.far ?_ GW203.out _) | exact HI0.out)) (show pile_look.f _ _ _ _ = some _ from A3.out) rfl)⟩ (fun hHeld => ?_)
   clear hK K; refine norm_ (a' := ?_) ?_ ?_
   rotate_left
   ·show Act.put _ (some 4) _ = _
    simp only [Act.put, sA, sB, sC, i64_w, i32_w]
    rfl
   refine one_ (i := 11) (N := none) #[tT,tT,tT,tT,tT,tT,tT,tT,tT,tT,tT,tT,fF] rfl rfl (one_of HT_.out (by kernel_rfl)) (by decide) (fun K hK => ?_)
   have hs33 : w32.cell? ⟨gb203, 0, none⟩ = some (.string (⟨#[]⟩ : ByteArray)) := (blk_cell BK203.out 0).trans rfl; have hfs33 := blk_frozen BK203.out 0; have hns33_0 := NB195_203.out; have hms33_0 := NB203_195.out; have hs34 : w32.cell? ⟨gb203, 1, none⟩ = some (.int .i64 0) := (blk_cell BK203.out 1).trans rfl; have hfs34 := blk_frozen BK203.out 1; have hns34_0 := NB195_203.out; have hms34_0 := NB203_195.out; have hs35 : w32.cell? ⟨gb203, 2, none⟩ = some (.string (⟨#[]⟩ : ByteArray)) := (blk_cell BK203.out 2).trans rfl; have hfs35 := blk_frozen BK203.out 2; have hns35_0 := NB195_203.out; have hms35_0 := NB203_195.out; refine skip_ (w1 := ?_) (by rfl) rfl ?_ ?_
   rotate_left
   ·go_simp
    rfl
   refine hK.out _ _ ⟨((cell_far (p := ⟨gb203, _, none⟩) NB195_203.out _).trans (((cell_far (p := ⟨gb203, _, none⟩) NB195_203.out _).trans (((cell_far (p := ⟨gb203, _, none⟩) NB195_203.out _).trans (hHeld.1)))))), ((cell_far (p := ⟨gb203, _, none⟩) NB195_203.out _).trans (((cell_far (p := ⟨gb203, _, none⟩) NB195_203.out _).trans (((cell_far (p := ⟨gb203, _, none⟩) NB195_203.out _).trans (hHeld.2.1)))))), ((cell_far (p := ⟨gb203, _, none⟩) NB195_203.out _).trans (((cell_far (p := ⟨gb203, _, none⟩) NB195_203.out _).trans (((cell_far (p := ⟨gb203, _, none⟩) NB195_203.out _).trans (hHeld.2.2.1)))))), (IsPileN.cell0 (w0 := w0) (N := w.heap.size) (IsPileN.far3 HI0.out GW203.out _ _ _)), (IsPileN.look (w0 := w0) (g := g) (N := w.heap.size) (IsPileN.far3 HI0.out GW203.out _ _ _) (show pile_look.f _ _ _ _ = some _ from A3.out) rfl)⟩ (fun hHeld => ?_)
   clear hK K; refine pure_ (i := 12) (N := some 5) (v := ?_) (a' := ?_) #[tT,tT,tT,tT,tT,tT,tT,tT,tT,tT,tT,tT,tT] rfl rfl (any_of HT_.out (by kernel_rfl)) (fun _ _ _ h => h) (Or.inl ⟨by rfl, ?_⟩) ?_ ?_
   rotate_left
   ·intro w'
    go_simp
    with_reducible rfl
   rotate_left
   ·simp only [Act.put, sA, sB, sC, i64_w, i32_w]
    rfl
   refine done_ (done_of HT_.out (by kernel_rfl)) ?_
   have hnb36 := NB195_203.out; have hnc36 := NB203_195.out; have hnb37 := NB195_0.out; have hnc37 := NB0_195.out; obtain ⟨hcz38_0, hcz38_1, hcz38_2⟩ := cq3 BK195.out; obtain ⟨hfz38_0, hfz38_1, hfz38_2⟩ := fq3 BK195.out; try go_wp2_with (first | ((with_reducible refine gate_callee (f := 26) rfl ?_); refine gL (some 50) Tryd.func26 #[.pointer (some ⟨g, 0, none⟩), .agg #[.string a1_0, .int .i64 a1_1, .string a1_2]] ?_; (with_reducible refine (union_pile_blocked.calls0 k g t200 t201 t202 a1_0 a1_1 a1_2 true t205 t206 t207 w0 _ ?side1 ?side2 A27.out).mono ?_); (case side1 => exact IsPileN.fst (N := w.heap.size) (m := mP_) (by repeat (first | (with_reducible first | exact HI0.out | apply IsPileN.alloc | apply IsPileN.drewN | apply IsPileN.drew | apply IsPileN.set_2 | refine IsPileN.far ?_ GW195.out _ | refine IsPileN.far ?_ GW203.out _) | exact HI0.out))); (case side2 => repeat (first | (with_reducible first | exact HB.out | apply bA | apply bN | apply bO | refine below_set ?_ (IsPileN.ge HI0.out) | refine below_set ?_ GE195.out | refine below_set ?_ GE203.out) | exact HB.out)); rintro e w39 ⟨rfl, hi, hb, hk⟩; refine ⟨_, rfl, ?_⟩; obtain ⟨q1_, q2_, q3_⟩ := union_pile_blocked.same A27.out; have hi := (show IsPileN w0 w39 g w.heap.size mP_ t205 t206 t207 from by rw [q1_, q2_, q3_]; exact IsPileN.keep (show IsPileN w0 _ g w.heap.size mP_ t200 t201 t202 from by repeat (first | (with_reducible first | exact HI0.out | apply IsPileN.alloc | apply IsPileN.drewN | apply IsPileN.drew | apply IsPileN.set_2 | refine IsPileN.far ?_ GW195.out _ | refine IsPileN.far ?_ GW203.out _) | exact HI0.out)) hk); clear q1_ q2_ q3_; replace BK195 := am (keep_blk (b := gb195) (o := .cells #[.string a1_0, .int .i64 a1_1, .string a1_2] 37 (0, 0)) (by (with_reducible repeat (first | refine kN ?_ _ | refine kD ?_ | refine kA ?_ _)); refine blk_far ?_ NB195_203.out _; (with_reducible repeat (first | refine kN ?_ _ | refine kD ?_ | refine kA ?_ _)); refine blk_far ?_ NB195_203.out _; (with_reducible repeat (first | refine kN ?_ _ | refine kD ?_ | refine kA ?_ _)); refine blk_far ?_ NB195_203.out _; (with_reducible repeat (first | refine kN ?_ _ | refine kD ?_ | refine kA ?_ _)); exact BK195.out) hk); replace BK203 := am (keep_blk (b := gb203) (o := .cells #[.string t196, .int .i64 t197, .string t198] 37 (0, 0)) (by (with_reducible repeat (first | refine kN ?_ _ | refine kD ?_ | refine kA ?_ _)); refine blk_put (cs := #[.string t196, .int .i64 t197, .string (⟨#[]⟩ : ByteArray)]) ?_ 2 _ rfl; (with_reducible repeat (first | refine kN ?_ _ | refine kD ?_ | refine kA ?_ _)); refine blk_put (cs := #[.string t196, .int .i64 0, .string (⟨#[]⟩ : ByteArray)]) ?_ 1 _ rfl; (with_reducible repeat (first | refine kN ?_ _ | refine kD ?_ | refine kA ?_ _)); refine blk_put (cs := #[.string (⟨#[]⟩ : ByteArray), .int .i64 0, .string (⟨#[]⟩ : ByteArray)]) ?_ 0 _ rfl; (with_reducible repeat (first | refine kN ?_ _ | refine kD ?_ | refine kA ?_ _)); exact BK203.out) hk); replace HK := am (KeptP.keep (w := w) (g := g) (by repeat (first | (with_reducible first | exact HK.out | apply KeptP.set_ | apply KeptP.drewN | apply KeptP.drew | apply KeptP.alloc | refine KeptP.far ?_ GW195.out _ | refine KeptP.far ?_ GW203.out _) | exact HK.out)) hk); replace HB := am (hb); replace HI0 := am (hi); obtain ⟨mSz_, ASz40_1, cSz40_1, HGz40, hgz40, HSz40_1⟩ := IsS46.open_ (HI0.out).1; have hcz40_0 := cellS46_0 HGz40; have hcz40_1 := cellS46_1 HGz40; have hcz40_2 := cellS46_2 HGz40; have hfz40_0 := blk_frozen HGz40 0; have hfz40_1 := blk_frozen HGz40 1; have hfz40_2 := blk_frozen HGz40 2; clear HGz40 hgz40))
   first | go_end0 | ((try simp only [Exit.inBlock, Exit.then]); refine bodyPost_ret (results_none rfl _ _ _) rfl ?_)
   exact ⟨ez, IsPileN.fst (N := w.heap.size) (m := mP_) (by repeat (first | (with_reducible first | exact HI0.out | exact IsPileN.far3 HI0.out GW203.out _ _ _ | apply IsPileN.alloc | apply IsPileN.drewN | apply IsPileN.drew | apply IsPileN.set_2 | refine IsPileN.far ?_ GW195.out _ | refine IsPileN.far ?_ GW203.out _) | exact HI0.out)), by repeat (first | (with_reducible first | exact HB.out | apply bA | apply bN | apply bO | refine below_set ?_ (IsPileN.ge HI0.out) | refine below_set ?_ GE195.out | refine below_set ?_ GE203.out) | exact HB.out)⟩
  ·replace c28 := Bool.eq_false_iff.mpr c28
   subst c28; have H1 : ((pile_put.f t205 t206 t207 a1_0 a1_1 a1_2).bind fun bt208 => (some (bt208.1, bt208.2.1, bt208.2.2))) = some (r1, r2, r3) := by rw [if_neg (show ¬ (false = true) by decide)] at H; exact H
   clear H; have H := H1; clear H1; replace H := oB H; obtain ⟨⟨t208, t209, t210⟩, A410, H⟩ := H; replace H : (some (t208, t209, t210)) = some (r1, r2, r3) := H; have A41 := am A410; clear A410; simp only [Option.some.injEq, Prod.mk.injEq] at H
   obtain ⟨rfl, rfl, rfl⟩ := H; go_enter Tryd.func18, Tryd.ntmps18; obtain ⟨e4_, e5_, e6_⟩ := (IsS46.look (HI0.out).1 (show pile_look.f _ _ _ _ = some _ from A3.out)).2; subst e4_; subst e5_; subst e6_; try go_wp2_with (first | ((with_reducible refine gate_dst (N := 3) rfl ?_); refine bx 3 #[.string a1_0, .int .i64 a1_1, .string a1_2] 37 ?_; intro gb195 hg w42 hbox hb; replace HB := am (below_step (by repeat (first | (with_reducible first | exact HB.out | apply bA | apply bN | apply bO | refine below_set ?_ (IsPileN.ge HI0.out)) | exact HB.out)) hb); have BK195 := am (hbox); have GW195 := am ((by rw [hg]; exact (KeptP.size (w := w) (g := g) (by repeat (first | (with_reducible first | exact HK.out | apply KeptP.set_ | apply KeptP.drewN | apply KeptP.drew | apply KeptP.alloc) | exact HK.out))) : w.heap.size ≤ gb195)); have GE195 := am ((Nat.le_trans HW0.out (by rw [hg]; exact (KeptP.size (w := w) (g := g) (by repeat (first | (with_reducible first | exact HK.out | apply KeptP.set_ | apply KeptP.drewN | apply KeptP.drew | apply KeptP.alloc) | exact HK.out))) : w.heap.size ≤ gb195) : w0.heap.size ≤ gb195)); replace HK := am (KeptP.below (w := w) (g := g) (by repeat (first | (with_reducible first | exact HK.out | apply KeptP.set_ | apply KeptP.drewN | apply KeptP.drew | apply KeptP.alloc) | exact HK.out)) hb); have NB0_195 := am ((by rw [hg]; exact Nat.ne_of_lt (IsPileN.lt (show IsPileN w0 _ g w.heap.size mP_ _ _ _ from by repeat (first | (with_reducible first | exact HI0.out | apply IsPileN.alloc | apply IsPileN.drewN | apply IsPileN.drew | apply IsPileN.set_2) | exact HI0.out))) : g ≠ gb195)); have NB195_0 := am ((by rw [hg]; exact Nat.ne_of_gt (IsPileN.lt (show IsPileN w0 _ g w.heap.size mP_ _ _ _ from by repeat (first | (with_reducible first | exact HI0.out | apply IsPileN.alloc | apply IsPileN.drewN | apply IsPileN.drew | apply IsPileN.set_2) | exact HI0.out))) : gb195 ≠ g)); replace HI0 := am (IsPileN.below (by repeat (first | (with_reducible first | exact HI0.out | apply IsPileN.alloc | apply IsPileN.drewN | apply IsPileN.drew | apply IsPileN.set_2) | exact HI0.out)) hb); clear hb hbox hg))
   replace BK195 := am (kD BK195.out); replace HI0 := am (IsPileN.drew HI0.out); replace HK := am (KeptP.drew HK.out); replace HB := am (bO HB.out); refine start_ (n := 13) (S := fun w' => w'.cell? ⟨gb195, 0, none⟩ = some (.string a1_0) ∧ w'.cell? ⟨gb195, 1, none⟩ = some (.int .i64 a1_1) ∧ w'.cell? ⟨gb195, 2, none⟩ = some (.string a1_2) ∧ w'.cell? ⟨g, 0, none⟩ = some (.map (some mP_)) ∧ (Instr.lookup 44 (.map (some mP_)) (.string a1_0) true).run Tryd.prog w' = .ok (.tuple #[.agg #[.string t196, .int .i64 t197, .string t198], .bool false]) w') (ds := []) #[fF,fF,fF,fF,fF,fF,fF,fF,fF,fF,fF,fF,fF] (by kernel_rfl) rfl rfl ⟨(blk_cell BK195.out 0).trans rfl, (blk_cell BK195.out 1).trans rfl, (blk_cell BK195.out 2).trans rfl, (IsPileN.cell0 (w0 := w0) (N := w.heap.size) (by repeat (first | (with_reducible first | exact HI0.out | apply IsPileN.alloc | apply IsPileN.drewN | apply IsPileN.drew | apply IsPileN.set_2 | refine IsPileN.far ?_ GW195.out _) | exact HI0.out))), (IsPileN.look (w0 := w0) (g := g) (N := w.heap.size) (by repeat (first | (with_reducible first | exact HI0.out | apply IsPileN.alloc | apply IsPileN.drewN | apply IsPileN.drew | apply IsPileN.set_2 | refine IsPileN.far ?_ GW195.out _) | exact HI0.out)) (show pile_look.f _ _ _ _ = some _ from A3.out) rfl)⟩ (fun hHeld => ?_); refine with_tabW union_pile_add.tab1 union_pile_add.bits1 (fun HT_ HW_ => ?_)
   generalize w42.drew = w44 at BK195 HI0 HK HB hHeld ⊢
   refine pu 0 (some 7) ?_
   refine pu 1 (some 8) ?_
   refine pu 2 (some 9) ?_
   refine take_ (i := 3) (N := some 10) (v := ?_) (a' := ?_) #[tT,tT,tT,tT,fF,fF,fF,fF,fF,fF,fF,fF,fF] rfl rfl (take_ofW HT_.out HW_.out (by kernel_rfl)) (fun _ _ _ h => h) (Or.inl ⟨by rfl, ?_⟩) hHeld ?_ ?_
   rotate_left
   ·rintro w' ⟨s0, s1, s2, s3, s4⟩
    go_simp
    with_reducible rfl
   rotate_left
   ·simp only [Act.put, sA, sB, sC, i64_w, i32_w]
    rfl
   refine pu 4 (some 11) ?_
   refine take_ (i := 5) (N := some 12) (v := ?_) (a' := ?_) #[tT,tT,tT,tT,tT,tT,fF,fF,fF,fF,fF,fF,fF] rfl rfl (take_ofW HT_.out HW_.out (by kernel_rfl)) (fun _ _ _ h => h) (Or.inl ⟨by rfl, ?_⟩) hHeld ?_ ?_
   rotate_left
   ·rintro w' ⟨s0, s1, s2, s3, s4⟩
    go_simp
    with_reducible rfl
   rotate_left
   ·simp only [Act.put, sA, sB, sC, i64_w, i32_w]
    rfl
   refine take_ (i := 6) (N := some 13) (v := ?_) (a' := ?_) #[tT,tT,tT,tT,tT,tT,tT,fF,fF,fF,fF,fF,fF] rfl rfl (take_ofW HT_.out HW_.out (by kernel_rfl)) (fun _ _ _ h => h) (Or.inl ⟨by rfl, ?_⟩) hHeld ?_ ?_
   rotate_left
   ·rintro w' ⟨s0, s1, s2, s3, s4⟩
    go_simp
    with_reducible rfl
   rotate_left
   ·simp only [Act.put, sA, sB, sC, i64_w, i32_w]
    rfl
   refine pu 7 (some 6) ?_
   refine pu 8 (some 14) ?_
   refine pu 9 (some 15) ?_
   refine one_ (i := 10) (N := some 4) #[tT,tT,tT,tT,tT,tT,tT,tT,tT,tT,tT,fF,fF] rfl rfl (one_of HT_.out (by kernel_rfl)) (by decide) (fun K hK => ?_)
   refine box_step ?hg (N := 4) ?hd (cs := #[.string (⟨#[]⟩ : ByteArray), .int .i64 0, .string (⟨#[]⟩ : ByteArray)]) (t := 37) ?hr ?_; (case hd => rfl); (case hg => rfl); (case hr => first | (go_simp; done) | (go_simp; rfl))
   intro gb203 hg w45 hbox hb; have n0_ := am (IsPileN.below (by repeat (first | (with_reducible first | exact HI0.out | apply IsPileN.alloc | apply IsPileN.drewN | apply IsPileN.drew | apply IsPileN.set_2 | refine IsPileN.far ?_ GW195.out _) | exact HI0.out)) hb); have n1_ := am (blk_below (g := gb195) (o := .cells #[.string a1_0, .int .i64 a1_1, .string a1_2] 37 (0, 0)) (bk BK195.out) hb); have n2_ := am (KeptP.below (w := w) (g := g) (by repeat (first | (with_reducible first | exact HK.out | apply KeptP.set_ | apply KeptP.drewN | apply KeptP.drew | apply KeptP.alloc | refine KeptP.far ?_ GW195.out _) | exact HK.out)) hb); have n3_ := am (below_step (by repeat (first | (with_reducible first | exact HB.out | apply bA | apply bN | apply bO | refine below_set ?_ (IsPileN.ge HI0.out) | refine below_set ?_ GE195.out) | exact HB.out)) hb); have n4_ := am (hbox); have n5_ := am ((by rw [hg]; exact (KeptP.size (w := w) (g := g) (by repeat (first | (with_reducible first | exact HK.out | apply KeptP.set_ | apply KeptP.drewN | apply KeptP.drew | apply KeptP.alloc | refine KeptP.far ?_ GW195.out _) | exact HK.out))) : w.heap.size ≤ gb203)); have n6_ := am ((Nat.le_trans HW0.out (by rw [hg]; exact (KeptP.size (w := w) (g := g) (by repeat (first | (with_reducible first | exact HK.out | apply KeptP.set_ | apply KeptP.drewN | apply KeptP.drew | apply KeptP.alloc | refine KeptP.far ?_ GW195.out _) | exact HK.out))) : w.heap.size ≤ gb203) : w0.heap.size ≤ gb203))
   have n7_ := am ((by rw [hg]; exact Nat.ne_of_lt (blk_lt (g := gb195) (o := .cells #[.string a1_0, .int .i64 a1_1, .string a1_2] 37 (0, 0)) (bk BK195.out)) : gb195 ≠ gb203)); have n8_ := am ((by rw [hg]; exact Nat.ne_of_gt (blk_lt (g := gb195) (o := .cells #[.string a1_0, .int .i64 a1_1, .string a1_2] 37 (0, 0)) (bk BK195.out)) : gb203 ≠ gb195)); have n9_ := am ((by rw [hg]; exact Nat.ne_of_lt (IsPileN.lt (show IsPileN w0 _ g w.heap.size mP_ _ _ _ from by repeat (first | (with_reducible first | exact HI0.out | apply IsPileN.alloc | apply IsPileN.drewN | apply IsPileN.drew | apply IsPileN.set_2 | refine IsPileN.far ?_ GW195.out _) | exact HI0.out))) : g ≠ gb203)); have n10_ := am ((by rw [hg]; exact Nat.ne_of_gt (IsPileN.lt (show IsPileN w0 _ g w.heap.size mP_ _ _ _ from by repeat (first | (with_reducible first | exact HI0.out | apply IsPileN.alloc | apply IsPileN.drewN | apply IsPileN.drew | apply IsPileN.set_2 | refine IsPileN.far ?_ GW195.out _) | exact HI0.out))) : gb203 ≠ g)); clear HI0; clear BK195; clear HK; clear HB; have HI0 := n0_; have BK195 := n1_; have HK := n2_; have HB := n3_; have BK203 := n4_; have GW203 := n5_; have GE203 := n6_; have NB195_203 := n7_; have NB203_195 := n8_; have NB0_203 := n9_; have NB203_0 := n10_; clear n0_ n1_ n2_ n3_ n4_ n5_ n6_ n7_ n8_ n9_ n10_
   clear hb hbox hg; refine hK.out _ _ ⟨(blk_cell BK195.out 0).trans rfl, (blk_cell BK195.out 1).trans rfl, (blk_cell BK195.out 2).trans rfl, (IsPileN.cell0 (w0 := w0) (N := w.heap.size) (by repeat (first | (with_reducible first | exact HI0.out | apply IsPileN.alloc | apply IsPileN.drewN | apply IsPileN.drew | apply IsPileN.set_2 | refine IsPileN.far ?_ GW195.out _ | refine IsPileN.far ?_ GW203.out _) | exact HI0.out))), (IsPileN.look (w0 := w0) (g := g) (N := w.heap.size) (by repeat (first | (with_reducible first | exact HI0.out | apply IsPileN.alloc | apply IsPileN.drewN | apply IsPileN.drew | apply IsPileN.set_2 | refine IsPileN.far ?_ GW195.out _ | refine IsPileN.far ?_ GW203.out _) | exact HI0.out)) (show pile_look.f _ _ _ _ = some _ from A3.out) rfl)⟩ (fun hHeld => ?_)
   clear hK K; refine norm_ (a' := ?_) ?_ ?_
   rotate_left
   ·show Act.put _ (some 4) _ = _
    simp only [Act.put, sA, sB, sC, i64_w, i32_w]
    rfl
   refine one_ (i := 11) (N := none) #[tT,tT,tT,tT,tT,tT,tT,tT,tT,tT,tT,tT,fF] rfl rfl (one_of HT_.out (by kernel_rfl)) (by decide) (fun K hK => ?_)
   have hs46 : w45.cell? ⟨gb203, 0, none⟩ = some (.string (⟨#[]⟩ : ByteArray)) := (blk_cell BK203.out 0).trans rfl; have hfs46 := blk_frozen BK203.out 0; have hns46_0 := NB195_203.out; have hms46_0 := NB203_195.out; have hs47 : w45.cell? ⟨gb203, 1, none⟩ = some (.int .i64 0) := (blk_cell BK203.out 1).trans rfl; have hfs47 := blk_frozen BK203.out 1; have hns47_0 := NB195_203.out; have hms47_0 := NB203_195.out; have hs48 : w45.cell? ⟨gb203, 2, none⟩ = some (.string (⟨#[]⟩ : ByteArray)) := (blk_cell BK203.out 2).trans rfl; have hfs48 := blk_frozen BK203.out 2; have hns48_0 := NB195_203.out; have hms48_0 := NB203_195.out; refine skip_ (w1 := ?_) (by rfl) rfl ?_ ?_
   rotate_left
   ·go_simp
    rfl
   refine hK.out _ _ ⟨((cell_far (p := ⟨gb203, _, none⟩) NB195_203.out _).trans (((cell_far (p := ⟨gb203, _, none⟩) NB195_203.out _).trans (((cell_far (p := ⟨gb203, _, none⟩) NB195_203.out _).trans (hHeld.1)))))), ((cell_far (p := ⟨gb203, _, none⟩) NB195_203.out _).trans (((cell_far (p := ⟨gb203, _, none⟩) NB195_203.out _).trans (((cell_far (p := ⟨gb203, _, none⟩) NB195_203.out _).trans (hHeld.2.1)))))), ((cell_far (p := ⟨gb203, _, none⟩) NB195_203.out _).trans (((cell_far (p := ⟨gb203, _, none⟩) NB195_203.out _).trans (((cell_far (p := ⟨gb203, _, none⟩) NB195_203.out _).trans (hHeld.2.2.1)))))), (IsPileN.cell0 (w0 := w0) (N := w.heap.size) (IsPileN.far3 HI0.out GW203.out _ _ _)), (IsPileN.look (w0 := w0) (g := g) (N := w.heap.size) (IsPileN.far3 HI0.out GW203.out _ _ _) (show pile_look.f _ _ _ _ = some _ from A3.out) rfl)⟩ (fun hHeld => ?_)
   clear hK K; refine pure_ (i := 12) (N := some 5) (v := ?_) (a' := ?_) #[tT,tT,tT,tT,tT,tT,tT,tT,tT,tT,tT,tT,tT] rfl rfl (any_of HT_.out (by kernel_rfl)) (fun _ _ _ h => h) (Or.inl ⟨by rfl, ?_⟩) ?_ ?_
   rotate_left
   ·intro w'
    go_simp
    with_reducible rfl
   rotate_left
   ·simp only [Act.put, sA, sB, sC, i64_w, i32_w]
    rfl
   refine done_ (done_of HT_.out (by kernel_rfl)) ?_
   have hnb49 := NB195_203.out; have hnc49 := NB203_195.out; have hnb50 := NB195_0.out; have hnc50 := NB0_195.out; obtain ⟨hcz51_0, hcz51_1, hcz51_2⟩ := cq3 BK195.out; obtain ⟨hfz51_0, hfz51_1, hfz51_2⟩ := fq3 BK195.out; try go_wp2_with (first | ((with_reducible refine gate_callee (f := 26) rfl ?_); refine gL (some 50) Tryd.func26 #[.pointer (some ⟨g, 0, none⟩), .agg #[.string a1_0, .int .i64 a1_1, .string a1_2]] ?_; (with_reducible refine (union_pile_blocked.calls0 k g t200 t201 t202 a1_0 a1_1 a1_2 false t205 t206 t207 w0 _ ?side1 ?side2 A27.out).mono ?_); (case side1 => exact IsPileN.fst (N := w.heap.size) (m := mP_) (by repeat (first | (with_reducible first | exact HI0.out | apply IsPileN.alloc | apply IsPileN.drewN | apply IsPileN.drew | apply IsPileN.set_2 | refine IsPileN.far ?_ GW195.out _ | refine IsPileN.far ?_ GW203.out _) | exact HI0.out))); (case side2 => repeat (first | (with_reducible first | exact HB.out | apply bA | apply bN | apply bO | refine below_set ?_ (IsPileN.ge HI0.out) | refine below_set ?_ GE195.out | refine below_set ?_ GE203.out) | exact HB.out)); rintro e w52 ⟨rfl, hi, hb, hk⟩; refine ⟨_, rfl, ?_⟩; obtain ⟨q1_, q2_, q3_⟩ := union_pile_blocked.same A27.out; have hi := (show IsPileN w0 w52 g w.heap.size mP_ t205 t206 t207 from by rw [q1_, q2_, q3_]; exact IsPileN.keep (show IsPileN w0 _ g w.heap.size mP_ t200 t201 t202 from by repeat (first | (with_reducible first | exact HI0.out | apply IsPileN.alloc | apply IsPileN.drewN | apply IsPileN.drew | apply IsPileN.set_2 | refine IsPileN.far ?_ GW195.out _ | refine IsPileN.far ?_ GW203.out _) | exact HI0.out)) hk); clear q1_ q2_ q3_; replace BK195 := am (keep_blk (b := gb195) (o := .cells #[.string a1_0, .int .i64 a1_1, .string a1_2] 37 (0, 0)) (by (with_reducible repeat (first | refine kN ?_ _ | refine kD ?_ | refine kA ?_ _)); refine blk_far ?_ NB195_203.out _; (with_reducible repeat (first | refine kN ?_ _ | refine kD ?_ | refine kA ?_ _)); refine blk_far ?_ NB195_203.out _; (with_reducible repeat (first | refine kN ?_ _ | refine kD ?_ | refine kA ?_ _)); refine blk_far ?_ NB195_203.out _; (with_reducible repeat (first | refine kN ?_ _ | refine kD ?_ | refine kA ?_ _)); exact BK195.out) hk); replace BK203 := am (keep_blk (b := gb203) (o := .cells #[.string t196, .int .i64 t197, .string t198] 37 (0, 0)) (by (with_reducible repeat (first | refine kN ?_ _ | refine kD ?_ | refine kA ?_ _)); refine blk_put (cs := #[.string t196, .int .i64 t197, .string (⟨#[]⟩ : ByteArray)]) ?_ 2 _ rfl; (with_reducible repeat (first | refine kN ?_ _ | refine kD ?_ | refine kA ?_ _)); refine blk_put (cs := #[.string t196, .int .i64 0, .string (⟨#[]⟩ : ByteArray)]) ?_ 1 _ rfl; (with_reducible repeat (first | refine kN ?_ _ | refine kD ?_ | refine kA ?_ _)); refine blk_put (cs := #[.string (⟨#[]⟩ : ByteArray), .int .i64 0, .string (⟨#[]⟩ : ByteArray)]) ?_ 0 _ rfl; (with_reducible repeat (first | refine kN ?_ _ | refine kD ?_ | refine kA ?_ _)); exact BK203.out) hk); replace HK := am (KeptP.keep (w := w) (g := g) (by repeat (first | (with_reducible first | exact HK.out | apply KeptP.set_ | apply KeptP.drewN | apply KeptP.drew | apply KeptP.alloc | refine KeptP.far ?_ GW195.out _ | refine KeptP.far ?_ GW203.out _) | exact HK.out)) hk); replace HB := am (hb); replace HI0 := am (hi)))
   replace BK195 := am (kD BK195.out); replace BK203 := am (kD BK203.out); replace HI0 := am (IsPileN.drew HI0.out); replace HK := am (KeptP.drew HK.out); replace HB := am (bO HB.out); refine start_ (n := 8) (S := fun w' => w'.cell? ⟨gb195, 0, none⟩ = some (.string a1_0) ∧ w'.cell? ⟨gb195, 1, none⟩ = some (.int .i64 a1_1) ∧ w'.cell? ⟨gb195, 2, none⟩ = some (.string a1_2) ∧ w'.cell? ⟨g, 0, none⟩ = some (.map (some mP_))) (ds := [7]) #[fF,fF,fF,fF,fF,fF,fF,fF] (by kernel_rfl) rfl rfl ⟨(blk_cell BK195.out 0).trans rfl, (blk_cell BK195.out 1).trans rfl, (blk_cell BK195.out 2).trans rfl, IsPileN.cell0 HI0.out⟩ (fun hHeld => ?_); refine with_tabW union_pile_add.tab2 union_pile_add.bits2 (fun HT_ HW_ => ?_)
   generalize w52.drew = w53 at BK195 BK203 HI0 HK HB hHeld ⊢
   refine pu 0 (some 16) ?_
   refine pu 1 (some 17) ?_
   refine pu 2 (some 18) ?_
   refine take_ (i := 3) (N := some 19) (v := ?_) (a' := ?_) #[tT,tT,tT,tT,fF,fF,fF,fF] rfl rfl (take_ofW HT_.out HW_.out (by kernel_rfl)) (fun _ _ _ h => h) (Or.inl ⟨by rfl, ?_⟩) hHeld ?_ ?_
   rotate_left
   ·rintro w' ⟨s0, s1, s2, s3⟩
    go_simp
    with_reducible rfl
   rotate_left
   ·simp only [Act.put, sA, sB, sC, i64_w, i32_w]
    rfl
   refine pu 4 (some 20) ?_
   refine take_ (i := 5) (N := some 21) (v := ?_) (a' := ?_) #[tT,tT,tT,tT,tT,tT,fF,fF] rfl rfl (take_ofW HT_.out HW_.out (by kernel_rfl)) (fun _ _ _ h => h) (Or.inl ⟨by rfl, ?_⟩) hHeld ?_ ?_
   rotate_left
   ·rintro w' ⟨s0, s1, s2, s3⟩
    go_simp
    with_reducible rfl
   rotate_left
   ·simp only [Act.put, sA, sB, sC, i64_w, i32_w]
    rfl
   refine take_ (i := 6) (N := some 22) (v := ?_) (a' := ?_) #[tT,tT,tT,tT,tT,tT,tT,fF] rfl rfl (take_ofW HT_.out HW_.out (by kernel_rfl)) (fun _ _ _ h => h) (Or.inl ⟨by rfl, ?_⟩) hHeld ?_ ?_
   rotate_left
   ·rintro w' ⟨s0, s1, s2, s3⟩
    go_simp
    with_reducible rfl
   rotate_left
   ·simp only [Act.put, sA, sB, sC, i64_w, i32_w]
    rfl
   refine last_ (i := 7) (N := none) #[tT,tT,tT,tT,tT,tT,tT,tT] rfl rfl (one_of HT_.out (by kernel_rfl)) (by decide) (fun K hK => ?_)
   have hPP_ := A41.out; unfold pile_put.f at hPP_
   split at hPP_
   rotate_left
   ·cases hPP_
   rename_i hcond_
   simp only [Option.some.injEq, Prod.mk.injEq] at hPP_
   obtain ⟨hz1_, hz2_, hz3_⟩ := hPP_; have HZ1 := am hz1_; have HZ2 := am hz2_; have HZ3 := am hz3_; have HCD := am hcond_; clear hz1_ hz2_ hz3_ hcond_; obtain ⟨Ar_, cr_, hb_, hg0_, hm0_, hr_, hl_, hN_⟩ := IsPileN.open_ HI0.out; have HBK := am hb_; have HG0 := am hg0_; have HM0 := am hm0_; have HR := am hr_; have HM := am hl_; have HNr := am hN_; clear hb_ hg0_ hm0_ hr_ hl_ hN_; obtain ⟨D, hD0, hD1, hD2⟩ := HM.out; refine updN_ (.tmp 19) (.tmp 21) (.tmp 22) 44 9 37 (by rfl) rfl rfl Tryd.underlying9 Tryd.underlying44 (q := (a1_0, a1_1, a1_2)) rfl rfl rfl hD1 (by rw [List.length_map]; have := HCD.out.2.2.1; unfold maxLen; omega) HCD.out.1 ?_
   intro wu hown hg; have HM2 := am (MapN.snoc (w' := wu) (n := (a1_0, a1_1, a1_2)) hD0 hD2 hown HCD.out.2.2.2); have n0_ := am ((hg.block g (blk_lt HBK.out) (fun e_ => MapN.ne_cells HM.out HBK.out (by injection e_ with e_; exact e_.symm))).trans HBK.out); have n1_ := am (R_mappedN HR.out HM.out hg); have n2_ := am ((hg.block gb195 (blk_lt BK195.out) (fun e_ => MapN.ne_cells HM.out BK195.out (by injection e_ with e_; exact e_.symm))).trans BK195.out); have n3_ := am (Below.grown HB.out hg (below_size HB.out) (fun k_ hk_ => by injection hk_ with hk_; subst hk_; exact HM0.out)); have hGW_ := GW195.out; clear HBK HR HM BK195 BK203 HB HI0 HK hD0 hD1 hD2 hown hg hHeld; have HBK := n0_; have HR := n1_; have HM := HM2; have BK195 := n2_; have HB := n3_; clear n0_ n1_ HM2 n2_ n3_ D hGW_; refine hK.out _ _ ?_
   clear hK K; refine done_ (done_of HT_.out (by kernel_rfl)) ?_
   try go_wp2
   have n0_ := am (show wu.drew.heap[g]? = some (.cells #[.map (some mP_), .slice Ar_ t206.length cr_, .bool t207] 46 (0, 0)) from HBK.out); have n1_ := am (rD HR.out); have n2_ := am (MapN.same (w' := wu.drew) HM.out rfl); have n3_ := am (kD BK195.out); have n4_ := am (bO HB.out); clear HBK HR HM BK195 HB; have HBK := n0_; have HR := n1_; have HM := n2_; have BK195 := n3_; have HB := n4_; clear n0_ n1_ n2_ n3_ n4_; refine start_ (n := 11) (S := fun w' => w'.cell? ⟨gb195, 0, none⟩ = some (.string a1_0) ∧ w'.cell? ⟨gb195, 1, none⟩ = some (.int .i64 a1_1) ∧ w'.cell? ⟨gb195, 2, none⟩ = some (.string a1_2) ∧ w'.cell? ⟨g, 1, none⟩ = some (.slice Ar_ t206.length cr_)) (ds := [10]) #[fF,fF,fF,fF,fF,fF,fF,fF,fF,fF,fF] (by kernel_rfl) rfl rfl ⟨(blk_cell BK195.out 0).trans rfl, (blk_cell BK195.out 1).trans rfl, (blk_cell BK195.out 2).trans rfl, (blk_cell HBK.out 1).trans rfl⟩ (fun hHeld => ?_); refine with_tabW union_pile_add.tab3 union_pile_add.bits3 (fun HT_ HW_ => ?_)
   generalize wu.drew = wv at HBK HR HM BK195 HB hHeld ⊢
   refine pu 0 (some 23) ?_
   refine pu 1 (some 24) ?_
   refine pu 2 (some 25) ?_
   refine pu 3 (some 26) ?_
   refine take_ (i := 4) (N := some 27) (v := ?_) (a' := ?_) #[tT,tT,tT,tT,tT,fF,fF,fF,fF,fF,fF] rfl rfl (take_ofW HT_.out HW_.out (by kernel_rfl)) (fun _ _ _ h => h) (Or.inl ⟨by rfl, ?_⟩) hHeld ?_ ?_
   rotate_left
   ·rintro w' ⟨s0, s1, s2, s3⟩
    go_simp
    with_reducible rfl
   rotate_left
   ·simp only [Act.put, sA, sB, sC, i64_w, i32_w]
    rfl
   refine take_ (i := 5) (N := some 28) (v := ?_) (a' := ?_) #[tT,tT,tT,tT,tT,tT,fF,fF,fF,fF,fF] rfl rfl (take_ofW HT_.out HW_.out (by kernel_rfl)) (fun _ _ _ h => h) (Or.inl ⟨by rfl, ?_⟩) hHeld ?_ ?_
   rotate_left
   ·rintro w' ⟨s0, s1, s2, s3⟩
    go_simp
    with_reducible rfl
   rotate_left
   ·simp only [Act.put, sA, sB, sC, i64_w, i32_w]
    rfl
   refine one_ (i := 6) (N := some 29) #[tT,tT,tT,tT,tT,tT,tT,fF,fF,fF,fF] rfl rfl (one_of HT_.out (by kernel_rfl)) (by decide) (fun K hK => ?_)
   refine value_ (w1 := ?_) (v := ?_) (by rfl) rfl ?_ ?_
   rotate_left 2
   ·go_simp
    constructor
    ·rfl
    ·rfl
   refine hK.out _ _ ⟨((World.cell?_alloc_lt _ _ _ (wB _ _ (hHeld.1))).trans (hHeld.1)), ((World.cell?_alloc_lt _ _ _ (wB _ _ (hHeld.2.1))).trans (hHeld.2.1)), ((World.cell?_alloc_lt _ _ _ (wB _ _ (hHeld.2.2.1))).trans (hHeld.2.2.1)), ((World.cell?_alloc_lt _ _ _ (wB _ _ (hHeld.2.2.2))).trans (hHeld.2.2.2))⟩ (fun hHeld => ?_)
   clear hK K; refine norm_ (a' := ?_) ?_ ?_
   rotate_left
   ·show Act.put _ (some 29) _ = _
    simp only [Act.put, sA, sB, sC, i64_w, i32_w]
    rfl
   refine one_ (i := 7) (N := some 30) #[tT,tT,tT,tT,tT,tT,tT,tT,fF,fF,fF] rfl rfl (one_of HT_.out (by kernel_rfl)) (by decide) (fun K hK => ?_)
   refine Kd.R_append_step k37 w0.heap.size (by rfl) (.tmp 27) (.tmp 29) 25 37 (.agg #[(.string ⟨#[]⟩), (.int .i64 0), (.string ⟨#[]⟩)]) 40 rfl Tryd.underlying25 info37 rfl (by decide) (by omega) (.slice Ar_ t206.length cr_) t206 ⟨a1_0, a1_1, a1_2⟩ [.string a1_0, .int .i64 a1_1, .string a1_2] (fun _ => True) (fun _ => False) rfl rfl ?aP (fun _ hk => hk.elim) (fun _ _ => trivial) HR.out HB.out (below_size HB.out) ?aL ?_
   (case aP => exact k37_mkM _ _ _ _)
   (case aL => have := HCD.out.2.2.1; omega)
   intro v1 w1 ho hb hg hat; obtain ⟨A9_, c9_, ev_⟩ := Kd.R_slice ho; subst ev_; have n0_ := am ((hg.block g (blk_lt HBK.out) (Kd.R_ne HR.out HBK.out (by decide))).trans HBK.out); have n1_ := am ho; have n2_ := am (MapN.kept HM.out hg (MapN.ne_row HM.out HR.out)); have n3_ := am ((hg.block gb195 (blk_lt BK195.out) (fun e_ => by have h1_ := HNr.out gb195 e_.symm; have h2_ := GW195.out; omega)).trans BK195.out); have n4_ := am hb; clear HBK HR HM BK195 HB ho hb hg hat; have HBK := n0_; have HR := n1_; have HM := n2_; have BK195 := n3_; have HB := n4_; clear n0_ n1_ n2_ n3_ n4_; refine hK.out _ _ ⟨(blk_cell BK195.out 0).trans rfl, (blk_cell BK195.out 1).trans rfl, (blk_cell BK195.out 2).trans rfl, (blk_cell HBK.out 1).trans rfl⟩ (fun hHeld => ?_)
   clear hK K; refine norm_ (a' := ?_) ?_ ?_
   rotate_left
   ·show Act.put _ (some 30) _ = _
    simp only [Act.put, sA, sB, sC, i64_w, i32_w]
    rfl
   refine pu 8 (some 31) ?_
   refine pu 9 (some 32) ?_
   refine last_ (i := 10) (N := none) #[tT,tT,tT,tT,tT,tT,tT,tT,tT,tT,tT] rfl rfl (one_of HT_.out (by kernel_rfl)) (by decide) (fun K hK => ?_)
   have hs_ : w1.cell? ⟨g, 1, none⟩ = some (.slice Ar_ t206.length cr_) := (blk_cell HBK.out 1).trans rfl; have hfs_ := blk_frozen HBK.out 1; refine skip_ (w1 := ?_) (by rfl) rfl ?_ ?_
   rotate_left
   ·go_simp
    rfl
   refine hK.out _ _ ?_
   clear hK K; refine done_ (done_of HT_.out (by kernel_rfl)) ?_
   try go_wp2
   first | go_end0 | ((try simp only [Exit.inBlock, Exit.then]); refine bodyPost_ret (results_none rfl _ _ _) rfl ?_)
   have hz1_ := HZ1.out; have hz2_ := HZ2.out; have hz3_ := HZ3.out; subst hz1_; subst hz2_; subst hz3_; exact ⟨ez, ⟨_, mP_, by simpa using blk_set HBK.out 1 (.slice A9_ (t206 ++ [(⟨a1_0, a1_1, a1_2⟩ : S37)]).length c9_), HG0.out, HM0.out, Kd.R_set HR.out HBK.out (by decide) _ _, by rw [List.map_append]; exact MapN.set (a := ⟨g, 1, none⟩) HM.out (MapN.ne_cells HM.out HBK.out) _⟩, below_set HB.out HG0.out⟩

end Go.Proofs.YtiamdmlbhmgnjaaDoor.P
