/- Laid by a program of this session (wip/pr), after the printer of the kit: the functions that a statement reaches as plain Lean functions, and that the calls of the machine come to them. No condition. -/
import Derived.Test.YthbdbgjggoobnaaDoorPx0
import Derived.Test.YthbdbgjggoobnaaDoorPx5
import Derived.Test.YthbdbgjggoobnaaDoorPx6
namespace Go.Proofs.YthbdbgjggoobnaaDoor.P
open Go.RowKit Go.Proofs.YthbdbgjggoobnaaDoorX Go.Proofs.YthbdbgjggoobnaaDoorW.PrintWords Go.Proofs.YthbdbgjggoobnaaDoorW.PrintLast Go.Proofs.YthbdbgjggoobnaaDoorW.PrintMore
attribute [local go_sem] max2_int min2_int max_two min_two
set_option linter.unusedVariables false
set_option linter.unusedSimpArgs false

theorem infoInt : (Tryd.prog.info? 3).map (fun i => (i.zero, i.size, i.bytes)) = some (some (.int .i64 0), 1, 8) := by kernel_rfl
/-- The numbers of blocks, and those that are new: L is what stands there, F what is new so far. -/
def putGo (L : List ByteArray) : List ByteArray → List ByteArray → List Int × List ByteArray
 | F, [] => ([], F)
 | F, p :: ps => match pos (L ++ F) p with
  | some i => ((i : Int) :: (putGo L F ps).1, (putGo L F ps).2)
  | none => (((L.length + F.length : Nat) : Int) :: (putGo L (F ++ [p]) ps).1, (putGo L (F ++ [p]) ps).2)
/-- What Put comes to, of a table's blocks and a text's. -/
def putOf (L ps : List ByteArray) : List Int × Int × List ByteArray := if 4000 < L.length + (putGo L [] ps).2.length then ([], 3, L) else ((putGo L [] ps).1, 0, L ++ (putGo L [] ps).2)
def blocks_Table_Put.f (k : Nat) (s0_0 : List ByteArray) (s0_1 : Bool) (a1 : ByteArray) : Option (List Int × Int × List ByteArray × Bool) :=
 (blocks_Cut.f k a1).bind fun ps => if ps.length ≤ 1000000 ∧ ∀ p ∈ ps, p.size ≤ maxLen then some ((putOf s0_0 ps).1, (putOf s0_0 ps).2.1, (putOf s0_0 ps).2.2, s0_1) else none
theorem blocks_Table_Put.mono : ∀ a0 a1 a2 k, LeO (blocks_Table_Put.f k a0 a1 a2) (blocks_Table_Put.f (k + 1) a0 a1 a2) := by
 intro a0 a1 a2 k; unfold blocks_Table_Put.f
 exact LeO.bind (blocks_Cut.mono _ _) (fun _ => LeO.refl _)
/-- Each text of F is new: none of L, none of those before it. -/
def NewIn (L F : List ByteArray) : Prop := ∀ i (hi : i < F.length), pos (L ++ F.take i) F[i] = none
theorem NewIn.nil (L : List ByteArray) : NewIn L [] := fun i hi => absurd hi (by simp)
theorem NewIn.snoc {L F : List ByteArray} {p : ByteArray} (h : NewIn L F) (hp : pos (L ++ F) p = none) : NewIn L (F ++ [p]) := fun i hi => by
 rw [List.length_append, List.length_singleton] at hi; by_cases e : i < F.length
 ·rw [List.getElem_append_left e, List.take_append_of_le_length (by omega)]
  exact h i e
 ·obtain rfl : i = F.length := by omega
  rw [List.getElem_append_right (by omega), List.take_append_of_le_length (by omega), List.take_of_length_le (by omega)]; simpa using hp
theorem putGo_new (L : List ByteArray) : ∀ ps F, NewIn L F → NewIn L (putGo L F ps).2 ∧ (putGo L F ps).2.length ≤ F.length + ps.length
 | [], F, h => ⟨h, by simp [putGo]⟩
 | p :: ps, F, h => by
  rw [putGo]; cases hp : pos (L ++ F) p with
  | some i =>
   have := putGo_new L ps F h; exact ⟨this.1, by have := this.2; simp only [List.length_cons]; omega⟩
  | none =>
   have := putGo_new L ps (F ++ [p]) (h.snoc hp); exact ⟨this.1, by have := this.2; simp only [List.length_cons, List.length_append, List.length_singleton, List.length_nil] at this ⊢; omega⟩
def blocks_Table_Put.T23 : Bool × List (List Nat × List Nat) := (true, [([], []), ([0], [0]), ([1], [1]), ([2], [2]), ([], []), ([], []), ([5], [5]), ([6], [6]), ([7], [7]), ([8], [8]), ([3, 4, 9, 0, 1, 2, 3, 4, 5, 6, 7, 8, 9], [3, 4, 9])])
def blocks_Table_Put.B23 : List Nat := [0, 1, 3, 7, 0, 0, 32, 96, 224, 480, 1023]
theorem blocks_Table_Put.tab23 : rtab .any (opsOf Tryd.f47 23) = blocks_Table_Put.T23 := by kernel_rfl
theorem blocks_Table_Put.bits23 : waitsOk blocks_Table_Put.T23.2 blocks_Table_Put.B23 = true := by kernel_rfl
theorem TabAt.back {w w' : World} {g k : Nat} (h : w.heap[g]? = w'.heap[g]?) (hk : TabAt w' g k) : TabAt w g k := by
 rcases hk with rfl | ⟨v, m, hb, hk⟩
 ·exact .inl rfl
 ·exact .inr ⟨v, m, h.trans hb, hk⟩
theorem TabAt.made {w w' : World} {g m N k : Nat} {v0 v : Value} (h0 : w.heap[g]? = some (.cells #[v0, .map (some m)] 104 (0, 0))) (h1 : w'.heap[g]? = some (.cells #[v, .map (some m)] 104 (0, 0))) (hv : ∀ k_, v.ownBlock = some k_ → TabAt w g k_ ∨ N ≤ k_) (hk : TabAt w' g k) : TabAt w g k ∨ N ≤ k := by
 rcases hk with rfl | ⟨v', m', hb, hk⟩
 ·exact .inl (.inl rfl)
 ·rw [h1] at hb
  injection hb with hb; injection hb with hb; have e1 : (#[v, .map (some m)] : Array Value).toList = #[v', .map (some m')].toList := by rw [hb]
  simp only [List.cons.injEq, Value.map.injEq, Option.some.injEq, and_true] at e1
  obtain ⟨rfl, rfl⟩ := e1; rcases hk with rfl | hk
  ·exact .inl (.inr ⟨v0, _, h0, .inl rfl⟩)
  ·exact hv k hk
set_option maxHeartbeats 8000000 in
set_option maxRecDepth 100000 in
theorem blocks_Table_Put.calls2 (k : Nat) (g : Nat) (s0_0 : List ByteArray) (s0_1 : Bool) (a1 : ByteArray) (r1 : List Int) (r2 : Int) (r3 : List ByteArray) (r4 : Bool) (w0 w : World) (hI : IsS104 w0 w g s0_0 s0_1) (hB : Below w0.heap.size w0 w) (h : blocks_Table_Put.f k s0_0 s0_1 a1 = some (r1, r2, r3, r4)) :
  Calls Tryd.prog 47 #[.pointer (some ⟨g, 0, none⟩), .string a1] w fun e w' => ∃ v0_ : Value, e = .returned (.tuple #[v0_, .int .i64 r2]) ∧ Kd.R (Kd.int .i64) 3 w' w.heap.size (fun _ => True) v0_ r1 ∧ IsS104 w0 w' g r3 r4 ∧ Below w0.heap.size w0 w' ∧ Kept w w' (TabAt w g) ∧ ∀ k_, TabAt w' g k_ → TabAt w g k_ ∨ w.heap.size ≤ k_ := by
 have HI := am hI; have HB0 := am hB; clear hB; obtain ⟨v0, m, hb0, hg0, hm0, hr0, hl0, hn0⟩ := hI; have BK := am hb0; have HR0 := am hr0; have HL0 := am hl0; have HN0 := am hn0; have HG0 := am hg0; have HM0 := am hm0; clear hg0 hm0 hr0 hl0 hn0; unfold blocks_Table_Put.f at h
 obtain ⟨ps, hps, h⟩ := oB h; by_cases hsz : ps.length ≤ 1000000 ∧ ∀ p ∈ ps, p.size ≤ maxLen
 case neg => rw [if_neg hsz] at h; cases h
 rw [if_pos hsz] at h; obtain ⟨hlen, hszs⟩ := hsz; have HP := am hps; have HZ := am hszs; have HLen := am hlen; clear hps hszs hlen; simp only [Option.some.injEq, Prod.mk.injEq] at h
 obtain ⟨e1, e2, e3, rfl⟩ := h; have HE := am (show putOf s0_0 ps = (r1, r2, r3) from by rw [← e1, ← e2, ← e3]); clear e1 e2 e3 h; have HB := am (Below.refl w.heap.size w); have hmm := @run_makeMap Tryd.prog; clear hb0; go_enter Tryd.func47, Tryd.ntmps47; go_wp2_with (first | ((with_reducible refine gate_callee (f := 65) rfl ?_); refine gL (some 19) Tryd.func65 #[.string a1] ?_; (with_reducible refine (blocks_Cut.calls k a1 ps _ HP.out).mono ?_); rintro e w4 ⟨v108, rfl, hc, hb⟩; refine ⟨_, rfl, ?_⟩; have HF0 := am (MapL.below (MapL.empty Tryd.prog 9 3 w s0_0.length) hb (MapL.lt (MapL.empty Tryd.prog 9 3 w s0_0.length))); have n1_ := bs hb; have HC := am (Kd.R_lower (base' := w.heap.size) hc siz); clear HB; have HB := n1_; clear n1_ hb hc; obtain ⟨Ao, co, eo⟩ := Kd.R_slice HC.out; subst eo))
 clear hmm; go_loopg [7, 8, 21] (ps.length) (fun kq v7 v8 v21 wr => ∃ (n : Nat) (ids : List Int) (F : List ByteArray), n ≤ ps.length ∧ v21 = .int .i64 n ∧ Aside0 (kq = ps.length - n) ∧ Aside0 (ids ++ (putGo s0_0 F (ps.drop n)).1 = (putGo s0_0 [] ps).1 ∧ (putGo s0_0 F (ps.drop n)).2 = (putGo s0_0 [] ps).2) ∧ Aside0 (NewIn s0_0 F) ∧ Aside0 (∀ p ∈ F, p.size ≤ maxLen) ∧ Aside0 (ids.length = n ∧ F.length ≤ n) ∧ Aside0 (Kd.R (Kd.int .i64) 3 wr w.heap.size (fun _ => True) v7 ids) ∧ Aside0 (Kd.R Kd.string 9 wr w.heap.size (fun k_ => some k_ ≠ (Value.slice Ao ps.length co).ownBlock) v8 F) ∧ Aside0 (Kd.R Kd.string 9 wr w.heap.size (fun k_ => some k_ ≠ v8.ownBlock) (.slice Ao ps.length co) ps) ∧ Aside0 (MapL Tryd.prog 9 3 wr w.heap.size s0_0.length F) ∧ Aside0 (Below w.heap.size w wr))
 case atStart =>
  exact ⟨0, [], [], Nat.zero_le _, rfl, ⟨rfl⟩, ⟨rfl, rfl⟩, ⟨NewIn.nil _⟩, ⟨fun _ hp => absurd hp (by simp)⟩, ⟨rfl, Nat.le_refl _⟩, ⟨Kd.R_nil _ _ _ _ _⟩, ⟨Kd.R_nil _ _ _ _ _⟩, ⟨rz (Kd.R_mono HC.out (fun _ hk => (by simp [Value.ownBlock])))⟩, HF0, ⟨bz⟩⟩
 case round =>
  obtain ⟨n, ids, F, hn, rfl, HK1, HG, HNew, HZF, HLs, HO7, HO8, HO19, HM, HB⟩ := hrel; have hcell0 : wr.cell? ⟨g, 0, none⟩ = some v0 := (blk_cell ((HB.out.block g (blk_lt BK.out)).trans BK.out) 0).trans rfl; have hcell1 : wr.cell? ⟨g, 1, none⟩ = some (.map (some m)) := (blk_cell ((HB.out.block g (blk_lt BK.out)).trans BK.out) 1).trans rfl; by_cases hnl : n < ps.length
  ·have hdrop : ps.drop n = ps[n] :: ps.drop (n + 1) := List.drop_eq_getElem_cons hnl
   have hpz : ps[n].size ≤ maxLen := HZ.out _ (List.getElem_mem hnl); have hrd : rdOf ByteArray.empty ps (n : Int) = ps[n] := by
    unfold rdOf
    rw [Int.toNat_natCast, List.getD_eq_getElem?_getD, List.getElem?_eq_getElem hnl]; rfl
   obtain ⟨ad, e_, hx0⟩ := Kd.at_string (Kd.R_reads' HO19.out).2.2 (n : Int) (by omega) (by omega); cases e_; rw [hrd] at hx0; simp only [Int.toNat_natCast] at hx0
   have HG1 := HG.out; rw [hdrop, putGo] at HG1; have HPos := pos_append s0_0 F ps[n]; generalize hp : ps[n] = p at HG1 hx0 hpz hdrop HPos
   have HPz := am hpz; clear hrd; have c2 : decide ((n : Int) < (ps.length : Int)) = true := decide_eq_true (by omega); have HW1 := am (show wrap64 ((n : Int) + 1) = ((n + 1 : Nat) : Int) from by
    have := HLen.out; unfold wrap64; omega)
   have p1 : (0 ≤ (n : Int)) = True := eq_true (by omega); have q1 : ((n : Int) < (ps.length : Int)) = True := eq_true (by omega); have hl1 := MapL.look (t := 102) (MapL.below HL0.out HB.out HL0.out.lt) Tryd.underlying9 Tryd.underlying102 Tryd.underlying3 (by kernel_rfl) hpz; have hl2 := MapL.look (t := 102) HM.out Tryd.underlying9 Tryd.underlying102 Tryd.underlying3 (by kernel_rfl) hpz; cases hq1 : pos s0_0 p with
   | some i =>
    rw [show found 0 s0_0 p = ((i : Int), true) from by unfold found; rw [hq1]; simp] at hl1; rw [hq1] at HPos; rw [HPos] at HG1; replace HG1 := am HG1; clear hl2 HPos hq1 hdrop; go_wp2_with (first | ((with_reducible refine gate_builtin (b := .append) (xs := #[.tmp 59, .tmp 61]) rfl ?_); at_builtin; refine Kd.R_append (Kd.int .i64) w.heap.size rfl (.tmp 59) (.tmp 61) 76 3 (.int .i64 0) 8 rfl Tryd.underlying76 infoInt rfl (by decide) (by omega) u7 ids ((i : Int)) [.int .i64 ((i : Int))] (fun _ => True) (fun _ => False) rfl rfl ?aP (fun _ hk => hk.elim) ?aF ?aO (Below.refl _ _) ?aS ?aL ?_; (case aP => exact rfl); (case aF => exact (fun _ _ => trivial)); (case aO => exact (rz HO7.out)); (case aS => exact siz); (case aL => have := HLs.out; have := HLen.out; omega); intro v125 w32 ho hb hg hat; have n0_ := am (Kd.R_over' (rz HO19.out) (Kd.R_typed (rz HO7.out)) (by decide) hg); have n1_ := am (Kd.R_over' (rz HO8.out) (Kd.R_typed (rz HO7.out)) (by decide) hg); have n2_ := am (MapL.kept HM.out hg (MapL.ne_row HM.out HO7.out)); have n3_ := am (Below.trans bz hb); have n4_ := am ho; clear HO19 HO8 HM HB HO7 ho hb hg hat; have HO19 := n0_; have HO8 := n1_; have HM := n2_; have HB := n3_; have HO7 := n4_; clear n0_ n1_ n2_ n3_ n4_))
    go_roundg (ps.length - (n + 1))
    case rel =>
     refine ⟨n + 1, ids ++ [(i : Int)], F, by omega, by rw [HW1.out], ⟨rfl⟩, ?_, ?_, ?_, ?_, HO7, HO8, HO19, HM, HB⟩
     ·exact ⟨by rw [List.append_assoc]; exact HG1.out.1, HG1.out.2⟩
     ·exact HNew
     ·exact HZF
     ·exact ⟨by rw [List.length_append, List.length_singleton, HLs.out.1], by have := HLs.out.2; omega⟩
    case measure => have := HK1.out; omega
   | none =>
    rw [show found 0 s0_0 p = (0, false) from by rw [found, hq1]] at hl1; rw [hq1] at HPos; cases hq2 : pos F p with
    | some i =>
     rw [show found s0_0.length F p = (((s0_0.length + i : Nat) : Int), true) from by rw [found, hq2]] at hl2; rw [hq2] at HPos; rw [HPos] at HG1; replace HG1 := am HG1; clear HPos hq1 hq2 hdrop; go_wp2_with (first | ((with_reducible refine gate_builtin (b := .append) (xs := #[.tmp 59, .tmp 61]) rfl ?_); at_builtin; refine Kd.R_append (Kd.int .i64) w.heap.size rfl (.tmp 59) (.tmp 61) 76 3 (.int .i64 0) 8 rfl Tryd.underlying76 infoInt rfl (by decide) (by omega) u7 ids (((s0_0.length + i : Nat) : Int)) [.int .i64 (((s0_0.length + i : Nat) : Int))] (fun _ => True) (fun _ => False) rfl rfl ?aP (fun _ hk => hk.elim) ?aF ?aO (Below.refl _ _) ?aS ?aL ?_; (case aP => exact rfl); (case aF => exact (fun _ _ => trivial)); (case aO => exact (rz HO7.out)); (case aS => exact siz); (case aL => have := HLs.out; have := HLen.out; omega); intro v125 w32 ho hb hg hat; have n0_ := am (Kd.R_over' (rz HO19.out) (Kd.R_typed (rz HO7.out)) (by decide) hg); have n1_ := am (Kd.R_over' (rz HO8.out) (Kd.R_typed (rz HO7.out)) (by decide) hg); have n2_ := am (MapL.kept HM.out hg (MapL.ne_row HM.out HO7.out)); have n3_ := am (Below.trans bz hb); have n4_ := am ho; clear HO19 HO8 HM HB HO7 ho hb hg hat; have HO19 := n0_; have HO8 := n1_; have HM := n2_; have HB := n3_; have HO7 := n4_; clear n0_ n1_ n2_ n3_ n4_))
     go_roundg (ps.length - (n + 1))
     case rel =>
      refine ⟨n + 1, ids ++ [((s0_0.length + i : Nat) : Int)], F, by omega, by rw [HW1.out], ⟨rfl⟩, ?_, ?_, ?_, ?_, HO7, HO8, HO19, HM, HB⟩
      ·exact ⟨by rw [List.append_assoc]; exact HG1.out.1, HG1.out.2⟩
      ·exact HNew
      ·exact HZF
      ·exact ⟨by rw [List.length_append, List.length_singleton, HLs.out.1], by have := HLs.out.2; omega⟩
     case measure => have := HK1.out; omega
    | none =>
     rw [show found s0_0.length F p = (0, false) from by rw [found, hq2]] at hl2; rw [hq2] at HPos; replace HPos : pos (s0_0 ++ F) p = none := HPos; rw [HPos] at HG1; replace HG1 := am HG1; have HNew2 := am (HNew.out.snoc HPos); have HQ2 := am hq2; have HWr := am (show wrap64 ((s0_0.length : Int) + (F.length : Int)) = ((s0_0.length + F.length : Nat) : Int) from by
      have h1 := HN0.out; have h2 := HLs.out; have h3 := HLen.out; unfold wrap64; omega)
     have hwf : (Lit.int .i64 (wrap64 ((s0_0.length : Int) + (F.length : Int)))).wf = true := by
      rw [HWr.out]; have h1 := HN0.out; have h2 := HLs.out; have h3 := HLen.out; simp [Lit.wf, IntKind.min, IntKind.max, IntKind.bits, IntKind.signed]
      omega
     obtain ⟨D, hD0, hD1, hD2⟩ := HM.out; have HD0 := am hD0; have HD1 := am hD1; have HD2 := am hD2; have hkey := WideMaps.keyOf_string_mk (P := Tryd.prog) Tryd.underlying9 hpz; clear HPos hq1 hq2 hdrop hD0 hD1 hD2; obtain ⟨Ao8, co8, eo8⟩ := Kd.R_slice HO8.out; subst eo8; obtain ⟨A0, c0, eo0⟩ := Kd.R_slice HR0.out; subst eo0; go_wp2_with (first | (at_mapUpdate; refine wpList_mapUpdate_own _ rfl _ _ _ 102 rfl 9 3 (Maps.string_keyed Tryd.underlying9) Tryd.underlying102 (plainElem Tryd.prog 3) w.heap.size F.length D rfl HD1.out (by unfold maxLen; have := HLs.out; have := HLen.out; omega) _ _ _ rfl rfl hkey _ [] (plainElem_int Tryd.underlying3 hwf) ?_; intro w10 hown10 hg; rw [HWr.out] at hown10; have n0_ := am (R_mapped HO7.out HM.out hg); have n1_ := am (R_mapped HO8.out HM.out hg); have n2_ := am (R_mapped HO19.out HM.out hg); have n3_ := am (MapL.snoc HD0.out HD2.out hown10 HQ2.out); have n4_ := am (Below.grown bz hg siz (fun k_ hk_ => by cases hk_; exact Nat.le_refl _)); clear HO7 HO8 HO19 HM HB hown10 hg; have HO7 := n0_; have HO8 := n1_; have HO19 := n2_; have HM := n3_; have HB := n4_; clear n0_ n1_ n2_ n3_ n4_) | ((with_reducible refine gate_builtin (b := .append) (xs := #[.tmp 55, .tmp 57]) rfl ?_); at_builtin; refine Kd.R_append Kd.string w.heap.size rfl (.tmp 55) (.tmp 57) 42 9 (.string ⟨#[]⟩) 16 rfl Tryd.underlying42 info9 rfl (by decide) (by omega) (.slice Ao8 F.length co8) F p [.string p] (fun k_ => some k_ ≠ (.slice (some ad) ps.length co : Value).ownBlock) (fun _ => False) rfl rfl ?aP (fun _ hk => hk.elim) ?aF ?aO (Below.refl _ _) ?aS ?aL ?_; (case aP => exact rfl); (case aF => exact (fun k_ hk => Kd.fresh' (Kd.R_lt (rz HO19.out)) k_ hk)); (case aO => exact (rz HO8.out)); (case aS => exact siz); (case aL => have := HLs.out; have := HLen.out; omega); intro v122 w31 ho hb hg hat; have n0_ := am (Kd.R_over' (rz HO7.out) (Kd.R_typed (rz HO8.out)) (by decide) hg); have n1_ := am (Kd.R_after (ok := (fun _ => True)) (rz (Kd.R_mono HO19.out (fun _ hk => ⟨trivial, hk⟩))) hg hat); have n2_ := am (MapL.kept HM.out hg (MapL.ne_row HM.out HO8.out)); have n3_ := am (Below.trans bz hb); have n4_ := am ho; clear HO19 HO8 HM HB HO7 ho hb hg hat; have HO7 := n0_; have HO19 := am (Kd.R_mono n1_.out (fun _ hk => hk.2)); have HM := n2_; have HB := n3_; have HO8 := n4_; clear n0_ n1_ n2_ n3_ n4_) | ((with_reducible refine gate_builtin (b := .append) (xs := #[.tmp 59, .tmp 61]) rfl ?_); at_builtin; refine Kd.R_append (Kd.int .i64) w.heap.size rfl (.tmp 59) (.tmp 61) 76 3 (.int .i64 0) 8 rfl Tryd.underlying76 infoInt rfl (by decide) (by omega) u7 ids ((wrap64 ((s0_0.length : Int) + (F.length : Int)))) [.int .i64 ((wrap64 ((s0_0.length : Int) + (F.length : Int))))] (fun _ => True) (fun _ => False) rfl rfl ?aP (fun _ hk => hk.elim) ?aF ?aO (Below.refl _ _) ?aS ?aL ?_; (case aP => exact rfl); (case aF => exact (fun _ _ => trivial)); (case aO => exact (rz HO7.out)); (case aS => exact siz); (case aL => have := HLs.out; have := HLen.out; omega); intro v125 w32 ho hb hg hat; have n0_ := am (Kd.R_over' (rz HO19.out) (Kd.R_typed (rz HO7.out)) (by decide) hg); have n1_ := am (Kd.R_over' (rz HO8.out) (Kd.R_typed (rz HO7.out)) (by decide) hg); have n2_ := am (MapL.kept HM.out hg (MapL.ne_row HM.out HO7.out)); have n3_ := am (Below.trans bz hb); have n4_ := am ho; clear HO19 HO8 HM HB HO7 ho hb hg hat; have HO19 := n0_; have HO8 := n1_; have HM := n2_; have HB := n3_; have HO7 := n4_; clear n0_ n1_ n2_ n3_ n4_))
     go_roundg (ps.length - (n + 1))
     case rel =>
      rw [HWr.out] at HO7; refine ⟨n + 1, ids ++ [((s0_0.length + F.length : Nat) : Int)], F ++ [p], by omega, by rw [HW1.out], ⟨rfl⟩, ?_, ?_, ?_, ?_, HO7, HO8, HO19, HM, HB⟩
      ·exact ⟨by rw [List.append_assoc]; exact HG1.out.1, HG1.out.2⟩
      ·exact HNew2
      ·exact ⟨fun q hq => (List.mem_append.1 hq).elim (HZF.out q) (fun h => by rw [List.mem_singleton.1 h]; exact HPz.out)⟩
      ·exact ⟨by rw [List.length_append, List.length_singleton, HLs.out.1], by have := HLs.out.2; simp only [List.length_append, List.length_singleton]; omega⟩
     case measure => have := HK1.out; omega
  ·obtain rfl : n = ps.length := by omega
   have HG1 := HG.out; rw [List.drop_length, putGo, List.append_nil] at HG1; obtain ⟨hI1, hF1⟩ := HG1; have HE1 := HE.out; unfold putOf at HE1
   rw [← hI1, ← hF1] at HE1; clear hI1 hF1; have c2 : decide ((ps.length : Int) < (ps.length : Int)) = false := by simp
   obtain ⟨Ao8, co8, eo8⟩ := Kd.R_slice HO8.out; subst eo8; obtain ⟨A0, c0, eo0⟩ := Kd.R_slice HR0.out; subst eo0; have hwr : wrap64 ((s0_0.length : Int) + (F.length : Int)) = ((s0_0.length + F.length : Nat) : Int) := by
    have h1 := HN0.out; have h2 := HLs.out; have h3 := HLen.out; unfold wrap64; omega
   by_cases hfull : 4000 < s0_0.length + F.length
   ·rw [if_pos hfull] at HE1
    simp only [Prod.mk.injEq] at HE1
    obtain ⟨rfl, rfl, rfl⟩ := HE1; have c3 : decide ((4000 : Int) < wrap64 ((s0_0.length : Int) + (F.length : Int))) = true := decide_eq_true (by rw [hwr]; omega); clear hwr; go_wp2
    go_ret2; exact ⟨_, rfl, Kd.R_nil _ _ _ _ _, IsS104.below HI.out HB.out, HB0.out.trans (HB.out.mono (below_size HB0.out)), Kept.of_below HB.out _, fun k_ hk_ => .inl (TabAt.back ((HB.out.block g (blk_lt BK.out)).symm) hk_)⟩
   ·rw [if_neg hfull] at HE1
    simp only [Prod.mk.injEq] at HE1
    obtain ⟨rfl, rfl, rfl⟩ := HE1; have c3 : decide ((4000 : Int) < wrap64 ((s0_0.length : Int) + (F.length : Int))) = false := decide_eq_false (by rw [hwr]; omega); have HFull := am (show s0_0.length + F.length ≤ 4000 from by omega); clear hwr hfull; have HF := am (show Kd.R Kd.string 9 wr w.heap.size (fun k_ => some k_ ≠ (Value.slice A0 s0_0.length c0).ownBlock) (.slice Ao8 F.length co8) F from Kd.R_mono (Kd.R_bound HO8.out) (fun k_ hk_ e_ => by
     have h1 := Kd.R_lt HR0.out k_ e_.symm; have h2 := hk_.2.1; omega))
    go_wp2
    go_loopg [75] (F.length) (fun kq v75 wr2 => ∃ (j : Nat) (v : Value), j ≤ F.length ∧ v75 = .int .i64 j ∧ Aside0 (kq = F.length - j) ∧ Aside0 (wr2.heap[g]? = some (.cells #[v, .map (some m)] 104 (0, 0))) ∧ Aside0 (Kd.R Kd.string 9 wr2 w0.heap.size (fun _ => True) v (s0_0 ++ F.take j)) ∧ Aside0 (MapL Tryd.prog 9 3 wr2 m 0 (s0_0 ++ F.take j)) ∧ Aside0 (Kd.R (Kd.int .i64) 3 wr2 w.heap.size (fun _ => True) u7 ids) ∧ Aside0 (Kd.R Kd.string 9 wr2 w.heap.size (fun k_ => some k_ ≠ v.ownBlock) (.slice Ao8 F.length co8) F) ∧ Aside0 (Below w0.heap.size w0 wr2) ∧ Aside0 (Kept w wr2 (TabAt w g)) ∧ Aside0 (∀ k_, v.ownBlock = some k_ → TabAt w g k_ ∨ w.heap.size ≤ k_))
    case atStart =>
     exact ⟨0, .slice A0 s0_0.length c0, Nat.zero_le _, rfl, ⟨rfl⟩, ⟨(HB.out.block g (blk_lt BK.out)).trans BK.out⟩, ⟨by rw [List.take_zero, List.append_nil]; exact Kd.R_below HR0.out HB.out⟩, ⟨by rw [List.take_zero, List.append_nil]; exact MapL.below HL0.out HB.out HL0.out.lt⟩, HO7, HF, ⟨HB0.out.trans (HB.out.mono (below_size HB0.out))⟩, ⟨Kept.of_below HB.out _⟩, ⟨fun k_ hk_ => .inl (.inr ⟨_, m, BK.out, .inr hk_⟩)⟩⟩
    case round =>
     clear HF HO7 HO8 HO19 HM HB HE HG; obtain ⟨j, v, hj, rfl, HK1, HBK, HR, HM, HO7, HF, HB, HK, HV⟩ := hrel; by_cases hjl : j < F.length
     ·obtain ⟨A, c, ev⟩ := Kd.R_slice HR.out
      subst ev; have hrd : rdOf ByteArray.empty F (j : Int) = F[j] := by
       unfold rdOf
       rw [Int.toNat_natCast, List.getD_eq_getElem?_getD, List.getElem?_eq_getElem hjl]; rfl
      obtain ⟨ad, e_, hx0⟩ := Kd.at_string (Kd.R_reads' HF.out).2.2 (j : Int) (by omega) (by omega); cases e_; rw [hrd] at hx0; simp only [Int.toNat_natCast] at hx0
      clear hrd; have hll : (s0_0 ++ F.take j).length = s0_0.length + j := by rw [List.length_append, lT]; omega
      have HLL := am hll; have HPos := am (HNew.out j hjl); have HTk := am (show s0_0 ++ F.take (j + 1) = (s0_0 ++ F.take j) ++ [F[j]] from by rw [List.take_succ_eq_append_getElem hjl, List.append_assoc]); have HPz := am (show F[j].size ≤ maxLen from HZF.out _ (List.getElem_mem hjl)); generalize F[j] = p at hx0 HPos HTk HPz
      have HW1 := am (show wrap64 ((j : Int) + 1) = ((j + 1 : Nat) : Int) from by
       have := HFull.out; unfold wrap64; omega)
      have c4 : decide ((j : Int) < (F.length : Int)) = true := decide_eq_true (by omega); have p1 : (0 ≤ (j : Int)) = True := eq_true (by omega); have q1 : ((j : Int) < (F.length : Int)) = True := eq_true (by omega); clear hll; generalize hLj : s0_0 ++ F.take j = Lj at HBK HR HM HF HV HLL HPos HTk
      have HLj := am hLj; clear hLj; try go_wp2
      have n0_ := am (show wr.drew.heap[g]? = some (.cells #[.slice A Lj.length c, .map (some m)] 104 (0, 0)) from HBK.out); have n1_ := am (rD HR.out); have n2_ := am (MapL.same (w' := wr.drew) HM.out rfl); have n3_ := am (rD HO7.out); have n4_ := am (rD HF.out); have n5_ := am (bO HB.out); have n6_ := am (Kept.drew HK.out); have hd0 : wr.drew.cell? ⟨g, 0, none⟩ = some (.slice A Lj.length c) := (blk_cell n0_.out 0).trans rfl; have hd1 : wr.drew.cell? ⟨g, 1, none⟩ = some (.map (some m)) := (blk_cell n0_.out 1).trans rfl; clear HBK HR HM HO7 HF HB HK; have HBK := n0_; have HR := n1_; have HM := n2_; have HO7 := n3_; have HF := n4_; have HB := n5_; have HK := n6_; clear n0_ n1_ n2_ n3_ n4_ n5_ n6_; refine start_ (n := 11) (S := fun w' => w'.cell? ⟨g, 0, none⟩ = some (.slice A Lj.length c) ∧ w'.cell? ⟨g, 1, none⟩ = some (.map (some m))) (ds := [10]) #[fF,fF,fF,fF,fF,fF,fF,fF,fF,fF,fF] (by kernel_rfl) rfl rfl ⟨hd0, hd1⟩ (fun hHeld => ?_); refine with_tabW blocks_Table_Put.tab23 blocks_Table_Put.bits23 (fun HT_ HW_ => ?_)
      clear hd0 hd1; generalize wr.drew = w42 at HBK HR HM HO7 HF HB HK hHeld ⊢
      refine pu 0 (some 79) ?_
      refine pu 1 (some 80) ?_
      refine pu 2 (some 81) ?_
      refine take_ (i := 3) (N := some 82) (v := ?_) (a' := ?_) #[tT,tT,tT,tT,fF,fF,fF,fF,fF,fF,fF] rfl rfl (take_ofW HT_.out HW_.out (by kernel_rfl)) (fun _ _ _ h => h) (Or.inl ⟨by rfl, ?_⟩) hHeld ?_ ?_
      rotate_left
      ·rintro w' ⟨s0, s1⟩
       go_simp
       with_reducible rfl
      rotate_left
      ·simp only [Act.put, sA, sB, sC, i64_w, i32_w]
       rfl
      refine pu 4 (some 83) ?_
      refine pu 5 (some 84) ?_
      refine pu 6 (some 85) ?_
      refine pu 7 (some 86) ?_
      refine take_ (i := 8) (N := some 87) (v := ?_) (a' := ?_) #[tT,tT,tT,tT,tT,tT,tT,tT,tT,fF,fF] rfl rfl (take_ofW HT_.out HW_.out (by kernel_rfl)) (fun _ _ _ h => h) (Or.inl ⟨by rfl, ?_⟩) hHeld ?_ ?_
      rotate_left
      ·rintro w' ⟨s0, s1⟩
       go_simp
       with_reducible rfl
      rotate_left
      ·simp only [Act.put, sA, sB, sC, i64_w, i32_w]
       rfl
      refine pu 9 (some 88) ?_
      refine last_ (i := 10) (N := none) #[tT,tT,tT,tT,tT,tT,tT,tT,tT,tT,tT] rfl rfl (one_of HT_.out (by kernel_rfl)) (by decide) (fun K hK => ?_)
      obtain ⟨D, hD0, hD1, hD2⟩ := HM.out; refine upd_ (.tmp 82) (.tmp 83) (.tmp 88) 102 9 3 (by rfl) rfl rfl Tryd.underlying9 Tryd.underlying102 Tryd.underlying3 rfl rfl rfl hD1 (by unfold maxLen; have := HLL.out; have := HFull.out; omega) HPz.out (wf_small (by omega) (by have := HLL.out; have := HFull.out; omega)) ?_
      intro w43 hown hg; have HM2 := am (MapL.snoc (w' := w43) (p := p) hD0 hD2 (by rw [Nat.zero_add]; exact hown) HPos.out); have n0_ := am ((hg.block g (blk_lt HBK.out) (fun e_ => MapL.ne_cells HM.out HBK.out (by injection e_ with e_; exact e_.symm))).trans HBK.out); have n1_ := am (R_mapped HR.out HM.out hg); have n3_ := am (R_mapped HO7.out HM.out hg); have n4_ := am (R_mapped HF.out HM.out hg); have n5_ := am (Below.grown HB.out hg (below_size HB.out) (fun k_ hk_ => by injection hk_ with hk_; subst hk_; exact HM0.out)); have n6_ := am (Kept.of_grown hg HK.out (fun k_ hk_ => .inl (.inr ⟨_, m, BK.out, .inl (by injection hk_ with hk_; exact hk_.symm)⟩))); clear HBK HR HM HO7 HF HB HK hD0 hD1 hD2 hown hg hHeld; have HBK := n0_; have HR := n1_; have HM := HM2; have HO7 := n3_; have HF := n4_; have HB := n5_; have HK := n6_; clear n0_ n1_ HM2 n3_ n4_ n5_ n6_ D; refine hK.out _ _ ?_
      clear hK K; refine done_ (done_of HT_.out (by kernel_rfl)) ?_
      have hcg0 : w43.cell? ⟨g, 0, none⟩ = some (.slice A Lj.length c) := (blk_cell HBK.out 0).trans rfl; go_wp2_with (first | ((with_reducible refine gate_builtin (b := .append) (xs := #[.tmp 93, .tmp 95]) rfl ?_); at_builtin; refine Kd.R_append Kd.string w0.heap.size rfl (.tmp 93) (.tmp 95) 42 9 (.string ⟨#[]⟩) 16 rfl Tryd.underlying42 info9 rfl (by decide) (by omega) (.slice A Lj.length c) Lj p [.string p] (fun _ => True) (fun _ => False) rfl rfl ?aP (fun _ hk => hk.elim) ?aF ?aO HB.out ?aS ?aL ?_; (case aP => exact rfl); (case aF => exact (fun _ _ => trivial)); (case aO => exact HR.out); (case aS => exact (below_size HB.out)); (case aL => have := HLL.out; have := HFull.out; omega); intro v122 w31 ho hb hg hat; obtain ⟨A9_, c9_, ev_⟩ := Kd.R_slice ho; subst ev_; have n0_ := am ((hg.block g (blk_lt HBK.out) (Kd.R_ne HR.out HBK.out (by decide))).trans HBK.out); have n1_ := am (Kd.R_over' HO7.out (Kd.R_typed HR.out) (by decide) hg); have n2_ := am (Kd.R_after (ok := (fun _ => True)) (Kd.R_mono HF.out (fun _ hk => ⟨trivial, hk⟩)) hg hat); have n3_ := am (MapL.kept HM.out hg (MapL.ne_row HM.out HR.out)); have n4_ := am (Kept.of_grown hg HK.out HV.out); have n5_ := am (show ∀ k_, (Value.slice A9_ (Lj ++ [p]).length c9_).ownBlock = some k_ → TabAt w g k_ ∨ w.heap.size ≤ k_ from fun k_ hk_ => hat.elim (fun h1_ => HV.out k_ (h1_.symm.trans hk_)) (fun h1_ => .inr (by obtain ⟨b_, hb_, hl_⟩ := h1_; have h1 := hb_.symm.trans hk_; injection h1 with h1; have h2 := HK.out.1; omega))); have hcg_ : w31.cell? ⟨g, 0, none⟩ = some (.slice A Lj.length c) := (blk_cell n0_.out 0).trans rfl; have hfg_ : w31.frozen? ⟨g, 0, none⟩ = false := blk_frozen n0_.out 0; have n6_ := am hb; have n7_ := am ho; clear HBK HR HM HO7 HF HB HK HV ho hb hg hat; have HBK := n0_; have HO7 := n1_; have HF := am (Kd.R_mono n2_.out (fun _ hk => hk.2)); have HM := n3_; have HK := n4_; have HV := n5_; have HB := n6_; have HR := n7_; clear n0_ n1_ n2_ n3_ n4_ n5_ n6_ n7_))
      go_roundg (F.length - (j + 1))
      case rel =>
       refine ⟨j + 1, _, by omega, by rw [HW1.out], ⟨rfl⟩, ?_, ?_, ?_, ?_, ?_, ?_, ?_, HV⟩
       ·exact ⟨by simpa using blk_set HBK.out 0 _⟩
       ·rw [HTk.out]; exact ⟨Kd.R_set HR.out HBK.out (by decide) _ _⟩
       ·rw [HTk.out]; exact ⟨MapL.set HM.out (MapL.ne_cells HM.out HBK.out) _⟩
       ·exact ⟨Kd.R_set HO7.out HBK.out (by decide) _ _⟩
       ·exact ⟨Kd.R_set HF.out HBK.out (by decide) _ _⟩
       ·exact ⟨below_set HB.out HG0.out⟩
       ·exact ⟨Kept.setCell HK.out (.inl (.inl rfl)) _⟩
      case measure => have := HK1.out; omega
     ·obtain rfl : j = F.length := by omega
      have c4 : decide ((F.length : Int) < (F.length : Int)) = false := by simp
      rw [List.take_length] at HR HM; go_wp2
      go_ret2; exact ⟨_, rfl, HO7.out, ⟨v, m, HBK.out, HG0.out, HM0.out, HR.out, HM.out, by rw [List.length_append]; exact HFull.out⟩, HB.out, HK.out, fun k_ hk_ => TabAt.made BK.out HBK.out HV.out hk_⟩
theorem blocks_Table_Put.calls (k : Nat) (g : Nat) (s0_0 : List ByteArray) (s0_1 : Bool) (a1 : ByteArray) (r1 : List Int) (r2 : Int) (r3 : List ByteArray) (r4 : Bool) (w0 w : World) (hI : IsS104 w0 w g s0_0 s0_1) (hB : Below w0.heap.size w0 w) (h : blocks_Table_Put.f k s0_0 s0_1 a1 = some (r1, r2, r3, r4)) :
  Calls Tryd.prog 47 #[.pointer (some ⟨g, 0, none⟩), .string a1] w fun e w' => ∃ v0_ : Value, e = .returned (.tuple #[v0_, .int .i64 r2]) ∧ Kd.R (Kd.int .i64) 3 w' w.heap.size (fun _ => True) v0_ r1 ∧ IsS104 w0 w' g r3 r4 ∧ Below w0.heap.size w0 w' ∧ Kept w w' (TabAt w g) :=
 Calls.mono (blocks_Table_Put.calls2 k g s0_0 s0_1 a1 r1 r2 r3 r4 w0 w hI hB h) (fun e w' ⟨v0_, h1, h2, h3, h4, h5, _⟩ => ⟨v0_, h1, h2, h3, h4, h5⟩)

end Go.Proofs.YthbdbgjggoobnaaDoor.P
