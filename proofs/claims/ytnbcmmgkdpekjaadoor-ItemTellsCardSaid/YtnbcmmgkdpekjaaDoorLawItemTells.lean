/- Laid by a program of this session (wip/pr), after the printer of the kit: the functions that a statement reaches as plain Lean functions, and that the calls of the machine come to them. No condition. -/
import Derived.Test.YtnbcmmgkdpekjaaDoorRows
import Derived.Test.YtnbcmmgkdpekjaaDoorPx24
import Derived.Test.YtnbcmmgkdpekjaaDoorPureItemTells
import Derived.Test.YtnbcmmgkdpekjaaDoorTie
import Derived.Test.YtnbcmmgkdpekjaaDoorCards
import Derived.WalkKit
import Derived.ProofKit
import Derived.OpenShut
import Derived.ShutString
import Derived.ChangeOld
import Derived.Below
import Derived.SizedLaws
import Derived.LaidMore
import Derived.Lay
import Derived.SevenTiedAt
import Derived.Stop.Joined
import Derived.Test.YtnbcmmgkdpekjaaDoorXReads
namespace Go.Proofs.YtnbcmmgkdpekjaaDoor.itemTells
open Go.ChangeShapes Go.WideShapes Go.ChangeAt Go.RowKit
open Go.ChangeMaps (open_string shut_string)
open Go.Proofs.YtnbcmmgkdpekjaaDoorX Go.Proofs.YtnbcmmgkdpekjaaDoorW.PrintWords Go.Proofs.YtnbcmmgkdpekjaaDoorW.PrintLast Go.Proofs.YtnbcmmgkdpekjaaDoor.P
set_option linter.unusedVariables false
theorem own : ownKnob Tryd.prog.godebug = none := by kernel_rfl
theorem laidOut : laidOutB Tryd.prog = true := by kernel_rfl
set_option maxRecDepth 100000 in
theorem lifted (os : Os) (started : os.Started) (H : Type) (enc : TypeId × Value → H) :
    ReturnsInHanded {} Tryd.checked os 5 .any (fun w args => (Rows.itemTellsSpec.pre enc Tryd.prog Tryd.f5 Rows.itemTellsRow.domain false w args ∧ laidMetH Tryd.prog Rows.itemTellsRow.laid w) ∧ sizedMet enc Tryd.prog Tryd.f5 (OpenSpec.ofChange Rows.itemTellsSpec) false w args)
      (Rows.itemTellsSpec.post enc Tryd.prog Tryd.f5 false true false false) := by
  refine returnsInHanded_of_change_and (C := Tryd.checked) (X := fun w _ => laidMetH Tryd.prog Rows.itemTellsRow.laid w) (fun _ _ _ hh h => h.of_heap hh) own started (by kernel_rfl) Tryd.func5
    (ChangeSpec.witness_shaped (enc := enc) (C := Tryd.checked) (os := os) (X := fun w _ => laidMetH Tryd.prog Rows.itemTellsRow.laid w) false (World.laidAll Tryd.prog os Rows.itemTellsRow.laid) #[.string ByteArray.empty, .agg #[.string ByteArray.empty, .slice none 0 0, .slice none 0 0], .agg #[.string ByteArray.empty, .slice none 0 0, .slice none 0 0]] 8 (World.laidAll_os _ _ _)
      (World.shaped_of_ZipB (by kernel_rfl) (by kernel_rfl)) (by kernel_rfl) (by kernel_rfl) (by kernel_rfl)
      (by rw [MakeChecks.laidMetH_plain _ _ _ (by kernel_rfl)]; exact laidMet_laidAll _ (by kernel_rfl) (by kernel_rfl))) ?_
  intro W base args ds gs before hval0 hW hcnd hsz0 hL _
  have hsz : (DataW.weightsEach Tryd.prog (Tryd.f5.params.toList ++ Rows.itemTellsSpec.plain.varTypes Tryd.prog) (ds ++ gs)).all (· ≤ reachBytes) = true := hsz0
  have hval : ∀ (j : Nat) t v, Tryd.f5.params[j]? = some t → args[j]? = some v → Value.okWide Tryd.prog W .any base t v := hval0
  have hW' := hW
  obtain ⟨p, q, hA0, hV, rfl, hfz, hnd⟩ := hW
  have hA : DataW.TrodAll enc Tryd.prog W 0 (fun _ => true) true Tryd.f5.params.toList args.toList ds p := hA0
  rw [Tryd.params5] at hA hval hsz
  obtain ⟨v0, vs0, d0, ds0, p0, q0, hargs, rfl, rfl, h0, r0⟩ := trodAll_cons hA
  obtain ⟨v1, vs1, d1, ds1, p1, q1, rfl, rfl, rfl, h1, r1⟩ := trodAll_cons r0
  obtain ⟨v2, vs2, d2, ds2, p2, q2, rfl, rfl, rfl, h2, r2⟩ := trodAll_cons r1
  obtain ⟨rfl, rfl, rfl⟩ := trodAll_nil r2
  obtain rfl : args = #[v0, v1, v2] := by cases args; simp_all
  obtain ⟨rfl, rfl⟩ := trodVars_none hV
  obtain ⟨a0, rfl, rfl, rfl, y0⟩ := open_string Tryd.underlying9 (hval 0 9 v0 rfl rfl) h0
  have w0 : a0.size ≤ 140737488351232 := by
    have z := sized_string hsz (j := 0) (t := 9) rfl rfl
    rw [Array.length_toList] at z
    exact z
  have k1 := h1
  have lt1 : ∀ x ∈ p1, x.block < W.heap.size := by obtain ⟨m, hm⟩ := k1; exact DataW.trod_lt m _ _ _ hm
  obtain ⟨cs1, rfl, _⟩ := okWide_struct Tryd.underlying34 (hval 1 34 v1 rfl rfl)
  obtain ⟨fu1, hf1⟩ := h1
  obtain ⟨x1, K1, w1⟩ := (Opens.iso (f := (fun x : S34 => (x.f0, x.f1, x.f2))) (fun a => (⟨a.1, a.2.1, a.2.2⟩ : S34)) (fun _ => rfl) (Opens.struct Tryd.underlying34 (by kernel_rfl) (OpensFs.cons (by kernel_rfl) (Opens.string Tryd.underlying9) (OpensFs.cons (by kernel_rfl) (Opens.slice (E := 9) Tryd.underlying31 (by kernel_rfl) (Opens.string Tryd.underlying9)) (OpensFs.one (by kernel_rfl) (Opens.slice (E := 45) Tryd.underlying32 (by kernel_rfl) (Opens.iso (f := (fun x : S45 => (x.f0, x.f1, x.f2))) (fun a => (⟨a.1, a.2.1, a.2.2⟩ : S45)) (fun _ => rfl) (Opens.struct Tryd.underlying45 (by kernel_rfl) (OpensFs.cons (by kernel_rfl) (Opens.string Tryd.underlying9) (OpensFs.cons (by kernel_rfl) (Opens.int Tryd.underlying3) (OpensFs.one (by kernel_rfl) (Opens.string Tryd.underlying9)))))))))))) H enc W _ _ _ _ _ _ hf1
  obtain ⟨A1_1, c1_1, A1_2, c1_2, e1, hc1_1, hr1_1, hc1_2, hr1_2⟩ := k34_open K1
  obtain rfl : cs1 = #[.string x1.f0, .slice A1_1 x1.f1.length c1_1, .slice A1_2 x1.f2.length c1_2] := Array.ext' (by first | exact e1 | simpa [Value.cells] using e1)
  have k2 := h2
  have lt2 : ∀ x ∈ p2, x.block < W.heap.size := by obtain ⟨m, hm⟩ := k2; exact DataW.trod_lt m _ _ _ hm
  obtain ⟨cs2, rfl, _⟩ := okWide_struct Tryd.underlying34 (hval 2 34 v2 rfl rfl)
  obtain ⟨fu2, hf2⟩ := h2
  obtain ⟨x2, K2, w2⟩ := (Opens.iso (f := (fun x : S34 => (x.f0, x.f1, x.f2))) (fun a => (⟨a.1, a.2.1, a.2.2⟩ : S34)) (fun _ => rfl) (Opens.struct Tryd.underlying34 (by kernel_rfl) (OpensFs.cons (by kernel_rfl) (Opens.string Tryd.underlying9) (OpensFs.cons (by kernel_rfl) (Opens.slice (E := 9) Tryd.underlying31 (by kernel_rfl) (Opens.string Tryd.underlying9)) (OpensFs.one (by kernel_rfl) (Opens.slice (E := 45) Tryd.underlying32 (by kernel_rfl) (Opens.iso (f := (fun x : S45 => (x.f0, x.f1, x.f2))) (fun a => (⟨a.1, a.2.1, a.2.2⟩ : S45)) (fun _ => rfl) (Opens.struct Tryd.underlying45 (by kernel_rfl) (OpensFs.cons (by kernel_rfl) (Opens.string Tryd.underlying9) (OpensFs.cons (by kernel_rfl) (Opens.int Tryd.underlying3) (OpensFs.one (by kernel_rfl) (Opens.string Tryd.underlying9)))))))))))) H enc W _ _ _ _ _ _ hf2
  obtain ⟨A2_1, c2_1, A2_2, c2_2, e2, hc2_1, hr2_1, hc2_2, hr2_2⟩ := k34_open K2
  obtain rfl : cs2 = #[.string x2.f0, .slice A2_1 x2.f1.length c2_1, .slice A2_2 x2.f2.length c2_2] := Array.ext' (by first | exact e2 | simpa [Value.cells] using e2)
  clear hA0 hval0 hsz0 hsz
  obtain ⟨k, hk⟩ := Pure.ItemTells a0 x1 x2 w0 w1 w2
  refine (P.hogsheadlaw7_ItemTells.calls k a0 x1.f0 A1_1 c1_1 x1.f1 A1_2 c1_2 x1.f2 x2.f0 A2_1 c2_1 x2.f1 A2_2 c2_2 x2.f2 true W hr1_1 hc1_1 hr1_2 hc1_2 hr2_1 hc2_1 hr2_2 hc2_2 hk).mono fun e W' hh => ?_
  obtain ⟨he, bel0⟩ := hh
  have bel : Below W.heap.size W W' := bel0
  subst he
  exact ⟨_, rfl, _, _, _, [], _, [], hW', trodAll_mk1 (shut_bool Tryd.underlying4 _), (trodAll_cons_mk (shut_string Tryd.underlying9 y0) (trodAll_cons_mk (Below.trod laidOut (by kernel_rfl) (of_decide_eq_true (by kernel_rfl)) k1 bel lt1) (trodAll_cons_mk (Below.trod laidOut (by kernel_rfl) (of_decide_eq_true (by kernel_rfl)) k2 bel lt2) trodAll_mk0))), rfl, bel.frame _, fun h => by cases h⟩
theorem over : Rows.itemTellsRow.holds Tryd.pinned (OpenSpec.ofChange Rows.itemTellsSpec) :=
  OpenClaim.holds_of_wide 5 Tryd.f5 rfl rfl rfl rfl rfl rfl rfl ⟨rfl, rfl, rfl, rfl, rfl⟩ rfl rfl rfl rfl rfl (by kernel_rfl) Tryd.func5 (by kernel_rfl)
    (of_decide_eq_true (by kernel_rfl)) (by unfold Func.isWrapper; first | (rw [if_pos (by decide +kernel)]; kernel_rfl) | (rw [if_neg (by decide +kernel)]; exact ⟨rfl, rfl⟩))
    (fun os started H enc _ => lifted os started H enc)
theorem proved : Rows.ItemTellsCardSaid :=
  Claim7.holds_tied_plain_at .later [] [.data, .pinned] true (true, "b200c24c9092ffb3db05f83a4d830141e2732033b29af694a94f5aff9047ec56") false over (fun _ h => by cases h) (by kernel_rfl) (fun _ h => by cases h) itemTells_row_tie rfl ⟨rfl, rfl⟩ (by kernel_rfl) rfl
    (fun f fn hf hfn => by
      obtain rfl : f = 5 := Option.some.inj ((show Tryd.prog.funcNamed "hogshead/hogsheadlaw7.ItemTells" = some 5 by kernel_rfl).symm.trans hf) |>.symm
      obtain rfl : fn = Tryd.f5 := (Option.some.inj (Tryd.func5.symm.trans hfn)).symm
      exact ⟨by kernel_rfl, fun j t ht => by
        rw [Tryd.params5] at ht
        have hm : t ∈ ([9, 34] : List Nat) := by have h_ := Array.mem_of_getElem? ht; exact (show ∀ u ∈ ([9, 34, 34] : List Nat), u ∈ ([9, 34] : List Nat) by decide) t (by simpa using h_)
        have hall : (([9, 34] : List Nat).all fun u => !Tryd.prog.wantsStandIn u) = true := by kernel_rfl
        exact (show Tryd.prog.wantsStandIn t = false by simpa using List.all_eq_true.1 hall t hm)⟩)
    (by kernel_rfl)
#print axioms proved
end Go.Proofs.YtnbcmmgkdpekjaaDoor.itemTells
namespace Go.Proofs.YtnbcmmgkdpekjaaDoor
/-- The row, under a short name, for the claim. -/
theorem itemTells_holds : Rows.ItemTellsCardSaid := itemTells.proved
end Go.Proofs.YtnbcmmgkdpekjaaDoor
