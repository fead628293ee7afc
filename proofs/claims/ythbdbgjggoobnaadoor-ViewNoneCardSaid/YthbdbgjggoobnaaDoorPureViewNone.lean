/- The plain law behind ViewNone. -/
import Derived.Test.YthbdbgjggoobnaaDoorPx
import Derived.Test.YthbdbgjggoobnaaDoorBs
namespace Go.Proofs.YthbdbgjggoobnaaDoor.Pure
open Go.RowKit Go.Proofs.YthbdbgjggoobnaaDoorX Go.Proofs.YthbdbgjggoobnaaDoorW.PrintWords Go.Proofs.YthbdbgjggoobnaaDoorW.PrintLast Go.Proofs.YthbdbgjggoobnaaDoorW.PrintMore Go.Proofs.YthbdbgjggoobnaaDoor.P
set_option linter.unusedVariables false
set_option linter.unusedSimpArgs false
set_option maxRecDepth 100000 in
theorem awake_3000 : hogsheadlaw20_awake.f 3000 = some true := by decide +kernel
theorem ViewNone : hogsheadlaw20_ViewNone.Pure := by
  intro x h
  refine ⟨3000, ?_⟩
  unfold hogsheadlaw20_ViewNone.f
  by_cases c : (x.f0.size : Int) > 300
  · rw [if_pos c, awake_3000]; rfl
  · have e : (⟨#[]⟩ : ByteArray).toList = ([] : List UInt8) := Bs.toList_nil.2 rfl
    rw [if_neg c, awake_3000]
    simp [view_NilLookup.f, view_NilReadDir.f, view_NilReadAt.f, view_NilLink.f, view_NilTree.f, e]
end Go.Proofs.YthbdbgjggoobnaaDoor.Pure
