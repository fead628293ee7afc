/- Of no table each call says so. No condition. -/
import Derived.Test.YthjfjkcjpkapgaaTabTh
namespace Go.Proofs.Ythjfjkcjpkapgaa.Pure
open Go.RowKit Go.Proofs.YthjfjkcjpkapgaaX Go.Proofs.YthjfjkcjpkapgaaW.PrintWords Go.Proofs.YthjfjkcjpkapgaaW.PrintLast Go.Proofs.YthjfjkcjpkapgaaW.PrintMore Go.Proofs.Ythjfjkcjpkapgaa.P Go.Proofs.Ythjfjkcjpkapgaa.Bs Go.Proofs.Ythjfjkcjpkapgaa.Tab
set_option linter.unusedVariables false
set_option linter.unusedSimpArgs false
theorem BlocksNone : hogsheadlaw18_BlocksNone.Pure := by
  intro a0 a1 _ _
  refine ⟨9, ?_⟩
  have ha := awake_f (Nat.le_refl 9)
  unfold hogsheadlaw18_BlocksNone.f
  by_cases h : (a0.size : Int) > 400
  · rw [if_pos h, ha, some_bind]
  · rw [if_neg h]
    have e1 : (⟨#[]⟩ : ByteArray).toList = [] := toList_nil.2 rfl
    simp [tab_NilPut.f, tab_NilGet.f, tab_NilLen.f, tab_NilAll.f, ha, e1]
end Go.Proofs.Ythjfjkcjpkapgaa.Pure
