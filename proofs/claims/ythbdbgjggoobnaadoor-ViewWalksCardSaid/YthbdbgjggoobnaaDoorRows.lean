/-
  NARROWER THAN 'FOR EVERY INPUT', by the rows' own cells (each row's printed sentence says how): ViewRanges: laid · ViewTurned: laid · ViewSplits: laid · ViewWalks: laid · ViewNone: laid · ViewAnswers: laid.
  DERIVED. THE GIVEN ROWS OF THIS SEAT. 6 by the template 'for every input the law returns true; each argument reads behind the call as it read before'; 0 by the template 'total and deterministic' (their statements: YthbdbgjggoobnaaDoorTotals.lean).
  GIVEN WITH THE SEED: the statements are not yours to turn. If you find one false, say at which input.
  Laid BY PROGRAM, IN A SANDBOX (cutbox-rows.mjs): the forced cells as the released guide's own fill.sh prints them over the translation 7dd88e16cda230a2… (all of the seat's roots in one cut). By AI agents, Wed Nov 11 2026. No macro, syntax, notation, axiom, sorry.
-/
import Derived.Test.YthbdbgjggoobnaaDoorChecked
import GoSem.PinnedTables
import GoSem.Claim
import GoSem.ClaimJoined
import GoSem.ClaimMapViews
import Derived.JoinedTies
import Derived.KernelRfl
namespace Go.Proofs.YthbdbgjggoobnaaDoor
/- THE CELL 'sum', in the pinned program and in every row, IS THE sha256 OF THE DUMP (.gsa) THAT YthbdbgjggoobnaaDoorProg.lean LOADS. Nothing in Lean hashes anything: it is a label: what it is worth is what the hold of that sum in a sandbox is worth. -/
noncomputable def Tryd.pinned : Pinned := { name := "ythbdbgjggoobnaadoor", sum := "7dd88e16cda230a288e3357aff8e0815d9d94af4dda26df65da73cf07dd5c201", checked := Tryd.checked }
namespace Rows
def none {H : Type} : Left H := { results := [], args := [] }

/- WHAT THE LISTED PACKAGE-LEVEL VARIABLES READ AS WHEN THE CALL BEGINS. Each datum BY PROGRAM (the guide's laid-datum.mjs) off the statement by which the dump's own 'gosem.cut.vars' lays the variable. In a bare row this is a premise. The card (YthbdbgjggoobnaaDoorCards.lean) ties it to the program's text. -/
def laid_unicode_utf8_acceptRanges {H : Type} : DataW H := .agg [.agg [.lit (.int .u8 128), .lit (.int .u8 191)], .agg [.lit (.int .u8 160), .lit (.int .u8 191)], .agg [.lit (.int .u8 128), .lit (.int .u8 159)], .agg [.lit (.int .u8 144), .lit (.int .u8 191)], .agg [.lit (.int .u8 128), .lit (.int .u8 143)], .agg [.lit (.int .u8 0), .lit (.int .u8 0)], .agg [.lit (.int .u8 0), .lit (.int .u8 0)], .agg [.lit (.int .u8 0), .lit (.int .u8 0)], .agg [.lit (.int .u8 0), .lit (.int .u8 0)], .agg [.lit (.int .u8 0), .lit (.int .u8 0)], .agg [.lit (.int .u8 0), .lit (.int .u8 0)], .agg [.lit (.int .u8 0), .lit (.int .u8 0)], .agg [.lit (.int .u8 0), .lit (.int .u8 0)], .agg [.lit (.int .u8 0), .lit (.int .u8 0)], .agg [.lit (.int .u8 0), .lit (.int .u8 0)], .agg [.lit (.int .u8 0), .lit (.int .u8 0)]]
/-- One of Go's own tables, pinned by name: the form's constant. -/
def laid_unicode_utf8_first : DataW Unit := Go.Pinned.utf8First

/-- 'hogsheadlaw20.ViewRanges': WHATEVER THE INPUT: true; the input reads as it did. -/
def viewRangesSpec : ChangeSpec := { name := "viewRanges", fn := fun _ => fun
  | [d1, d2, d3] => { results := [.lit (.bool true)], args := [d1, d2, d3] }
  | _ => none }
def viewRangesRow : OpenClaim := { program := "ythbdbgjggoobnaadoor", sum := "7dd88e16cda230a288e3357aff8e0815d9d94af4dda26df65da73cf07dd5c201", func := "hogshead/hogsheadlaw20.ViewRanges", spec := "viewRanges", inPlace := ["internal/bytealg.CountString", "internal/bytealg.IndexByteString", "internal/bytealg.IndexString"], unfollowed := true, recurses := true, named := ["unicode/utf8.first", "unicode/utf8.acceptRanges", "internal/bytealg.MaxLen"], apart := false, laid := [("unicode/utf8.acceptRanges", laid_unicode_utf8_acceptRanges), ("unicode/utf8.first", laid_unicode_utf8_first)] }
def ViewRangesSaid : Prop := viewRangesRow.holds Tryd.pinned (OpenSpec.ofChange viewRangesSpec)

/-- ITS FALSE NEIGHBOUR: 'it returns false'. Refute it at one input. -/
def viewRangesWrong : ChangeSpec := { name := "viewRanges", fn := fun _ => fun
  | [d1, d2, d3] => { results := [.lit (.bool false)], args := [d1, d2, d3] }
  | _ => none }
def ViewRangesWrongFalsely : Prop := viewRangesRow.holds Tryd.pinned (OpenSpec.ofChange viewRangesWrong)

/-- 'hogsheadlaw20.ViewTurned': WHATEVER THE INPUT: true; the input reads as it did. -/
def viewTurnedSpec : ChangeSpec := { name := "viewTurned", fn := fun _ => fun
  | [d1, d2, d3] => { results := [.lit (.bool true)], args := [d1, d2, d3] }
  | _ => none }
def viewTurnedRow : OpenClaim := { program := "ythbdbgjggoobnaadoor", sum := "7dd88e16cda230a288e3357aff8e0815d9d94af4dda26df65da73cf07dd5c201", func := "hogshead/hogsheadlaw20.ViewTurned", spec := "viewTurned", inPlace := ["internal/bytealg.CountString", "internal/bytealg.IndexByteString", "internal/bytealg.IndexString"], unfollowed := true, recurses := true, named := ["unicode/utf8.first", "unicode/utf8.acceptRanges", "internal/bytealg.MaxLen"], apart := false, laid := [("unicode/utf8.acceptRanges", laid_unicode_utf8_acceptRanges), ("unicode/utf8.first", laid_unicode_utf8_first)] }
def ViewTurnedSaid : Prop := viewTurnedRow.holds Tryd.pinned (OpenSpec.ofChange viewTurnedSpec)

/-- ITS FALSE NEIGHBOUR: 'it returns false'. Refute it at one input. -/
def viewTurnedWrong : ChangeSpec := { name := "viewTurned", fn := fun _ => fun
  | [d1, d2, d3] => { results := [.lit (.bool false)], args := [d1, d2, d3] }
  | _ => none }
def ViewTurnedWrongFalsely : Prop := viewTurnedRow.holds Tryd.pinned (OpenSpec.ofChange viewTurnedWrong)

/-- 'hogsheadlaw20.ViewSplits': WHATEVER THE INPUT: true; the input reads as it did. -/
def viewSplitsSpec : ChangeSpec := { name := "viewSplits", fn := fun _ => fun
  | [d1, d2, d3, d4, d5] => { results := [.lit (.bool true)], args := [d1, d2, d3, d4, d5] }
  | _ => none }
def viewSplitsRow : OpenClaim := { program := "ythbdbgjggoobnaadoor", sum := "7dd88e16cda230a288e3357aff8e0815d9d94af4dda26df65da73cf07dd5c201", func := "hogshead/hogsheadlaw20.ViewSplits", spec := "viewSplits", inPlace := ["internal/bytealg.CountString", "internal/bytealg.IndexByteString", "internal/bytealg.IndexString"], unfollowed := true, recurses := true, named := ["unicode/utf8.first", "unicode/utf8.acceptRanges", "internal/bytealg.MaxLen"], apart := false, laid := [("unicode/utf8.acceptRanges", laid_unicode_utf8_acceptRanges), ("unicode/utf8.first", laid_unicode_utf8_first)] }
def ViewSplitsSaid : Prop := viewSplitsRow.holds Tryd.pinned (OpenSpec.ofChange viewSplitsSpec)

/-- ITS FALSE NEIGHBOUR: 'it returns false'. Refute it at one input. -/
def viewSplitsWrong : ChangeSpec := { name := "viewSplits", fn := fun _ => fun
  | [d1, d2, d3, d4, d5] => { results := [.lit (.bool false)], args := [d1, d2, d3, d4, d5] }
  | _ => none }
def ViewSplitsWrongFalsely : Prop := viewSplitsRow.holds Tryd.pinned (OpenSpec.ofChange viewSplitsWrong)

/-- 'hogsheadlaw20.ViewWalks': WHATEVER THE INPUT: true; the input reads as it did. -/
def viewWalksSpec : ChangeSpec := { name := "viewWalks", fn := fun _ => fun
  | [d] => { results := [.lit (.bool true)], args := [d] }
  | _ => none }
def viewWalksRow : OpenClaim := { program := "ythbdbgjggoobnaadoor", sum := "7dd88e16cda230a288e3357aff8e0815d9d94af4dda26df65da73cf07dd5c201", func := "hogshead/hogsheadlaw20.ViewWalks", spec := "viewWalks", inPlace := ["internal/bytealg.CountString", "internal/bytealg.IndexByteString", "internal/bytealg.IndexString"], unfollowed := true, recurses := true, named := ["unicode/utf8.first", "unicode/utf8.acceptRanges", "internal/bytealg.MaxLen"], apart := false, laid := [("unicode/utf8.acceptRanges", laid_unicode_utf8_acceptRanges), ("unicode/utf8.first", laid_unicode_utf8_first)] }
def ViewWalksSaid : Prop := viewWalksRow.holds Tryd.pinned (OpenSpec.ofChange viewWalksSpec)

/-- ITS FALSE NEIGHBOUR: 'it returns false'. Refute it at one input. -/
def viewWalksWrong : ChangeSpec := { name := "viewWalks", fn := fun _ => fun
  | [d] => { results := [.lit (.bool false)], args := [d] }
  | _ => none }
def ViewWalksWrongFalsely : Prop := viewWalksRow.holds Tryd.pinned (OpenSpec.ofChange viewWalksWrong)

/-- 'hogsheadlaw20.ViewNone': WHATEVER THE INPUT: true; the input reads as it did. -/
def viewNoneSpec : ChangeSpec := { name := "viewNone", fn := fun _ => fun
  | [d] => { results := [.lit (.bool true)], args := [d] }
  | _ => none }
def viewNoneRow : OpenClaim := { program := "ythbdbgjggoobnaadoor", sum := "7dd88e16cda230a288e3357aff8e0815d9d94af4dda26df65da73cf07dd5c201", func := "hogshead/hogsheadlaw20.ViewNone", spec := "viewNone", inPlace := ["internal/bytealg.CountString", "internal/bytealg.IndexByteString", "internal/bytealg.IndexString"], unfollowed := true, recurses := true, named := ["unicode/utf8.first", "unicode/utf8.acceptRanges", "internal/bytealg.MaxLen"], apart := false, laid := [("unicode/utf8.acceptRanges", laid_unicode_utf8_acceptRanges), ("unicode/utf8.first", laid_unicode_utf8_first)] }
def ViewNoneSaid : Prop := viewNoneRow.holds Tryd.pinned (OpenSpec.ofChange viewNoneSpec)

/-- ITS FALSE NEIGHBOUR: 'it returns false'. Refute it at one input. -/
def viewNoneWrong : ChangeSpec := { name := "viewNone", fn := fun _ => fun
  | [d] => { results := [.lit (.bool false)], args := [d] }
  | _ => none }
def ViewNoneWrongFalsely : Prop := viewNoneRow.holds Tryd.pinned (OpenSpec.ofChange viewNoneWrong)

/-- 'hogsheadlaw20.ViewAnswers': WHATEVER THE INPUT: true; the input reads as it did. -/
def viewAnswersSpec : ChangeSpec := { name := "viewAnswers", fn := fun _ => fun
  | [d1, d2] => { results := [.lit (.bool true)], args := [d1, d2] }
  | _ => none }
def viewAnswersRow : OpenClaim := { program := "ythbdbgjggoobnaadoor", sum := "7dd88e16cda230a288e3357aff8e0815d9d94af4dda26df65da73cf07dd5c201", func := "hogshead/hogsheadlaw20.ViewAnswers", spec := "viewAnswers", inPlace := ["internal/bytealg.CountString", "internal/bytealg.IndexByteString", "internal/bytealg.IndexString"], unfollowed := true, recurses := true, named := ["unicode/utf8.first", "unicode/utf8.acceptRanges", "internal/bytealg.MaxLen"], apart := false, laid := [("unicode/utf8.acceptRanges", laid_unicode_utf8_acceptRanges), ("unicode/utf8.first", laid_unicode_utf8_first)] }
def ViewAnswersSaid : Prop := viewAnswersRow.holds Tryd.pinned (OpenSpec.ofChange viewAnswersSpec)

/-- ITS FALSE NEIGHBOUR: 'it returns false'. Refute it at one input. -/
def viewAnswersWrong : ChangeSpec := { name := "viewAnswers", fn := fun _ => fun
  | [d1, d2] => { results := [.lit (.bool false)], args := [d1, d2] }
  | _ => none }
def ViewAnswersWrongFalsely : Prop := viewAnswersRow.holds Tryd.pinned (OpenSpec.ofChange viewAnswersWrong)

/- THE SECOND FORM. 'bulk': how many values and letters a reading holds, each counted each time it is reached (what is shared counts as often as it is met; a slice's spare places count too). A statement '..UptoSaid' is the law's where the arguments, and the package variables that the reading takes, are together of bulk at most 1048576: NARROWER than '..Said'. Prove '..Said' where nothing that the law and all that it calls make is longer than what came in: it says more and counts as full. Else prove '..UptoSaid'. A law counts once. -/
mutual
def uptoBulk {H : Type} : DataW H → Nat
  | .lit (.string bytes) => bytes.length + 1
  | .lit _ => 1
  | .nil => 1
  | .ptr d => uptoBulk d + 1
  | .slice elems spare => uptoBulkAll elems + uptoBulkAll spare + 1
  | .agg parts => uptoBulkAll parts + 1
  | .iface _ d => uptoBulk d + 1
  | .map entries => uptoBulkEntries entries + 1
  | .held _ => 1
def uptoBulkAll {H : Type} : List (DataW H) → Nat
  | [] => 0
  | d :: r => uptoBulk d + uptoBulkAll r
def uptoBulkEntries {H : Type} : List (Lit × DataW H) → Nat
  | [] => 0
  | x :: r => uptoBulkEntry x + uptoBulkEntries r
def uptoBulkEntry {H : Type} : Lit × DataW H → Nat
  | (.string bytes, d) => bytes.length + uptoBulk d + 1
  | (_, d) => uptoBulk d + 1
 end
def uptoSmall : (H : Type) → List (DataW H) → Bool := fun _ ds => decide (uptoBulkAll ds ≤ 1048576)
def OpenSpec.upto (s : _root_.Go.ChangeSpec) : _root_.Go.OpenSpec := { _root_.Go.OpenSpec.ofChange s with cond := some uptoSmall }

/-- 'hogsheadlaw20.ViewRanges', WHERE WHAT IT READS IS OF BULK AT MOST 1048576: true; the input reads as it did. -/
def viewRangesUptoRow : OpenClaim := { program := "ythbdbgjggoobnaadoor", sum := "7dd88e16cda230a288e3357aff8e0815d9d94af4dda26df65da73cf07dd5c201", func := "hogshead/hogsheadlaw20.ViewRanges", spec := "viewRanges", inPlace := ["internal/bytealg.CountString", "internal/bytealg.IndexByteString", "internal/bytealg.IndexString"], unfollowed := true, recurses := true, named := ["unicode/utf8.first", "unicode/utf8.acceptRanges", "internal/bytealg.MaxLen"], apart := false, laid := [("unicode/utf8.acceptRanges", laid_unicode_utf8_acceptRanges), ("unicode/utf8.first", laid_unicode_utf8_first)], narrowed := true }
def ViewRangesUptoSaid : Prop := viewRangesUptoRow.holds Tryd.pinned (OpenSpec.upto viewRangesSpec)

/-- 'hogsheadlaw20.ViewTurned', WHERE WHAT IT READS IS OF BULK AT MOST 1048576: true; the input reads as it did. -/
def viewTurnedUptoRow : OpenClaim := { program := "ythbdbgjggoobnaadoor", sum := "7dd88e16cda230a288e3357aff8e0815d9d94af4dda26df65da73cf07dd5c201", func := "hogshead/hogsheadlaw20.ViewTurned", spec := "viewTurned", inPlace := ["internal/bytealg.CountString", "internal/bytealg.IndexByteString", "internal/bytealg.IndexString"], unfollowed := true, recurses := true, named := ["unicode/utf8.first", "unicode/utf8.acceptRanges", "internal/bytealg.MaxLen"], apart := false, laid := [("unicode/utf8.acceptRanges", laid_unicode_utf8_acceptRanges), ("unicode/utf8.first", laid_unicode_utf8_first)], narrowed := true }
def ViewTurnedUptoSaid : Prop := viewTurnedUptoRow.holds Tryd.pinned (OpenSpec.upto viewTurnedSpec)

/-- 'hogsheadlaw20.ViewSplits', WHERE WHAT IT READS IS OF BULK AT MOST 1048576: true; the input reads as it did. -/
def viewSplitsUptoRow : OpenClaim := { program := "ythbdbgjggoobnaadoor", sum := "7dd88e16cda230a288e3357aff8e0815d9d94af4dda26df65da73cf07dd5c201", func := "hogshead/hogsheadlaw20.ViewSplits", spec := "viewSplits", inPlace := ["internal/bytealg.CountString", "internal/bytealg.IndexByteString", "internal/bytealg.IndexString"], unfollowed := true, recurses := true, named := ["unicode/utf8.first", "unicode/utf8.acceptRanges", "internal/bytealg.MaxLen"], apart := false, laid := [("unicode/utf8.acceptRanges", laid_unicode_utf8_acceptRanges), ("unicode/utf8.first", laid_unicode_utf8_first)], narrowed := true }
def ViewSplitsUptoSaid : Prop := viewSplitsUptoRow.holds Tryd.pinned (OpenSpec.upto viewSplitsSpec)

/-- 'hogsheadlaw20.ViewWalks', WHERE WHAT IT READS IS OF BULK AT MOST 1048576: true; the input reads as it did. -/
def viewWalksUptoRow : OpenClaim := { program := "ythbdbgjggoobnaadoor", sum := "7dd88e16cda230a288e3357aff8e0815d9d94af4dda26df65da73cf07dd5c201", func := "hogshead/hogsheadlaw20.ViewWalks", spec := "viewWalks", inPlace := ["internal/bytealg.CountString", "internal/bytealg.IndexByteString", "internal/bytealg.IndexString"], unfollowed := true, recurses := true, named := ["unicode/utf8.first", "unicode/utf8.acceptRanges", "internal/bytealg.MaxLen"], apart := false, laid := [("unicode/utf8.acceptRanges", laid_unicode_utf8_acceptRanges), ("unicode/utf8.first", laid_unicode_utf8_first)], narrowed := true }
def ViewWalksUptoSaid : Prop := viewWalksUptoRow.holds Tryd.pinned (OpenSpec.upto viewWalksSpec)

/-- 'hogsheadlaw20.ViewNone', WHERE WHAT IT READS IS OF BULK AT MOST 1048576: true; the input reads as it did. -/
def viewNoneUptoRow : OpenClaim := { program := "ythbdbgjggoobnaadoor", sum := "7dd88e16cda230a288e3357aff8e0815d9d94af4dda26df65da73cf07dd5c201", func := "hogshead/hogsheadlaw20.ViewNone", spec := "viewNone", inPlace := ["internal/bytealg.CountString", "internal/bytealg.IndexByteString", "internal/bytealg.IndexString"], unfollowed := true, recurses := true, named := ["unicode/utf8.first", "unicode/utf8.acceptRanges", "internal/bytealg.MaxLen"], apart := false, laid := [("unicode/utf8.acceptRanges", laid_unicode_utf8_acceptRanges), ("unicode/utf8.first", laid_unicode_utf8_first)], narrowed := true }
def ViewNoneUptoSaid : Prop := viewNoneUptoRow.holds Tryd.pinned (OpenSpec.upto viewNoneSpec)

/-- 'hogsheadlaw20.ViewAnswers', WHERE WHAT IT READS IS OF BULK AT MOST 1048576: true; the input reads as it did. -/
def viewAnswersUptoRow : OpenClaim := { program := "ythbdbgjggoobnaadoor", sum := "7dd88e16cda230a288e3357aff8e0815d9d94af4dda26df65da73cf07dd5c201", func := "hogshead/hogsheadlaw20.ViewAnswers", spec := "viewAnswers", inPlace := ["internal/bytealg.CountString", "internal/bytealg.IndexByteString", "internal/bytealg.IndexString"], unfollowed := true, recurses := true, named := ["unicode/utf8.first", "unicode/utf8.acceptRanges", "internal/bytealg.MaxLen"], apart := false, laid := [("unicode/utf8.acceptRanges", laid_unicode_utf8_acceptRanges), ("unicode/utf8.first", laid_unicode_utf8_first)], narrowed := true }
def ViewAnswersUptoSaid : Prop := viewAnswersUptoRow.holds Tryd.pinned (OpenSpec.upto viewAnswersSpec)

end Rows
end Go.Proofs.YthbdbgjggoobnaaDoor
