/-
  DERIVED. GIVEN WITH THE SEED: THE CARDS: each row of YthbdbgjggoobnaaDoorRows.lean that lists a variable, with what it lists TIED to the program's text (the seventh form; the later family's looks); each row that meets fmt, with fmt's text TOLD by the authors' own Lean function (tested against real Go, not proved from fmt's source: count such statements apart). THE CARD IS WHAT COUNTS. Prove the row's statement (the work); the ties are given (YthbdbgjggoobnaaDoorTie.lean); close each card by the builder's one call (the guide's Derived/Test/ToyasCard.lean, 'card_holds'). Laid BY PROGRAM, IN A SANDBOX (cutbox-door.mjs). By AI agents, Wed Nov 11 2026. No macro, syntax, notation, axiom, sorry.
-/
import Derived.Test.YthbdbgjggoobnaaDoorRows
import GoSem.ClaimSeven
namespace Go.Proofs.YthbdbgjggoobnaaDoor
namespace Rows

/-- THE TIED CARD OF 'hogsheadlaw20.ViewRanges'. -/
def viewRangesCard : Claim7 := { stood := { row := viewRangesRow, standIns := [], harness := (true, "6b22985c497ad09a7a1db044bef7dc03302d4d605f735180aac6cd3abc98c23e"), looks := false }, kinds := [], alts := [], laidByText := true, laidKinds := [.data, .pinned], laidTests := true, laidLooks := .later }
def ViewRangesCardSaid : Prop := Claim7.holds Tryd.pinned (.plain (OpenSpec.ofChange viewRangesSpec)) viewRangesCard

/-- THE TIED CARD OF 'hogsheadlaw20.ViewTurned'. -/
def viewTurnedCard : Claim7 := { stood := { row := viewTurnedRow, standIns := [], harness := (true, "6b22985c497ad09a7a1db044bef7dc03302d4d605f735180aac6cd3abc98c23e"), looks := false }, kinds := [], alts := [], laidByText := true, laidKinds := [.data, .pinned], laidTests := true, laidLooks := .later }
def ViewTurnedCardSaid : Prop := Claim7.holds Tryd.pinned (.plain (OpenSpec.ofChange viewTurnedSpec)) viewTurnedCard

/-- THE TIED CARD OF 'hogsheadlaw20.ViewSplits'. -/
def viewSplitsCard : Claim7 := { stood := { row := viewSplitsRow, standIns := [], harness := (true, "6b22985c497ad09a7a1db044bef7dc03302d4d605f735180aac6cd3abc98c23e"), looks := false }, kinds := [], alts := [], laidByText := true, laidKinds := [.data, .pinned], laidTests := true, laidLooks := .later }
def ViewSplitsCardSaid : Prop := Claim7.holds Tryd.pinned (.plain (OpenSpec.ofChange viewSplitsSpec)) viewSplitsCard

/-- THE TIED CARD OF 'hogsheadlaw20.ViewWalks'. -/
def viewWalksCard : Claim7 := { stood := { row := viewWalksRow, standIns := [], harness := (true, "6b22985c497ad09a7a1db044bef7dc03302d4d605f735180aac6cd3abc98c23e"), looks := false }, kinds := [], alts := [], laidByText := true, laidKinds := [.data, .pinned], laidTests := true, laidLooks := .later }
def ViewWalksCardSaid : Prop := Claim7.holds Tryd.pinned (.plain (OpenSpec.ofChange viewWalksSpec)) viewWalksCard

/-- THE TIED CARD OF 'hogsheadlaw20.ViewNone'. -/
def viewNoneCard : Claim7 := { stood := { row := viewNoneRow, standIns := [], harness := (true, "6b22985c497ad09a7a1db044bef7dc03302d4d605f735180aac6cd3abc98c23e"), looks := false }, kinds := [], alts := [], laidByText := true, laidKinds := [.data, .pinned], laidTests := true, laidLooks := .later }
def ViewNoneCardSaid : Prop := Claim7.holds Tryd.pinned (.plain (OpenSpec.ofChange viewNoneSpec)) viewNoneCard

/-- THE TIED CARD OF 'hogsheadlaw20.ViewAnswers'. -/
def viewAnswersCard : Claim7 := { stood := { row := viewAnswersRow, standIns := [], harness := (true, "6b22985c497ad09a7a1db044bef7dc03302d4d605f735180aac6cd3abc98c23e"), looks := false }, kinds := [], alts := [], laidByText := true, laidKinds := [.data, .pinned], laidTests := true, laidLooks := .later }
def ViewAnswersCardSaid : Prop := Claim7.holds Tryd.pinned (.plain (OpenSpec.ofChange viewAnswersSpec)) viewAnswersCard

/-- THE SECOND FORM's CARD OF 'hogsheadlaw20.ViewRanges'. -/
def viewRangesUptoCard : Claim7 := { stood := { row := viewRangesUptoRow, standIns := [], harness := (true, "6b22985c497ad09a7a1db044bef7dc03302d4d605f735180aac6cd3abc98c23e"), looks := false }, kinds := [], alts := [], laidByText := true, laidKinds := [.data, .pinned], laidTests := true, laidLooks := .later }
def ViewRangesUptoCardSaid : Prop := Claim7.holds Tryd.pinned (.plain (OpenSpec.upto viewRangesSpec)) viewRangesUptoCard

/-- THE SECOND FORM's CARD OF 'hogsheadlaw20.ViewTurned'. -/
def viewTurnedUptoCard : Claim7 := { stood := { row := viewTurnedUptoRow, standIns := [], harness := (true, "6b22985c497ad09a7a1db044bef7dc03302d4d605f735180aac6cd3abc98c23e"), looks := false }, kinds := [], alts := [], laidByText := true, laidKinds := [.data, .pinned], laidTests := true, laidLooks := .later }
def ViewTurnedUptoCardSaid : Prop := Claim7.holds Tryd.pinned (.plain (OpenSpec.upto viewTurnedSpec)) viewTurnedUptoCard

/-- THE SECOND FORM's CARD OF 'hogsheadlaw20.ViewSplits'. -/
def viewSplitsUptoCard : Claim7 := { stood := { row := viewSplitsUptoRow, standIns := [], harness := (true, "6b22985c497ad09a7a1db044bef7dc03302d4d605f735180aac6cd3abc98c23e"), looks := false }, kinds := [], alts := [], laidByText := true, laidKinds := [.data, .pinned], laidTests := true, laidLooks := .later }
def ViewSplitsUptoCardSaid : Prop := Claim7.holds Tryd.pinned (.plain (OpenSpec.upto viewSplitsSpec)) viewSplitsUptoCard

/-- THE SECOND FORM's CARD OF 'hogsheadlaw20.ViewWalks'. -/
def viewWalksUptoCard : Claim7 := { stood := { row := viewWalksUptoRow, standIns := [], harness := (true, "6b22985c497ad09a7a1db044bef7dc03302d4d605f735180aac6cd3abc98c23e"), looks := false }, kinds := [], alts := [], laidByText := true, laidKinds := [.data, .pinned], laidTests := true, laidLooks := .later }
def ViewWalksUptoCardSaid : Prop := Claim7.holds Tryd.pinned (.plain (OpenSpec.upto viewWalksSpec)) viewWalksUptoCard

/-- THE SECOND FORM's CARD OF 'hogsheadlaw20.ViewNone'. -/
def viewNoneUptoCard : Claim7 := { stood := { row := viewNoneUptoRow, standIns := [], harness := (true, "6b22985c497ad09a7a1db044bef7dc03302d4d605f735180aac6cd3abc98c23e"), looks := false }, kinds := [], alts := [], laidByText := true, laidKinds := [.data, .pinned], laidTests := true, laidLooks := .later }
def ViewNoneUptoCardSaid : Prop := Claim7.holds Tryd.pinned (.plain (OpenSpec.upto viewNoneSpec)) viewNoneUptoCard

/-- THE SECOND FORM's CARD OF 'hogsheadlaw20.ViewAnswers'. -/
def viewAnswersUptoCard : Claim7 := { stood := { row := viewAnswersUptoRow, standIns := [], harness := (true, "6b22985c497ad09a7a1db044bef7dc03302d4d605f735180aac6cd3abc98c23e"), looks := false }, kinds := [], alts := [], laidByText := true, laidKinds := [.data, .pinned], laidTests := true, laidLooks := .later }
def ViewAnswersUptoCardSaid : Prop := Claim7.holds Tryd.pinned (.plain (OpenSpec.upto viewAnswersSpec)) viewAnswersUptoCard
end Rows
end Go.Proofs.YthbdbgjggoobnaaDoor
