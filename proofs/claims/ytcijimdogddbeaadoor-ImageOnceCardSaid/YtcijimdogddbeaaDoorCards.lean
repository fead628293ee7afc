/-
  DERIVED. GIVEN WITH THE SEED: THE CARDS: each row of YtcijimdogddbeaaDoorRows.lean that lists a variable, with what it lists TIED to the program's text (the seventh form; the later family's looks); each row that meets fmt, with fmt's text TOLD by the authors' own Lean function (tested against real Go, not proved from fmt's source: count such statements apart). THE CARD IS WHAT COUNTS. Prove the row's statement (the work); the ties are given (YtcijimdogddbeaaDoorTie.lean); close each card by the builder's one call (the guide's Derived/Test/ToyasCard.lean, 'card_holds'). Laid BY PROGRAM, IN A SANDBOX (cutbox-door.mjs). By AI agents, Wed Nov 11 2026. No macro, syntax, notation, axiom, sorry.
-/
import Derived.Test.YtcijimdogddbeaaDoorRows
import GoSem.ClaimSeven
namespace Go.Proofs.YtcijimdogddbeaaDoor
namespace Rows

/-- THE TIED CARD OF 'hogsheadlaw19.ImageLays'. -/
def imageLaysCard : Claim7 := { stood := { row := imageLaysRow, standIns := [], harness := (true, "256f5b0ede8b06e2a6b64d762cda482a35f212bb172ad7cf7f0a21d7fc44579a"), looks := false }, kinds := [], alts := [], laidByText := true, laidKinds := [.data, .pinned], laidTests := true, laidLooks := .later }
def ImageLaysCardSaid : Prop := Claim7.holds Tryd.pinned (.plain (OpenSpec.ofChange imageLaysSpec)) imageLaysCard

/-- THE TIED CARD OF 'hogsheadlaw19.ImageUnlike'. -/
def imageUnlikeCard : Claim7 := { stood := { row := imageUnlikeRow, standIns := [], harness := (true, "256f5b0ede8b06e2a6b64d762cda482a35f212bb172ad7cf7f0a21d7fc44579a"), looks := false }, kinds := [], alts := [], laidByText := true, laidKinds := [.data, .pinned], laidTests := true, laidLooks := .later }
def ImageUnlikeCardSaid : Prop := Claim7.holds Tryd.pinned (.plain (OpenSpec.ofChange imageUnlikeSpec)) imageUnlikeCard

/-- THE TIED CARD OF 'hogsheadlaw19.ImageOnce'. -/
def imageOnceCard : Claim7 := { stood := { row := imageOnceRow, standIns := [], harness := (true, "256f5b0ede8b06e2a6b64d762cda482a35f212bb172ad7cf7f0a21d7fc44579a"), looks := false }, kinds := [], alts := [], laidByText := true, laidKinds := [.data, .pinned], laidTests := true, laidLooks := .later }
def ImageOnceCardSaid : Prop := Claim7.holds Tryd.pinned (.plain (OpenSpec.ofChange imageOnceSpec)) imageOnceCard

/-- THE SECOND FORM's CARD OF 'hogsheadlaw19.ImageLays'. -/
def imageLaysUptoCard : Claim7 := { stood := { row := imageLaysUptoRow, standIns := [], harness := (true, "256f5b0ede8b06e2a6b64d762cda482a35f212bb172ad7cf7f0a21d7fc44579a"), looks := false }, kinds := [], alts := [], laidByText := true, laidKinds := [.data, .pinned], laidTests := true, laidLooks := .later }
def ImageLaysUptoCardSaid : Prop := Claim7.holds Tryd.pinned (.plain (OpenSpec.upto imageLaysSpec)) imageLaysUptoCard

/-- THE SECOND FORM's CARD OF 'hogsheadlaw19.ImageUnlike'. -/
def imageUnlikeUptoCard : Claim7 := { stood := { row := imageUnlikeUptoRow, standIns := [], harness := (true, "256f5b0ede8b06e2a6b64d762cda482a35f212bb172ad7cf7f0a21d7fc44579a"), looks := false }, kinds := [], alts := [], laidByText := true, laidKinds := [.data, .pinned], laidTests := true, laidLooks := .later }
def ImageUnlikeUptoCardSaid : Prop := Claim7.holds Tryd.pinned (.plain (OpenSpec.upto imageUnlikeSpec)) imageUnlikeUptoCard

/-- THE SECOND FORM's CARD OF 'hogsheadlaw19.ImageOnce'. -/
def imageOnceUptoCard : Claim7 := { stood := { row := imageOnceUptoRow, standIns := [], harness := (true, "256f5b0ede8b06e2a6b64d762cda482a35f212bb172ad7cf7f0a21d7fc44579a"), looks := false }, kinds := [], alts := [], laidByText := true, laidKinds := [.data, .pinned], laidTests := true, laidLooks := .later }
def ImageOnceUptoCardSaid : Prop := Claim7.holds Tryd.pinned (.plain (OpenSpec.upto imageOnceSpec)) imageOnceUptoCard
end Rows
end Go.Proofs.YtcijimdogddbeaaDoor
