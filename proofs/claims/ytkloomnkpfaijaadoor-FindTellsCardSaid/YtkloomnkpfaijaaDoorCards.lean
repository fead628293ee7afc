/-
  DERIVED. GIVEN WITH THE SEED: THE CARDS: each row of YtkloomnkpfaijaaDoorRows.lean that lists a variable, with what it lists TIED to the program's text (the seventh form; the later family's looks); each row that meets fmt, with fmt's text TOLD by the authors' own Lean function (tested against real Go, not proved from fmt's source: count such statements apart). THE CARD IS WHAT COUNTS. Prove the row's statement (the work); the ties are given (YtkloomnkpfaijaaDoorTie.lean); close each card by the builder's one call (the guide's Derived/Test/ToyasCard.lean, 'card_holds'). Laid BY PROGRAM, IN A SANDBOX (cutbox-door.mjs). By AI agents, Wed Nov 11 2026. No macro, syntax, notation, axiom, sorry.
-/
import Derived.Test.YtkloomnkpfaijaaDoorRows
import GoSem.ClaimSeven
namespace Go.Proofs.YtkloomnkpfaijaaDoor
namespace Rows

/-- THE TIED CARD OF 'hogsheadlaw3.FindLists'. -/
def findListsCard : Claim7 := { stood := { row := findListsRow, standIns := [], harness := (true, "e81e10961811494be82b0e19c9702d75f7b4df7b135f2a375b79081423945347"), looks := false }, kinds := [], alts := [], laidByText := true, laidKinds := [.data, .pinned], laidTests := true, laidLooks := .later }
def FindListsCardSaid : Prop := Claim7.holds Tryd.pinned (.plain (OpenSpec.ofChange findListsSpec)) findListsCard

/-- THE TIED CARD OF 'hogsheadlaw3.FindDeep'. -/
def findDeepCard : Claim7 := { stood := { row := findDeepRow, standIns := [], harness := (true, "e81e10961811494be82b0e19c9702d75f7b4df7b135f2a375b79081423945347"), looks := false }, kinds := [], alts := [], laidByText := true, laidKinds := [.data, .pinned], laidTests := true, laidLooks := .later }
def FindDeepCardSaid : Prop := Claim7.holds Tryd.pinned (.plain (OpenSpec.ofChange findDeepSpec)) findDeepCard

/-- THE TIED CARD OF 'hogsheadlaw3.FindTells'. -/
def findTellsCard : Claim7 := { stood := { row := findTellsRow, standIns := [], harness := (true, "e81e10961811494be82b0e19c9702d75f7b4df7b135f2a375b79081423945347"), looks := false }, kinds := [], alts := [], laidByText := true, laidKinds := [.data, .pinned], laidTests := true, laidLooks := .later }
def FindTellsCardSaid : Prop := Claim7.holds Tryd.pinned (.plain (OpenSpec.ofChange findTellsSpec)) findTellsCard

/-- THE TIED CARD OF 'hogsheadlaw3.FindGrafts'. -/
def findGraftsCard : Claim7 := { stood := { row := findGraftsRow, standIns := [], harness := (true, "e81e10961811494be82b0e19c9702d75f7b4df7b135f2a375b79081423945347"), looks := false }, kinds := [], alts := [], laidByText := true, laidKinds := [.data, .pinned], laidTests := true, laidLooks := .later }
def FindGraftsCardSaid : Prop := Claim7.holds Tryd.pinned (.plain (OpenSpec.ofChange findGraftsSpec)) findGraftsCard

/-- THE SECOND FORM's CARD OF 'hogsheadlaw3.FindLists'. -/
def findListsUptoCard : Claim7 := { stood := { row := findListsUptoRow, standIns := [], harness := (true, "e81e10961811494be82b0e19c9702d75f7b4df7b135f2a375b79081423945347"), looks := false }, kinds := [], alts := [], laidByText := true, laidKinds := [.data, .pinned], laidTests := true, laidLooks := .later }
def FindListsUptoCardSaid : Prop := Claim7.holds Tryd.pinned (.plain (OpenSpec.upto findListsSpec)) findListsUptoCard

/-- THE SECOND FORM's CARD OF 'hogsheadlaw3.FindDeep'. -/
def findDeepUptoCard : Claim7 := { stood := { row := findDeepUptoRow, standIns := [], harness := (true, "e81e10961811494be82b0e19c9702d75f7b4df7b135f2a375b79081423945347"), looks := false }, kinds := [], alts := [], laidByText := true, laidKinds := [.data, .pinned], laidTests := true, laidLooks := .later }
def FindDeepUptoCardSaid : Prop := Claim7.holds Tryd.pinned (.plain (OpenSpec.upto findDeepSpec)) findDeepUptoCard

/-- THE SECOND FORM's CARD OF 'hogsheadlaw3.FindTells'. -/
def findTellsUptoCard : Claim7 := { stood := { row := findTellsUptoRow, standIns := [], harness := (true, "e81e10961811494be82b0e19c9702d75f7b4df7b135f2a375b79081423945347"), looks := false }, kinds := [], alts := [], laidByText := true, laidKinds := [.data, .pinned], laidTests := true, laidLooks := .later }
def FindTellsUptoCardSaid : Prop := Claim7.holds Tryd.pinned (.plain (OpenSpec.upto findTellsSpec)) findTellsUptoCard

/-- THE SECOND FORM's CARD OF 'hogsheadlaw3.FindGrafts'. -/
def findGraftsUptoCard : Claim7 := { stood := { row := findGraftsUptoRow, standIns := [], harness := (true, "e81e10961811494be82b0e19c9702d75f7b4df7b135f2a375b79081423945347"), looks := false }, kinds := [], alts := [], laidByText := true, laidKinds := [.data, .pinned], laidTests := true, laidLooks := .later }
def FindGraftsUptoCardSaid : Prop := Claim7.holds Tryd.pinned (.plain (OpenSpec.upto findGraftsSpec)) findGraftsUptoCard
end Rows
end Go.Proofs.YtkloomnkpfaijaaDoor
