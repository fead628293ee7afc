/-
  DERIVED. GIVEN WITH THE SEED: THE CARDS: each row of YtnbcmmgkdpekjaaDoorRows.lean that lists a variable, with what it lists TIED to the program's text (the seventh form; the later family's looks); each row that meets fmt, with fmt's text TOLD by the authors' own Lean function (tested against real Go, not proved from fmt's source: count such statements apart). THE CARD IS WHAT COUNTS. Prove the row's statement (the work); the ties are given (YtnbcmmgkdpekjaaDoorTie.lean); close each card by the builder's one call (the guide's Derived/Test/ToyasCard.lean, 'card_holds'). Laid BY PROGRAM, IN A SANDBOX (cutbox-door.mjs). By AI agents, Wed Nov 11 2026. No macro, syntax, notation, axiom, sorry.
-/
import Derived.Test.YtnbcmmgkdpekjaaDoorRows
import GoSem.ClaimSeven
namespace Go.Proofs.YtnbcmmgkdpekjaaDoor
namespace Rows

/-- THE TIED CARD OF 'hogsheadlaw7.ItemNames'. -/
def itemNamesCard : Claim7 := { stood := { row := itemNamesRow, standIns := [], harness := (true, "b200c24c9092ffb3db05f83a4d830141e2732033b29af694a94f5aff9047ec56"), looks := false }, kinds := [], alts := [], laidByText := true, laidKinds := [.data, .pinned], laidTests := true, laidLooks := .later }
def ItemNamesCardSaid : Prop := Claim7.holds Tryd.pinned (.plain (OpenSpec.ofChange itemNamesSpec)) itemNamesCard

/-- THE TIED CARD OF 'hogsheadlaw7.ItemHashes'. -/
def itemHashesCard : Claim7 := { stood := { row := itemHashesRow, standIns := [], harness := (true, "b200c24c9092ffb3db05f83a4d830141e2732033b29af694a94f5aff9047ec56"), looks := false }, kinds := [], alts := [], laidByText := true, laidKinds := [.data, .pinned], laidTests := true, laidLooks := .later }
def ItemHashesCardSaid : Prop := Claim7.holds Tryd.pinned (.plain (OpenSpec.ofChange itemHashesSpec)) itemHashesCard

/-- THE TIED CARD OF 'hogsheadlaw7.ItemTells'. -/
def itemTellsCard : Claim7 := { stood := { row := itemTellsRow, standIns := [], harness := (true, "b200c24c9092ffb3db05f83a4d830141e2732033b29af694a94f5aff9047ec56"), looks := false }, kinds := [], alts := [], laidByText := true, laidKinds := [.data, .pinned], laidTests := true, laidLooks := .later }
def ItemTellsCardSaid : Prop := Claim7.holds Tryd.pinned (.plain (OpenSpec.ofChange itemTellsSpec)) itemTellsCard

/-- THE TIED CARD OF 'hogsheadlaw7.ItemEdges'. -/
def itemEdgesCard : Claim7 := { stood := { row := itemEdgesRow, standIns := [], harness := (true, "b200c24c9092ffb3db05f83a4d830141e2732033b29af694a94f5aff9047ec56"), looks := false }, kinds := [], alts := [], laidByText := true, laidKinds := [.data, .pinned], laidTests := true, laidLooks := .later }
def ItemEdgesCardSaid : Prop := Claim7.holds Tryd.pinned (.plain (OpenSpec.ofChange itemEdgesSpec)) itemEdgesCard

/-- THE SECOND FORM's CARD OF 'hogsheadlaw7.ItemNames'. -/
def itemNamesUptoCard : Claim7 := { stood := { row := itemNamesUptoRow, standIns := [], harness := (true, "b200c24c9092ffb3db05f83a4d830141e2732033b29af694a94f5aff9047ec56"), looks := false }, kinds := [], alts := [], laidByText := true, laidKinds := [.data, .pinned], laidTests := true, laidLooks := .later }
def ItemNamesUptoCardSaid : Prop := Claim7.holds Tryd.pinned (.plain (OpenSpec.upto itemNamesSpec)) itemNamesUptoCard

/-- THE SECOND FORM's CARD OF 'hogsheadlaw7.ItemHashes'. -/
def itemHashesUptoCard : Claim7 := { stood := { row := itemHashesUptoRow, standIns := [], harness := (true, "b200c24c9092ffb3db05f83a4d830141e2732033b29af694a94f5aff9047ec56"), looks := false }, kinds := [], alts := [], laidByText := true, laidKinds := [.data, .pinned], laidTests := true, laidLooks := .later }
def ItemHashesUptoCardSaid : Prop := Claim7.holds Tryd.pinned (.plain (OpenSpec.upto itemHashesSpec)) itemHashesUptoCard

/-- THE SECOND FORM's CARD OF 'hogsheadlaw7.ItemTells'. -/
def itemTellsUptoCard : Claim7 := { stood := { row := itemTellsUptoRow, standIns := [], harness := (true, "b200c24c9092ffb3db05f83a4d830141e2732033b29af694a94f5aff9047ec56"), looks := false }, kinds := [], alts := [], laidByText := true, laidKinds := [.data, .pinned], laidTests := true, laidLooks := .later }
def ItemTellsUptoCardSaid : Prop := Claim7.holds Tryd.pinned (.plain (OpenSpec.upto itemTellsSpec)) itemTellsUptoCard

/-- THE SECOND FORM's CARD OF 'hogsheadlaw7.ItemEdges'. -/
def itemEdgesUptoCard : Claim7 := { stood := { row := itemEdgesUptoRow, standIns := [], harness := (true, "b200c24c9092ffb3db05f83a4d830141e2732033b29af694a94f5aff9047ec56"), looks := false }, kinds := [], alts := [], laidByText := true, laidKinds := [.data, .pinned], laidTests := true, laidLooks := .later }
def ItemEdgesUptoCardSaid : Prop := Claim7.holds Tryd.pinned (.plain (OpenSpec.upto itemEdgesSpec)) itemEdgesUptoCard
end Rows
end Go.Proofs.YtnbcmmgkdpekjaaDoor
