/-
  DERIVED. GIVEN WITH THE SEED: THE CARDS: each row of YtpnfhnkjlcjdoaaDoorRows.lean that lists a variable, with what it lists TIED to the program's text (the seventh form; the later family's looks); each row that meets fmt, with fmt's text TOLD by the authors' own Lean function (tested against real Go, not proved from fmt's source: count such statements apart). THE CARD IS WHAT COUNTS. Prove the row's statement (the work); the ties are given (YtpnfhnkjlcjdoaaDoorTie.lean); close each card by the builder's one call (the guide's Derived/Test/ToyasCard.lean, 'card_holds'). Laid BY PROGRAM, IN A SANDBOX (cutbox-door.mjs). By AI agents, Wed Nov 11 2026. No macro, syntax, notation, axiom, sorry.
-/
import Derived.Test.YtpnfhnkjlcjdoaaDoorRows
import GoSem.ClaimSeven
namespace Go.Proofs.YtpnfhnkjlcjdoaaDoor
namespace Rows

/-- THE TIED CARD OF 'hogsheadlaw2.TreeRoom'. -/
def treeRoomCard : Claim7 := { stood := { row := treeRoomRow, standIns := [], harness := (true, "169a3b70865fa6d8d01a45f9785012104fc72f801659b505ea8d5fab3a054bdc"), looks := false }, kinds := [], alts := [], laidByText := true, laidKinds := [.data, .pinned], laidTests := true, laidLooks := .later }
def TreeRoomCardSaid : Prop := Claim7.holds Tryd.pinned (.plain (OpenSpec.ofChange treeRoomSpec)) treeRoomCard

/-- THE TIED CARD OF 'hogsheadlaw2.TreeFilters'. -/
def treeFiltersCard : Claim7 := { stood := { row := treeFiltersRow, standIns := [], harness := (true, "169a3b70865fa6d8d01a45f9785012104fc72f801659b505ea8d5fab3a054bdc"), looks := false }, kinds := [], alts := [], laidByText := true, laidKinds := [.data, .pinned], laidTests := true, laidLooks := .later }
def TreeFiltersCardSaid : Prop := Claim7.holds Tryd.pinned (.plain (OpenSpec.ofChange treeFiltersSpec)) treeFiltersCard

/-- THE SECOND FORM's CARD OF 'hogsheadlaw2.TreeRoom'. -/
def treeRoomUptoCard : Claim7 := { stood := { row := treeRoomUptoRow, standIns := [], harness := (true, "169a3b70865fa6d8d01a45f9785012104fc72f801659b505ea8d5fab3a054bdc"), looks := false }, kinds := [], alts := [], laidByText := true, laidKinds := [.data, .pinned], laidTests := true, laidLooks := .later }
def TreeRoomUptoCardSaid : Prop := Claim7.holds Tryd.pinned (.plain (OpenSpec.upto treeRoomSpec)) treeRoomUptoCard

/-- THE SECOND FORM's CARD OF 'hogsheadlaw2.TreeFilters'. -/
def treeFiltersUptoCard : Claim7 := { stood := { row := treeFiltersUptoRow, standIns := [], harness := (true, "169a3b70865fa6d8d01a45f9785012104fc72f801659b505ea8d5fab3a054bdc"), looks := false }, kinds := [], alts := [], laidByText := true, laidKinds := [.data, .pinned], laidTests := true, laidLooks := .later }
def TreeFiltersUptoCardSaid : Prop := Claim7.holds Tryd.pinned (.plain (OpenSpec.upto treeFiltersSpec)) treeFiltersUptoCard
end Rows
end Go.Proofs.YtpnfhnkjlcjdoaaDoor
