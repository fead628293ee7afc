/-
  DERIVED. GIVEN WITH THE SEED: THE CARDS: each row of YtdclcekojmklnaaDoorRows.lean that lists a variable, with what it lists TIED to the program's text (the seventh form; the later family's looks); each row that meets fmt, with fmt's text TOLD by the authors' own Lean function (tested against real Go, not proved from fmt's source: count such statements apart). THE CARD IS WHAT COUNTS. Prove the row's statement (the work); the ties are given (YtdclcekojmklnaaDoorTie.lean); close each card by the builder's one call (the guide's Derived/Test/ToyasCard.lean, 'card_holds'). Laid BY PROGRAM, IN A SANDBOX (cutbox-door.mjs). By AI agents, Wed Nov 11 2026. No macro, syntax, notation, axiom, sorry.
-/
import Derived.Test.YtdclcekojmklnaaDoorRows
import GoSem.ClaimSeven
namespace Go.Proofs.YtdclcekojmklnaaDoor
namespace Rows

/-- THE TIED CARD OF 'hogsheadlaw2.TreeRoom'. -/
def treeRoomCard : Claim7 := { stood := { row := treeRoomRow, standIns := [], harness := (true, "e738ea64a7c6590152a23e2ebf2f60e47636eca7847e185346c6abf5152b7edd"), looks := false }, kinds := [], alts := [], laidByText := true, laidKinds := [.data, .pinned], laidTests := true, laidLooks := .later }
def TreeRoomCardSaid : Prop := Claim7.holds Tryd.pinned (.plain (OpenSpec.ofChange treeRoomSpec)) treeRoomCard

/-- THE TIED CARD OF 'hogsheadlaw2.TreeFilters'. -/
def treeFiltersCard : Claim7 := { stood := { row := treeFiltersRow, standIns := [], harness := (true, "e738ea64a7c6590152a23e2ebf2f60e47636eca7847e185346c6abf5152b7edd"), looks := false }, kinds := [], alts := [], laidByText := true, laidKinds := [.data, .pinned], laidTests := true, laidLooks := .later }
def TreeFiltersCardSaid : Prop := Claim7.holds Tryd.pinned (.plain (OpenSpec.ofChange treeFiltersSpec)) treeFiltersCard

/-- THE TIED CARD OF 'hogsheadlaw2.TreeCuts'. -/
def treeCutsCard : Claim7 := { stood := { row := treeCutsRow, standIns := [], harness := (true, "e738ea64a7c6590152a23e2ebf2f60e47636eca7847e185346c6abf5152b7edd"), looks := false }, kinds := [], alts := [], laidByText := true, laidKinds := [.data, .pinned], laidTests := true, laidLooks := .later }
def TreeCutsCardSaid : Prop := Claim7.holds Tryd.pinned (.plain (OpenSpec.ofChange treeCutsSpec)) treeCutsCard

/-- THE TIED CARD OF 'hogsheadlaw2.TreeTells'. -/
def treeTellsCard : Claim7 := { stood := { row := treeTellsRow, standIns := [], harness := (true, "e738ea64a7c6590152a23e2ebf2f60e47636eca7847e185346c6abf5152b7edd"), looks := false }, kinds := [], alts := [], laidByText := true, laidKinds := [.data, .pinned], laidTests := true, laidLooks := .later }
def TreeTellsCardSaid : Prop := Claim7.holds Tryd.pinned (.plain (OpenSpec.ofChange treeTellsSpec)) treeTellsCard

/-- THE SECOND FORM's CARD OF 'hogsheadlaw2.TreeRoom'. -/
def treeRoomUptoCard : Claim7 := { stood := { row := treeRoomUptoRow, standIns := [], harness := (true, "e738ea64a7c6590152a23e2ebf2f60e47636eca7847e185346c6abf5152b7edd"), looks := false }, kinds := [], alts := [], laidByText := true, laidKinds := [.data, .pinned], laidTests := true, laidLooks := .later }
def TreeRoomUptoCardSaid : Prop := Claim7.holds Tryd.pinned (.plain (OpenSpec.upto treeRoomSpec)) treeRoomUptoCard

/-- THE SECOND FORM's CARD OF 'hogsheadlaw2.TreeFilters'. -/
def treeFiltersUptoCard : Claim7 := { stood := { row := treeFiltersUptoRow, standIns := [], harness := (true, "e738ea64a7c6590152a23e2ebf2f60e47636eca7847e185346c6abf5152b7edd"), looks := false }, kinds := [], alts := [], laidByText := true, laidKinds := [.data, .pinned], laidTests := true, laidLooks := .later }
def TreeFiltersUptoCardSaid : Prop := Claim7.holds Tryd.pinned (.plain (OpenSpec.upto treeFiltersSpec)) treeFiltersUptoCard

/-- THE SECOND FORM's CARD OF 'hogsheadlaw2.TreeCuts'. -/
def treeCutsUptoCard : Claim7 := { stood := { row := treeCutsUptoRow, standIns := [], harness := (true, "e738ea64a7c6590152a23e2ebf2f60e47636eca7847e185346c6abf5152b7edd"), looks := false }, kinds := [], alts := [], laidByText := true, laidKinds := [.data, .pinned], laidTests := true, laidLooks := .later }
def TreeCutsUptoCardSaid : Prop := Claim7.holds Tryd.pinned (.plain (OpenSpec.upto treeCutsSpec)) treeCutsUptoCard

/-- THE SECOND FORM's CARD OF 'hogsheadlaw2.TreeTells'. -/
def treeTellsUptoCard : Claim7 := { stood := { row := treeTellsUptoRow, standIns := [], harness := (true, "e738ea64a7c6590152a23e2ebf2f60e47636eca7847e185346c6abf5152b7edd"), looks := false }, kinds := [], alts := [], laidByText := true, laidKinds := [.data, .pinned], laidTests := true, laidLooks := .later }
def TreeTellsUptoCardSaid : Prop := Claim7.holds Tryd.pinned (.plain (OpenSpec.upto treeTellsSpec)) treeTellsUptoCard
end Rows
end Go.Proofs.YtdclcekojmklnaaDoor
