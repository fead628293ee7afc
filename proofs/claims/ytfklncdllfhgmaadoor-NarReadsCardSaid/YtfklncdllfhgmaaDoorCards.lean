/-
  DERIVED. GIVEN WITH THE SEED: THE CARDS: each row of YtfklncdllfhgmaaDoorRows.lean that lists a variable, with what it lists TIED to the program's text (the seventh form; the later family's looks); each row that meets fmt, with fmt's text TOLD by the authors' own Lean function (tested against real Go, not proved from fmt's source: count such statements apart). THE CARD IS WHAT COUNTS. Prove the row's statement (the work); the ties are given (YtfklncdllfhgmaaDoorTie.lean); close each card by the builder's one call (the guide's Derived/Test/ToyasCard.lean, 'card_holds'). Laid BY PROGRAM, IN A SANDBOX (cutbox-door.mjs). By AI agents, Wed Nov 11 2026. No macro, syntax, notation, axiom, sorry.
-/
import Derived.Test.YtfklncdllfhgmaaDoorRows
import GoSem.ClaimSeven
namespace Go.Proofs.YtfklncdllfhgmaaDoor
namespace Rows

/-- THE TIED CARD OF 'hogsheadlaw5.NarLays'. -/
def narLaysCard : Claim7 := { stood := { row := narLaysRow, standIns := [], harness := (true, "56ba3d4852868ac6c11dcd1bcaaf796b2210a4b9dfae880e646813e81f495a20"), looks := false }, kinds := [], alts := [], laidByText := true, laidKinds := [.data, .pinned], laidTests := true, laidLooks := .later }
def NarLaysCardSaid : Prop := Claim7.holds Tryd.pinned (.plain (OpenSpec.ofChange narLaysSpec)) narLaysCard

/-- THE TIED CARD OF 'hogsheadlaw5.NarReads'. -/
def narReadsCard : Claim7 := { stood := { row := narReadsRow, standIns := [], harness := (true, "56ba3d4852868ac6c11dcd1bcaaf796b2210a4b9dfae880e646813e81f495a20"), looks := false }, kinds := [], alts := [], laidByText := true, laidKinds := [.data, .pinned], laidTests := true, laidLooks := .later }
def NarReadsCardSaid : Prop := Claim7.holds Tryd.pinned (.plain (OpenSpec.ofChange narReadsSpec)) narReadsCard

/-- THE TIED CARD OF 'hogsheadlaw5.NarBack'. -/
def narBackCard : Claim7 := { stood := { row := narBackRow, standIns := [], harness := (true, "56ba3d4852868ac6c11dcd1bcaaf796b2210a4b9dfae880e646813e81f495a20"), looks := false }, kinds := [], alts := [], laidByText := true, laidKinds := [.data, .pinned], laidTests := true, laidLooks := .later }
def NarBackCardSaid : Prop := Claim7.holds Tryd.pinned (.plain (OpenSpec.ofChange narBackSpec)) narBackCard

/-- THE TIED CARD OF 'hogsheadlaw5.NarUnlike'. -/
def narUnlikeCard : Claim7 := { stood := { row := narUnlikeRow, standIns := [], harness := (true, "56ba3d4852868ac6c11dcd1bcaaf796b2210a4b9dfae880e646813e81f495a20"), looks := false }, kinds := [], alts := [], laidByText := true, laidKinds := [.data, .pinned], laidTests := true, laidLooks := .later }
def NarUnlikeCardSaid : Prop := Claim7.holds Tryd.pinned (.plain (OpenSpec.ofChange narUnlikeSpec)) narUnlikeCard

/-- THE TIED CARD OF 'hogsheadlaw5.NarSizes'. -/
def narSizesCard : Claim7 := { stood := { row := narSizesRow, standIns := [], harness := (true, "56ba3d4852868ac6c11dcd1bcaaf796b2210a4b9dfae880e646813e81f495a20"), looks := false }, kinds := [], alts := [], laidByText := true, laidKinds := [.data, .pinned], laidTests := true, laidLooks := .later }
def NarSizesCardSaid : Prop := Claim7.holds Tryd.pinned (.plain (OpenSpec.ofChange narSizesSpec)) narSizesCard

/-- THE SECOND FORM's CARD OF 'hogsheadlaw5.NarLays'. -/
def narLaysUptoCard : Claim7 := { stood := { row := narLaysUptoRow, standIns := [], harness := (true, "56ba3d4852868ac6c11dcd1bcaaf796b2210a4b9dfae880e646813e81f495a20"), looks := false }, kinds := [], alts := [], laidByText := true, laidKinds := [.data, .pinned], laidTests := true, laidLooks := .later }
def NarLaysUptoCardSaid : Prop := Claim7.holds Tryd.pinned (.plain (OpenSpec.upto narLaysSpec)) narLaysUptoCard

/-- THE SECOND FORM's CARD OF 'hogsheadlaw5.NarReads'. -/
def narReadsUptoCard : Claim7 := { stood := { row := narReadsUptoRow, standIns := [], harness := (true, "56ba3d4852868ac6c11dcd1bcaaf796b2210a4b9dfae880e646813e81f495a20"), looks := false }, kinds := [], alts := [], laidByText := true, laidKinds := [.data, .pinned], laidTests := true, laidLooks := .later }
def NarReadsUptoCardSaid : Prop := Claim7.holds Tryd.pinned (.plain (OpenSpec.upto narReadsSpec)) narReadsUptoCard

/-- THE SECOND FORM's CARD OF 'hogsheadlaw5.NarBack'. -/
def narBackUptoCard : Claim7 := { stood := { row := narBackUptoRow, standIns := [], harness := (true, "56ba3d4852868ac6c11dcd1bcaaf796b2210a4b9dfae880e646813e81f495a20"), looks := false }, kinds := [], alts := [], laidByText := true, laidKinds := [.data, .pinned], laidTests := true, laidLooks := .later }
def NarBackUptoCardSaid : Prop := Claim7.holds Tryd.pinned (.plain (OpenSpec.upto narBackSpec)) narBackUptoCard

/-- THE SECOND FORM's CARD OF 'hogsheadlaw5.NarUnlike'. -/
def narUnlikeUptoCard : Claim7 := { stood := { row := narUnlikeUptoRow, standIns := [], harness := (true, "56ba3d4852868ac6c11dcd1bcaaf796b2210a4b9dfae880e646813e81f495a20"), looks := false }, kinds := [], alts := [], laidByText := true, laidKinds := [.data, .pinned], laidTests := true, laidLooks := .later }
def NarUnlikeUptoCardSaid : Prop := Claim7.holds Tryd.pinned (.plain (OpenSpec.upto narUnlikeSpec)) narUnlikeUptoCard

/-- THE SECOND FORM's CARD OF 'hogsheadlaw5.NarSizes'. -/
def narSizesUptoCard : Claim7 := { stood := { row := narSizesUptoRow, standIns := [], harness := (true, "56ba3d4852868ac6c11dcd1bcaaf796b2210a4b9dfae880e646813e81f495a20"), looks := false }, kinds := [], alts := [], laidByText := true, laidKinds := [.data, .pinned], laidTests := true, laidLooks := .later }
def NarSizesUptoCardSaid : Prop := Claim7.holds Tryd.pinned (.plain (OpenSpec.upto narSizesSpec)) narSizesUptoCard
end Rows
end Go.Proofs.YtfklncdllfhgmaaDoor
