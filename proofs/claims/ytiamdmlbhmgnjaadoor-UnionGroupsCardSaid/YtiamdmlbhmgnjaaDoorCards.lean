/-
  DERIVED. GIVEN WITH THE SEED: THE CARDS: each row of YtiamdmlbhmgnjaaDoorRows.lean that lists a variable, with what it lists TIED to the program's text (the seventh form; the later family's looks); each row that meets fmt, with fmt's text TOLD by the authors' own Lean function (tested against real Go, not proved from fmt's source: count such statements apart). THE CARD IS WHAT COUNTS. Prove the row's statement (the work); the ties are given (YtiamdmlbhmgnjaaDoorTie.lean); close each card by the builder's one call (the guide's Derived/Test/ToyasCard.lean, 'card_holds'). Laid BY PROGRAM, IN A SANDBOX (cutbox-door.mjs). By AI agents, Wed Nov 11 2026. No macro, syntax, notation, axiom, sorry.
-/
import Derived.Test.YtiamdmlbhmgnjaaDoorRows
import GoSem.ClaimSeven
namespace Go.Proofs.YtiamdmlbhmgnjaaDoor
namespace Rows

/-- THE TIED CARD OF 'hogsheadlaw4.UnionTells'. -/
def unionTellsCard : Claim7 := { stood := { row := unionTellsRow, standIns := [], harness := (true, "4df70d09156229ba2339da50408d26d9d7935eea828e59f4034c9d08363399b8"), looks := false }, kinds := [], alts := [], laidByText := true, laidKinds := [.data, .pinned], laidTests := true, laidLooks := .later }
def UnionTellsCardSaid : Prop := Claim7.holds Tryd.pinned (.plain (OpenSpec.ofChange unionTellsSpec)) unionTellsCard

/-- THE TIED CARD OF 'hogsheadlaw4.UnionGroups'. -/
def unionGroupsCard : Claim7 := { stood := { row := unionGroupsRow, standIns := [], harness := (true, "4df70d09156229ba2339da50408d26d9d7935eea828e59f4034c9d08363399b8"), looks := false }, kinds := [], alts := [], laidByText := true, laidKinds := [.data, .pinned], laidTests := true, laidLooks := .later }
def UnionGroupsCardSaid : Prop := Claim7.holds Tryd.pinned (.plain (OpenSpec.ofChange unionGroupsSpec)) unionGroupsCard

/-- THE TIED CARD OF 'hogsheadlaw4.UnionOrder'. -/
def unionOrderCard : Claim7 := { stood := { row := unionOrderRow, standIns := [], harness := (true, "4df70d09156229ba2339da50408d26d9d7935eea828e59f4034c9d08363399b8"), looks := false }, kinds := [], alts := [], laidByText := true, laidKinds := [.data, .pinned], laidTests := true, laidLooks := .later }
def UnionOrderCardSaid : Prop := Claim7.holds Tryd.pinned (.plain (OpenSpec.ofChange unionOrderSpec)) unionOrderCard

/-- THE TIED CARD OF 'hogsheadlaw4.UnionFirst'. -/
def unionFirstCard : Claim7 := { stood := { row := unionFirstRow, standIns := [], harness := (true, "4df70d09156229ba2339da50408d26d9d7935eea828e59f4034c9d08363399b8"), looks := false }, kinds := [], alts := [], laidByText := true, laidKinds := [.data, .pinned], laidTests := true, laidLooks := .later }
def UnionFirstCardSaid : Prop := Claim7.holds Tryd.pinned (.plain (OpenSpec.ofChange unionFirstSpec)) unionFirstCard

/-- THE SECOND FORM's CARD OF 'hogsheadlaw4.UnionTells'. -/
def unionTellsUptoCard : Claim7 := { stood := { row := unionTellsUptoRow, standIns := [], harness := (true, "4df70d09156229ba2339da50408d26d9d7935eea828e59f4034c9d08363399b8"), looks := false }, kinds := [], alts := [], laidByText := true, laidKinds := [.data, .pinned], laidTests := true, laidLooks := .later }
def UnionTellsUptoCardSaid : Prop := Claim7.holds Tryd.pinned (.plain (OpenSpec.upto unionTellsSpec)) unionTellsUptoCard

/-- THE SECOND FORM's CARD OF 'hogsheadlaw4.UnionGroups'. -/
def unionGroupsUptoCard : Claim7 := { stood := { row := unionGroupsUptoRow, standIns := [], harness := (true, "4df70d09156229ba2339da50408d26d9d7935eea828e59f4034c9d08363399b8"), looks := false }, kinds := [], alts := [], laidByText := true, laidKinds := [.data, .pinned], laidTests := true, laidLooks := .later }
def UnionGroupsUptoCardSaid : Prop := Claim7.holds Tryd.pinned (.plain (OpenSpec.upto unionGroupsSpec)) unionGroupsUptoCard

/-- THE SECOND FORM's CARD OF 'hogsheadlaw4.UnionOrder'. -/
def unionOrderUptoCard : Claim7 := { stood := { row := unionOrderUptoRow, standIns := [], harness := (true, "4df70d09156229ba2339da50408d26d9d7935eea828e59f4034c9d08363399b8"), looks := false }, kinds := [], alts := [], laidByText := true, laidKinds := [.data, .pinned], laidTests := true, laidLooks := .later }
def UnionOrderUptoCardSaid : Prop := Claim7.holds Tryd.pinned (.plain (OpenSpec.upto unionOrderSpec)) unionOrderUptoCard

/-- THE SECOND FORM's CARD OF 'hogsheadlaw4.UnionFirst'. -/
def unionFirstUptoCard : Claim7 := { stood := { row := unionFirstUptoRow, standIns := [], harness := (true, "4df70d09156229ba2339da50408d26d9d7935eea828e59f4034c9d08363399b8"), looks := false }, kinds := [], alts := [], laidByText := true, laidKinds := [.data, .pinned], laidTests := true, laidLooks := .later }
def UnionFirstUptoCardSaid : Prop := Claim7.holds Tryd.pinned (.plain (OpenSpec.upto unionFirstSpec)) unionFirstUptoCard
end Rows
end Go.Proofs.YtiamdmlbhmgnjaaDoor
