/-
  NARROWER THAN 'FOR EVERY INPUT', by the rows' own cells (each row's printed sentence says how): UnionTells: laid · UnionGroups: laid · UnionOrder: laid · UnionFirst: laid.
  DERIVED. THE GIVEN ROWS OF THIS SEAT. 4 by the template 'for every input the law returns true; each argument reads behind the call as it read before'; 0 by the template 'total and deterministic' (their statements: YtiamdmlbhmgnjaaDoorTotals.lean).
  GIVEN WITH THE SEED: the statements are not yours to turn. If you find one false, say at which input.
  Laid BY PROGRAM, IN A SANDBOX (cutbox-rows.mjs): the forced cells as the released guide's own fill.sh prints them over the translation 5c720120b5dd8c48… (all of the seat's roots in one cut). By AI agents, Wed Nov 11 2026. No macro, syntax, notation, axiom, sorry.
-/
import Derived.Test.YtiamdmlbhmgnjaaDoorChecked
import GoSem.PinnedTables
import GoSem.Claim
import GoSem.ClaimJoined
import GoSem.ClaimMapViews
import Derived.JoinedTies
import Derived.KernelRfl
namespace Go.Proofs.YtiamdmlbhmgnjaaDoor
/- THE CELL 'sum', in the pinned program and in every row, IS THE sha256 OF THE DUMP (.gsa) THAT YtiamdmlbhmgnjaaDoorProg.lean LOADS. Nothing in Lean hashes anything: it is a label: what it is worth is what the hold of that sum in a sandbox is worth. -/
noncomputable def Tryd.pinned : Pinned := { name := "ytiamdmlbhmgnjaadoor", sum := "5c720120b5dd8c4855ecc4ecb4d64fd8a9b05d83b3b6c66e675e619e8c4fac5c", checked := Tryd.checked }
namespace Rows
def none {H : Type} : Left H := { results := [], args := [] }

/- WHAT THE LISTED PACKAGE-LEVEL VARIABLES READ AS WHEN THE CALL BEGINS. Each datum BY PROGRAM (the guide's laid-datum.mjs) off the statement by which the dump's own 'gosem.cut.vars' lays the variable. In a bare row this is a premise. The card (YtiamdmlbhmgnjaaDoorCards.lean) ties it to the program's text. -/
def laid_unicode_utf8_acceptRanges {H : Type} : DataW H := .agg [.agg [.lit (.int .u8 128), .lit (.int .u8 191)], .agg [.lit (.int .u8 160), .lit (.int .u8 191)], .agg [.lit (.int .u8 128), .lit (.int .u8 159)], .agg [.lit (.int .u8 144), .lit (.int .u8 191)], .agg [.lit (.int .u8 128), .lit (.int .u8 143)], .agg [.lit (.int .u8 0), .lit (.int .u8 0)], .agg [.lit (.int .u8 0), .lit (.int .u8 0)], .agg [.lit (.int .u8 0), .lit (.int .u8 0)], .agg [.lit (.int .u8 0), .lit (.int .u8 0)], .agg [.lit (.int .u8 0), .lit (.int .u8 0)], .agg [.lit (.int .u8 0), .lit (.int .u8 0)], .agg [.lit (.int .u8 0), .lit (.int .u8 0)], .agg [.lit (.int .u8 0), .lit (.int .u8 0)], .agg [.lit (.int .u8 0), .lit (.int .u8 0)], .agg [.lit (.int .u8 0), .lit (.int .u8 0)], .agg [.lit (.int .u8 0), .lit (.int .u8 0)]]
/-- One of Go's own tables, pinned by name: the form's constant. -/
def laid_unicode_utf8_first : DataW Unit := Go.Pinned.utf8First

/-- 'hogsheadlaw4.UnionTells': WHATEVER THE INPUT: true; the input reads as it did. -/
def unionTellsSpec : ChangeSpec := { name := "unionTells", fn := fun _ => fun
  | [d1, d2] => { results := [.lit (.bool true)], args := [d1, d2] }
  | _ => none }
def unionTellsRow : OpenClaim := { program := "ytiamdmlbhmgnjaadoor", sum := "5c720120b5dd8c4855ecc4ecb4d64fd8a9b05d83b3b6c66e675e619e8c4fac5c", func := "hogshead/hogsheadlaw4.UnionTells", spec := "unionTells", inPlace := ["internal/bytealg.CountString", "internal/bytealg.IndexByteString", "internal/bytealg.IndexString"], unfollowed := true, recurses := true, named := ["unicode/utf8.first", "unicode/utf8.acceptRanges", "internal/bytealg.MaxLen"], apart := false, laid := [("unicode/utf8.acceptRanges", laid_unicode_utf8_acceptRanges), ("unicode/utf8.first", laid_unicode_utf8_first)] }
def UnionTellsSaid : Prop := unionTellsRow.holds Tryd.pinned (OpenSpec.ofChange unionTellsSpec)

/-- ITS FALSE NEIGHBOUR: 'it returns false'. Refute it at one input. -/
def unionTellsWrong : ChangeSpec := { name := "unionTells", fn := fun _ => fun
  | [d1, d2] => { results := [.lit (.bool false)], args := [d1, d2] }
  | _ => none }
def UnionTellsWrongFalsely : Prop := unionTellsRow.holds Tryd.pinned (OpenSpec.ofChange unionTellsWrong)

/-- 'hogsheadlaw4.UnionGroups': WHATEVER THE INPUT: true; the input reads as it did. -/
def unionGroupsSpec : ChangeSpec := { name := "unionGroups", fn := fun _ => fun
  | [d1, d2, d3] => { results := [.lit (.bool true)], args := [d1, d2, d3] }
  | _ => none }
def unionGroupsRow : OpenClaim := { program := "ytiamdmlbhmgnjaadoor", sum := "5c720120b5dd8c4855ecc4ecb4d64fd8a9b05d83b3b6c66e675e619e8c4fac5c", func := "hogshead/hogsheadlaw4.UnionGroups", spec := "unionGroups", inPlace := ["internal/bytealg.CountString", "internal/bytealg.IndexByteString", "internal/bytealg.IndexString"], unfollowed := true, recurses := true, named := ["unicode/utf8.first", "unicode/utf8.acceptRanges", "internal/bytealg.MaxLen"], apart := false, laid := [("unicode/utf8.acceptRanges", laid_unicode_utf8_acceptRanges), ("unicode/utf8.first", laid_unicode_utf8_first)] }
def UnionGroupsSaid : Prop := unionGroupsRow.holds Tryd.pinned (OpenSpec.ofChange unionGroupsSpec)

/-- ITS FALSE NEIGHBOUR: 'it returns false'. Refute it at one input. -/
def unionGroupsWrong : ChangeSpec := { name := "unionGroups", fn := fun _ => fun
  | [d1, d2, d3] => { results := [.lit (.bool false)], args := [d1, d2, d3] }
  | _ => none }
def UnionGroupsWrongFalsely : Prop := unionGroupsRow.holds Tryd.pinned (OpenSpec.ofChange unionGroupsWrong)

/-- 'hogsheadlaw4.UnionOrder': WHATEVER THE INPUT: true; the input reads as it did. -/
def unionOrderSpec : ChangeSpec := { name := "unionOrder", fn := fun _ => fun
  | [d] => { results := [.lit (.bool true)], args := [d] }
  | _ => none }
def unionOrderRow : OpenClaim := { program := "ytiamdmlbhmgnjaadoor", sum := "5c720120b5dd8c4855ecc4ecb4d64fd8a9b05d83b3b6c66e675e619e8c4fac5c", func := "hogshead/hogsheadlaw4.UnionOrder", spec := "unionOrder", inPlace := ["internal/bytealg.CountString", "internal/bytealg.IndexByteString", "internal/bytealg.IndexString"], unfollowed := true, recurses := true, named := ["unicode/utf8.first", "unicode/utf8.acceptRanges", "internal/bytealg.MaxLen"], apart := false, laid := [("unicode/utf8.acceptRanges", laid_unicode_utf8_acceptRanges), ("unicode/utf8.first", laid_unicode_utf8_first)] }
def UnionOrderSaid : Prop := unionOrderRow.holds Tryd.pinned (OpenSpec.ofChange unionOrderSpec)

/-- ITS FALSE NEIGHBOUR: 'it returns false'. Refute it at one input. -/
def unionOrderWrong : ChangeSpec := { name := "unionOrder", fn := fun _ => fun
  | [d] => { results := [.lit (.bool false)], args := [d] }
  | _ => none }
def UnionOrderWrongFalsely : Prop := unionOrderRow.holds Tryd.pinned (OpenSpec.ofChange unionOrderWrong)

/-- 'hogsheadlaw4.UnionFirst': WHATEVER THE INPUT: true; the input reads as it did. -/
def unionFirstSpec : ChangeSpec := { name := "unionFirst", fn := fun _ => fun
  | [d] => { results := [.lit (.bool true)], args := [d] }
  | _ => none }
def unionFirstRow : OpenClaim := { program := "ytiamdmlbhmgnjaadoor", sum := "5c720120b5dd8c4855ecc4ecb4d64fd8a9b05d83b3b6c66e675e619e8c4fac5c", func := "hogshead/hogsheadlaw4.UnionFirst", spec := "unionFirst", inPlace := ["internal/bytealg.CountString", "internal/bytealg.IndexByteString", "internal/bytealg.IndexString"], unfollowed := true, recurses := true, named := ["unicode/utf8.first", "unicode/utf8.acceptRanges", "internal/bytealg.MaxLen"], apart := false, laid := [("unicode/utf8.acceptRanges", laid_unicode_utf8_acceptRanges), ("unicode/utf8.first", laid_unicode_utf8_first)] }
def UnionFirstSaid : Prop := unionFirstRow.holds Tryd.pinned (OpenSpec.ofChange unionFirstSpec)

/-- ITS FALSE NEIGHBOUR: 'it returns false'. Refute it at one input. -/
def unionFirstWrong : ChangeSpec := { name := "unionFirst", fn := fun _ => fun
  | [d] => { results := [.lit (.bool false)], args := [d] }
  | _ => none }
def UnionFirstWrongFalsely : Prop := unionFirstRow.holds Tryd.pinned (OpenSpec.ofChange unionFirstWrong)

/- THE SECOND FORM. 'bulk': how many values and letters a reading holds, each counted each time it is reached (what is shared counts as often as it is met; a slice's spare places count too). A statement '..UptoSaid' is the law's where the arguments, and the package variables that the reading takes, are together of bulk at most 1048576: NARROWER than '..Said'. Prove '..Said' where nothing that the law and all that it calls make is longer than what came in: it says more and counts as full. Else prove '..UptoSaid'. A law counts once. -/
mutual
def uptoBulk {H : Type} : DataW H → Nat
  | .lit (.string bytes) => bytes.length + 1
  | .lit _ => 1
  | .nil => 1
  | .ptr d => uptoBulk d + 1
  | .slice elems spare => uptoBulkAll elems + uptoBulkAll spare + 1
  | .agg parts => uptoBulkAll parts + 1
  | .iface _ d => uptoBulk d + 1
  | .map entries => uptoBulkEntries entries + 1
  | .held _ => 1
def uptoBulkAll {H : Type} : List (DataW H) → Nat
  | [] => 0
  | d :: r => uptoBulk d + uptoBulkAll r
def uptoBulkEntries {H : Type} : List (Lit × DataW H) → Nat
  | [] => 0
  | x :: r => uptoBulkEntry x + uptoBulkEntries r
def uptoBulkEntry {H : Type} : Lit × DataW H → Nat
  | (.string bytes, d) => bytes.length + uptoBulk d + 1
  | (_, d) => uptoBulk d + 1
 end
def uptoSmall : (H : Type) → List (DataW H) → Bool := fun _ ds => decide (uptoBulkAll ds ≤ 1048576)
def OpenSpec.upto (s : _root_.Go.ChangeSpec) : _root_.Go.OpenSpec := { _root_.Go.OpenSpec.ofChange s with cond := some uptoSmall }

/-- 'hogsheadlaw4.UnionTells', WHERE WHAT IT READS IS OF BULK AT MOST 1048576: true; the input reads as it did. -/
def unionTellsUptoRow : OpenClaim := { program := "ytiamdmlbhmgnjaadoor", sum := "5c720120b5dd8c4855ecc4ecb4d64fd8a9b05d83b3b6c66e675e619e8c4fac5c", func := "hogshead/hogsheadlaw4.UnionTells", spec := "unionTells", inPlace := ["internal/bytealg.CountString", "internal/bytealg.IndexByteString", "internal/bytealg.IndexString"], unfollowed := true, recurses := true, named := ["unicode/utf8.first", "unicode/utf8.acceptRanges", "internal/bytealg.MaxLen"], apart := false, laid := [("unicode/utf8.acceptRanges", laid_unicode_utf8_acceptRanges), ("unicode/utf8.first", laid_unicode_utf8_first)], narrowed := true }
def UnionTellsUptoSaid : Prop := unionTellsUptoRow.holds Tryd.pinned (OpenSpec.upto unionTellsSpec)

/-- 'hogsheadlaw4.UnionGroups', WHERE WHAT IT READS IS OF BULK AT MOST 1048576: true; the input reads as it did. -/
def unionGroupsUptoRow : OpenClaim := { program := "ytiamdmlbhmgnjaadoor", sum := "5c720120b5dd8c4855ecc4ecb4d64fd8a9b05d83b3b6c66e675e619e8c4fac5c", func := "hogshead/hogsheadlaw4.UnionGroups", spec := "unionGroups", inPlace := ["internal/bytealg.CountString", "internal/bytealg.IndexByteString", "internal/bytealg.IndexString"], unfollowed := true, recurses := true, named := ["unicode/utf8.first", "unicode/utf8.acceptRanges", "internal/bytealg.MaxLen"], apart := false, laid := [("unicode/utf8.acceptRanges", laid_unicode_utf8_acceptRanges), ("unicode/utf8.first", laid_unicode_utf8_first)], narrowed := true }
def UnionGroupsUptoSaid : Prop := unionGroupsUptoRow.holds Tryd.pinned (OpenSpec.upto unionGroupsSpec)

/-- 'hogsheadlaw4.UnionOrder', WHERE WHAT IT READS IS OF BULK AT MOST 1048576: true; the input reads as it did. -/
def unionOrderUptoRow : OpenClaim := { program := "ytiamdmlbhmgnjaadoor", sum := "5c720120b5dd8c4855ecc4ecb4d64fd8a9b05d83b3b6c66e675e619e8c4fac5c", func := "hogshead/hogsheadlaw4.UnionOrder", spec := "unionOrder", inPlace := ["internal/bytealg.CountString", "internal/bytealg.IndexByteString", "internal/bytealg.IndexString"], unfollowed := true, recurses := true, named := ["unicode/utf8.first", "unicode/utf8.acceptRanges", "internal/bytealg.MaxLen"], apart := false, laid := [("unicode/utf8.acceptRanges", laid_unicode_utf8_acceptRanges), ("unicode/utf8.first", laid_unicode_utf8_first)], narrowed := true }
def UnionOrderUptoSaid : Prop := unionOrderUptoRow.holds Tryd.pinned (OpenSpec.upto unionOrderSpec)

/-- 'hogsheadlaw4.UnionFirst', WHERE WHAT IT READS IS OF BULK AT MOST 1048576: true; the input reads as it did. -/
def unionFirstUptoRow : OpenClaim := { program := "ytiamdmlbhmgnjaadoor", sum := "5c720120b5dd8c4855ecc4ecb4d64fd8a9b05d83b3b6c66e675e619e8c4fac5c", func := "hogshead/hogsheadlaw4.UnionFirst", spec := "unionFirst", inPlace := ["internal/bytealg.CountString", "internal/bytealg.IndexByteString", "internal/bytealg.IndexString"], unfollowed := true, recurses := true, named := ["unicode/utf8.first", "unicode/utf8.acceptRanges", "internal/bytealg.MaxLen"], apart := false, laid := [("unicode/utf8.acceptRanges", laid_unicode_utf8_acceptRanges), ("unicode/utf8.first", laid_unicode_utf8_first)], narrowed := true }
def UnionFirstUptoSaid : Prop := unionFirstUptoRow.holds Tryd.pinned (OpenSpec.upto unionFirstSpec)

end Rows
end Go.Proofs.YtiamdmlbhmgnjaaDoor
