/-
  NARROWER THAN 'FOR EVERY INPUT', by the rows' own cells (each row's printed sentence says how): NarLays: laid · NarReads: laid · NarBack: laid · NarUnlike: laid · NarSizes: laid.
  DERIVED. THE GIVEN ROWS OF THIS SEAT. 5 by the template 'for every input the law returns true; each argument reads behind the call as it read before'; 0 by the template 'total and deterministic' (their statements: YtfklncdllfhgmaaDoorTotals.lean).
  GIVEN WITH THE SEED: the statements are not yours to turn. If you find one false, say at which input.
  Laid BY PROGRAM, IN A SANDBOX (cutbox-rows.mjs): the forced cells as the released guide's own fill.sh prints them over the translation 2f40939e8bd04058… (all of the seat's roots in one cut). By AI agents, Wed Nov 11 2026. No macro, syntax, notation, axiom, sorry.
-/
import Derived.Test.YtfklncdllfhgmaaDoorChecked
import GoSem.PinnedTables
import GoSem.Claim
import GoSem.ClaimJoined
import GoSem.ClaimMapViews
import Derived.JoinedTies
import Derived.KernelRfl
namespace Go.Proofs.YtfklncdllfhgmaaDoor
/- THE CELL 'sum', in the pinned program and in every row, IS THE sha256 OF THE DUMP (.gsa) THAT YtfklncdllfhgmaaDoorProg.lean LOADS. Nothing in Lean hashes anything: it is a label: what it is worth is what the hold of that sum in a sandbox is worth. -/
noncomputable def Tryd.pinned : Pinned := { name := "ytfklncdllfhgmaadoor", sum := "2f40939e8bd040587232b073dcd89d1bfcaa4f9ada85ff67a19699309b9dba9e", checked := Tryd.checked }
namespace Rows
def none {H : Type} : Left H := { results := [], args := [] }

/- WHAT THE LISTED PACKAGE-LEVEL VARIABLES READ AS WHEN THE CALL BEGINS. Each datum BY PROGRAM (the guide's laid-datum.mjs) off the statement by which the dump's own 'gosem.cut.vars' lays the variable. In a bare row this is a premise. The card (YtfklncdllfhgmaaDoorCards.lean) ties it to the program's text. -/
def laid_unicode_utf8_acceptRanges {H : Type} : DataW H := .agg [.agg [.lit (.int .u8 128), .lit (.int .u8 191)], .agg [.lit (.int .u8 160), .lit (.int .u8 191)], .agg [.lit (.int .u8 128), .lit (.int .u8 159)], .agg [.lit (.int .u8 144), .lit (.int .u8 191)], .agg [.lit (.int .u8 128), .lit (.int .u8 143)], .agg [.lit (.int .u8 0), .lit (.int .u8 0)], .agg [.lit (.int .u8 0), .lit (.int .u8 0)], .agg [.lit (.int .u8 0), .lit (.int .u8 0)], .agg [.lit (.int .u8 0), .lit (.int .u8 0)], .agg [.lit (.int .u8 0), .lit (.int .u8 0)], .agg [.lit (.int .u8 0), .lit (.int .u8 0)], .agg [.lit (.int .u8 0), .lit (.int .u8 0)], .agg [.lit (.int .u8 0), .lit (.int .u8 0)], .agg [.lit (.int .u8 0), .lit (.int .u8 0)], .agg [.lit (.int .u8 0), .lit (.int .u8 0)], .agg [.lit (.int .u8 0), .lit (.int .u8 0)]]
/-- One of Go's own tables, pinned by name: the form's constant. -/
def laid_unicode_utf8_first : DataW Unit := Go.Pinned.utf8First

/-- 'hogsheadlaw5.NarLays': WHATEVER THE INPUT: true; the input reads as it did. -/
def narLaysSpec : ChangeSpec := { name := "narLays", fn := fun _ => fun
  | [d1, d2, d3, d4] => { results := [.lit (.bool true)], args := [d1, d2, d3, d4] }
  | _ => none }
def narLaysRow : OpenClaim := { program := "ytfklncdllfhgmaadoor", sum := "2f40939e8bd040587232b073dcd89d1bfcaa4f9ada85ff67a19699309b9dba9e", func := "hogshead/hogsheadlaw5.NarLays", spec := "narLays", inPlace := ["internal/bytealg.CountString", "internal/bytealg.IndexByteString", "internal/bytealg.IndexString"], unfollowed := true, recurses := true, named := ["unicode/utf8.first", "unicode/utf8.acceptRanges", "internal/bytealg.MaxLen"], apart := false, laid := [("unicode/utf8.acceptRanges", laid_unicode_utf8_acceptRanges), ("unicode/utf8.first", laid_unicode_utf8_first)] }
def NarLaysSaid : Prop := narLaysRow.holds Tryd.pinned (OpenSpec.ofChange narLaysSpec)

/-- ITS FALSE NEIGHBOUR: 'it returns false'. Refute it at one input. -/
def narLaysWrong : ChangeSpec := { name := "narLays", fn := fun _ => fun
  | [d1, d2, d3, d4] => { results := [.lit (.bool false)], args := [d1, d2, d3, d4] }
  | _ => none }
def NarLaysWrongFalsely : Prop := narLaysRow.holds Tryd.pinned (OpenSpec.ofChange narLaysWrong)

/-- 'hogsheadlaw5.NarReads': WHATEVER THE INPUT: true; the input reads as it did. -/
def narReadsSpec : ChangeSpec := { name := "narReads", fn := fun _ => fun
  | [d] => { results := [.lit (.bool true)], args := [d] }
  | _ => none }
def narReadsRow : OpenClaim := { program := "ytfklncdllfhgmaadoor", sum := "2f40939e8bd040587232b073dcd89d1bfcaa4f9ada85ff67a19699309b9dba9e", func := "hogshead/hogsheadlaw5.NarReads", spec := "narReads", inPlace := ["internal/bytealg.CountString", "internal/bytealg.IndexByteString", "internal/bytealg.IndexString"], unfollowed := true, recurses := true, named := ["unicode/utf8.first", "unicode/utf8.acceptRanges", "internal/bytealg.MaxLen"], apart := false, laid := [("unicode/utf8.acceptRanges", laid_unicode_utf8_acceptRanges), ("unicode/utf8.first", laid_unicode_utf8_first)] }
def NarReadsSaid : Prop := narReadsRow.holds Tryd.pinned (OpenSpec.ofChange narReadsSpec)

/-- ITS FALSE NEIGHBOUR: 'it returns false'. Refute it at one input. -/
def narReadsWrong : ChangeSpec := { name := "narReads", fn := fun _ => fun
  | [d] => { results := [.lit (.bool false)], args := [d] }
  | _ => none }
def NarReadsWrongFalsely : Prop := narReadsRow.holds Tryd.pinned (OpenSpec.ofChange narReadsWrong)

/-- 'hogsheadlaw5.NarBack': WHATEVER THE INPUT: true; the input reads as it did. -/
def narBackSpec : ChangeSpec := { name := "narBack", fn := fun _ => fun
  | [d1, d2, d3] => { results := [.lit (.bool true)], args := [d1, d2, d3] }
  | _ => none }
def narBackRow : OpenClaim := { program := "ytfklncdllfhgmaadoor", sum := "2f40939e8bd040587232b073dcd89d1bfcaa4f9ada85ff67a19699309b9dba9e", func := "hogshead/hogsheadlaw5.NarBack", spec := "narBack", inPlace := ["internal/bytealg.CountString", "internal/bytealg.IndexByteString", "internal/bytealg.IndexString"], unfollowed := true, recurses := true, named := ["unicode/utf8.first", "unicode/utf8.acceptRanges", "internal/bytealg.MaxLen"], apart := false, laid := [("unicode/utf8.acceptRanges", laid_unicode_utf8_acceptRanges), ("unicode/utf8.first", laid_unicode_utf8_first)] }
def NarBackSaid : Prop := narBackRow.holds Tryd.pinned (OpenSpec.ofChange narBackSpec)

/-- ITS FALSE NEIGHBOUR: 'it returns false'. Refute it at one input. -/
def narBackWrong : ChangeSpec := { name := "narBack", fn := fun _ => fun
  | [d1, d2, d3] => { results := [.lit (.bool false)], args := [d1, d2, d3] }
  | _ => none }
def NarBackWrongFalsely : Prop := narBackRow.holds Tryd.pinned (OpenSpec.ofChange narBackWrong)

/-- 'hogsheadlaw5.NarUnlike': WHATEVER THE INPUT: true; the input reads as it did. -/
def narUnlikeSpec : ChangeSpec := { name := "narUnlike", fn := fun _ => fun
  | [d1, d2] => { results := [.lit (.bool true)], args := [d1, d2] }
  | _ => none }
def narUnlikeRow : OpenClaim := { program := "ytfklncdllfhgmaadoor", sum := "2f40939e8bd040587232b073dcd89d1bfcaa4f9ada85ff67a19699309b9dba9e", func := "hogshead/hogsheadlaw5.NarUnlike", spec := "narUnlike", inPlace := ["internal/bytealg.CountString", "internal/bytealg.IndexByteString", "internal/bytealg.IndexString"], unfollowed := true, recurses := true, named := ["unicode/utf8.first", "unicode/utf8.acceptRanges", "internal/bytealg.MaxLen"], apart := false, laid := [("unicode/utf8.acceptRanges", laid_unicode_utf8_acceptRanges), ("unicode/utf8.first", laid_unicode_utf8_first)] }
def NarUnlikeSaid : Prop := narUnlikeRow.holds Tryd.pinned (OpenSpec.ofChange narUnlikeSpec)

/-- ITS FALSE NEIGHBOUR: 'it returns false'. Refute it at one input. -/
def narUnlikeWrong : ChangeSpec := { name := "narUnlike", fn := fun _ => fun
  | [d1, d2] => { results := [.lit (.bool false)], args := [d1, d2] }
  | _ => none }
def NarUnlikeWrongFalsely : Prop := narUnlikeRow.holds Tryd.pinned (OpenSpec.ofChange narUnlikeWrong)

/-- 'hogsheadlaw5.NarSizes': WHATEVER THE INPUT: true; the input reads as it did. -/
def narSizesSpec : ChangeSpec := { name := "narSizes", fn := fun _ => fun
  | [d] => { results := [.lit (.bool true)], args := [d] }
  | _ => none }
def narSizesRow : OpenClaim := { program := "ytfklncdllfhgmaadoor", sum := "2f40939e8bd040587232b073dcd89d1bfcaa4f9ada85ff67a19699309b9dba9e", func := "hogshead/hogsheadlaw5.NarSizes", spec := "narSizes", inPlace := ["internal/bytealg.CountString", "internal/bytealg.IndexByteString", "internal/bytealg.IndexString"], unfollowed := true, recurses := true, named := ["unicode/utf8.first", "unicode/utf8.acceptRanges", "internal/bytealg.MaxLen"], apart := false, laid := [("unicode/utf8.acceptRanges", laid_unicode_utf8_acceptRanges), ("unicode/utf8.first", laid_unicode_utf8_first)] }
def NarSizesSaid : Prop := narSizesRow.holds Tryd.pinned (OpenSpec.ofChange narSizesSpec)

/-- ITS FALSE NEIGHBOUR: 'it returns false'. Refute it at one input. -/
def narSizesWrong : ChangeSpec := { name := "narSizes", fn := fun _ => fun
  | [d] => { results := [.lit (.bool false)], args := [d] }
  | _ => none }
def NarSizesWrongFalsely : Prop := narSizesRow.holds Tryd.pinned (OpenSpec.ofChange narSizesWrong)

/- THE SECOND FORM. 'bulk': how many values and letters a reading holds, each counted each time it is reached (what is shared counts as often as it is met; a slice's spare places count too). A statement '..UptoSaid' is the law's where the arguments, and the package variables that the reading takes, are together of bulk at most 1048576: NARROWER than '..Said'. Prove '..Said' where nothing that the law and all that it calls make is longer than what came in: it says more and counts as full. Else prove '..UptoSaid'. A law counts once. -/
mutual
def uptoBulk {H : Type} : DataW H → Nat
  | .lit (.string bytes) => bytes.length + 1
  | .lit _ => 1
  | .nil => 1
  | .ptr d => uptoBulk d + 1
  | .slice elems spare => uptoBulkAll elems + uptoBulkAll spare + 1
  | .agg parts => uptoBulkAll parts + 1
  | .iface _ d => uptoBulk d + 1
  | .map entries => uptoBulkEntries entries + 1
  | .held _ => 1
def uptoBulkAll {H : Type} : List (DataW H) → Nat
  | [] => 0
  | d :: r => uptoBulk d + uptoBulkAll r
def uptoBulkEntries {H : Type} : List (Lit × DataW H) → Nat
  | [] => 0
  | x :: r => uptoBulkEntry x + uptoBulkEntries r
def uptoBulkEntry {H : Type} : Lit × DataW H → Nat
  | (.string bytes, d) => bytes.length + uptoBulk d + 1
  | (_, d) => uptoBulk d + 1
 end
def uptoSmall : (H : Type) → List (DataW H) → Bool := fun _ ds => decide (uptoBulkAll ds ≤ 1048576)
def OpenSpec.upto (s : _root_.Go.ChangeSpec) : _root_.Go.OpenSpec := { _root_.Go.OpenSpec.ofChange s with cond := some uptoSmall }

/-- 'hogsheadlaw5.NarLays', WHERE WHAT IT READS IS OF BULK AT MOST 1048576: true; the input reads as it did. -/
def narLaysUptoRow : OpenClaim := { program := "ytfklncdllfhgmaadoor", sum := "2f40939e8bd040587232b073dcd89d1bfcaa4f9ada85ff67a19699309b9dba9e", func := "hogshead/hogsheadlaw5.NarLays", spec := "narLays", inPlace := ["internal/bytealg.CountString", "internal/bytealg.IndexByteString", "internal/bytealg.IndexString"], unfollowed := true, recurses := true, named := ["unicode/utf8.first", "unicode/utf8.acceptRanges", "internal/bytealg.MaxLen"], apart := false, laid := [("unicode/utf8.acceptRanges", laid_unicode_utf8_acceptRanges), ("unicode/utf8.first", laid_unicode_utf8_first)], narrowed := true }
def NarLaysUptoSaid : Prop := narLaysUptoRow.holds Tryd.pinned (OpenSpec.upto narLaysSpec)

/-- 'hogsheadlaw5.NarReads', WHERE WHAT IT READS IS OF BULK AT MOST 1048576: true; the input reads as it did. -/
def narReadsUptoRow : OpenClaim := { program := "ytfklncdllfhgmaadoor", sum := "2f40939e8bd040587232b073dcd89d1bfcaa4f9ada85ff67a19699309b9dba9e", func := "hogshead/hogsheadlaw5.NarReads", spec := "narReads", inPlace := ["internal/bytealg.CountString", "internal/bytealg.IndexByteString", "internal/bytealg.IndexString"], unfollowed := true, recurses := true, named := ["unicode/utf8.first", "unicode/utf8.acceptRanges", "internal/bytealg.MaxLen"], apart := false, laid := [("unicode/utf8.acceptRanges", laid_unicode_utf8_acceptRanges), ("unicode/utf8.first", laid_unicode_utf8_first)], narrowed := true }
def NarReadsUptoSaid : Prop := narReadsUptoRow.holds Tryd.pinned (OpenSpec.upto narReadsSpec)

/-- 'hogsheadlaw5.NarBack', WHERE WHAT IT READS IS OF BULK AT MOST 1048576: true; the input reads as it did. -/
def narBackUptoRow : OpenClaim := { program := "ytfklncdllfhgmaadoor", sum := "2f40939e8bd040587232b073dcd89d1bfcaa4f9ada85ff67a19699309b9dba9e", func := "hogshead/hogsheadlaw5.NarBack", spec := "narBack", inPlace := ["internal/bytealg.CountString", "internal/bytealg.IndexByteString", "internal/bytealg.IndexString"], unfollowed := true, recurses := true, named := ["unicode/utf8.first", "unicode/utf8.acceptRanges", "internal/bytealg.MaxLen"], apart := false, laid := [("unicode/utf8.acceptRanges", laid_unicode_utf8_acceptRanges), ("unicode/utf8.first", laid_unicode_utf8_first)], narrowed := true }
def NarBackUptoSaid : Prop := narBackUptoRow.holds Tryd.pinned (OpenSpec.upto narBackSpec)

/-- 'hogsheadlaw5.NarUnlike', WHERE WHAT IT READS IS OF BULK AT MOST 1048576: true; the input reads as it did. -/
def narUnlikeUptoRow : OpenClaim := { program := "ytfklncdllfhgmaadoor", sum := "2f40939e8bd040587232b073dcd89d1bfcaa4f9ada85ff67a19699309b9dba9e", func := "hogshead/hogsheadlaw5.NarUnlike", spec := "narUnlike", inPlace := ["internal/bytealg.CountString", "internal/bytealg.IndexByteString", "internal/bytealg.IndexString"], unfollowed := true, recurses := true, named := ["unicode/utf8.first", "unicode/utf8.acceptRanges", "internal/bytealg.MaxLen"], apart := false, laid := [("unicode/utf8.acceptRanges", laid_unicode_utf8_acceptRanges), ("unicode/utf8.first", laid_unicode_utf8_first)], narrowed := true }
def NarUnlikeUptoSaid : Prop := narUnlikeUptoRow.holds Tryd.pinned (OpenSpec.upto narUnlikeSpec)

/-- 'hogsheadlaw5.NarSizes', WHERE WHAT IT READS IS OF BULK AT MOST 1048576: true; the input reads as it did. -/
def narSizesUptoRow : OpenClaim := { program := "ytfklncdllfhgmaadoor", sum := "2f40939e8bd040587232b073dcd89d1bfcaa4f9ada85ff67a19699309b9dba9e", func := "hogshead/hogsheadlaw5.NarSizes", spec := "narSizes", inPlace := ["internal/bytealg.CountString", "internal/bytealg.IndexByteString", "internal/bytealg.IndexString"], unfollowed := true, recurses := true, named := ["unicode/utf8.first", "unicode/utf8.acceptRanges", "internal/bytealg.MaxLen"], apart := false, laid := [("unicode/utf8.acceptRanges", laid_unicode_utf8_acceptRanges), ("unicode/utf8.first", laid_unicode_utf8_first)], narrowed := true }
def NarSizesUptoSaid : Prop := narSizesUptoRow.holds Tryd.pinned (OpenSpec.upto narSizesSpec)

end Rows
end Go.Proofs.YtfklncdllfhgmaaDoor
