/-
  No cell of these rows narrows 'for every input' (looked for: loops, veiled, ifaces, maps, wideKeys, modest, calm, conditions, laid).
  DERIVED. THE GIVEN ROWS OF THIS SEAT. 5 by the template 'for every input the law returns true; each argument reads behind the call as it read before'; 0 by the template 'total and deterministic' (their statements: YthjfjkcjpkapgaaTotals.lean).
  GIVEN WITH THE SEED: the statements are not yours to turn. If you find one false, say at which input.
  Laid BY PROGRAM, IN A SANDBOX (cutbox-rows.mjs): the forced cells as the released guide's own fill.sh prints them over the translation e28b5610885d5428… (all of the seat's roots in one cut). By AI agents, Wed Nov 11 2026. No macro, syntax, notation, axiom, sorry.
-/
import Derived.Test.YthjfjkcjpkapgaaChecked
import GoSem.Claim
import GoSem.ClaimJoined
import GoSem.ClaimMapViews
import Derived.JoinedTies
import Derived.KernelRfl
namespace Go.Proofs.Ythjfjkcjpkapgaa
/- THE CELL 'sum', in the pinned program and in every row, IS THE sha256 OF THE DUMP (.gsa) THAT YthjfjkcjpkapgaaProg.lean LOADS. Nothing in Lean hashes anything: it is a label: what it is worth is what the hold of that sum in a sandbox is worth. -/
noncomputable def Try.pinned : Pinned := { name := "ythjfjkcjpkapgaa", sum := "e28b5610885d5428e57e361d88c8529e188f038dd7c5c3cefecd22b30a850136", checked := Try.checked }
namespace Rows
def none {H : Type} : Left H := { results := [], args := [] }

/-- 'hogsheadlaw18.BlocksRoom': WHATEVER THE INPUT: true; the input reads as it did. -/
def blocksRoomSpec : ChangeSpec := { name := "blocksRoom", fn := fun _ => fun
  | [d] => { results := [.lit (.bool true)], args := [d] }
  | _ => none }
def blocksRoomRow : OpenClaim := { program := "ythjfjkcjpkapgaa", sum := "e28b5610885d5428e57e361d88c8529e188f038dd7c5c3cefecd22b30a850136", func := "hogshead/hogsheadlaw18.BlocksRoom", spec := "blocksRoom", apart := false }
def BlocksRoomSaid : Prop := blocksRoomRow.holds Try.pinned (OpenSpec.ofChange blocksRoomSpec)

/-- ITS FALSE NEIGHBOUR: 'it returns false'. Refute it at one input. -/
def blocksRoomWrong : ChangeSpec := { name := "blocksRoom", fn := fun _ => fun
  | [d] => { results := [.lit (.bool false)], args := [d] }
  | _ => none }
def BlocksRoomWrongFalsely : Prop := blocksRoomRow.holds Try.pinned (OpenSpec.ofChange blocksRoomWrong)

/-- 'hogsheadlaw18.BlocksScript': WHATEVER THE INPUT: true; the input reads as it did. -/
def blocksScriptSpec : ChangeSpec := { name := "blocksScript", fn := fun _ => fun
  | [d1, d2] => { results := [.lit (.bool true)], args := [d1, d2] }
  | _ => none }
def blocksScriptRow : OpenClaim := { program := "ythjfjkcjpkapgaa", sum := "e28b5610885d5428e57e361d88c8529e188f038dd7c5c3cefecd22b30a850136", func := "hogshead/hogsheadlaw18.BlocksScript", spec := "blocksScript", apart := false }
def BlocksScriptSaid : Prop := blocksScriptRow.holds Try.pinned (OpenSpec.ofChange blocksScriptSpec)

/-- ITS FALSE NEIGHBOUR: 'it returns false'. Refute it at one input. -/
def blocksScriptWrong : ChangeSpec := { name := "blocksScript", fn := fun _ => fun
  | [d1, d2] => { results := [.lit (.bool false)], args := [d1, d2] }
  | _ => none }
def BlocksScriptWrongFalsely : Prop := blocksScriptRow.holds Try.pinned (OpenSpec.ofChange blocksScriptWrong)

/-- 'hogsheadlaw18.BlocksKeep': WHATEVER THE INPUT: true; the input reads as it did. -/
def blocksKeepSpec : ChangeSpec := { name := "blocksKeep", fn := fun _ => fun
  | [d] => { results := [.lit (.bool true)], args := [d] }
  | _ => none }
def blocksKeepRow : OpenClaim := { program := "ythjfjkcjpkapgaa", sum := "e28b5610885d5428e57e361d88c8529e188f038dd7c5c3cefecd22b30a850136", func := "hogshead/hogsheadlaw18.BlocksKeep", spec := "blocksKeep", apart := false }
def BlocksKeepSaid : Prop := blocksKeepRow.holds Try.pinned (OpenSpec.ofChange blocksKeepSpec)

/-- ITS FALSE NEIGHBOUR: 'it returns false'. Refute it at one input. -/
def blocksKeepWrong : ChangeSpec := { name := "blocksKeep", fn := fun _ => fun
  | [d] => { results := [.lit (.bool false)], args := [d] }
  | _ => none }
def BlocksKeepWrongFalsely : Prop := blocksKeepRow.holds Try.pinned (OpenSpec.ofChange blocksKeepWrong)

/-- 'hogsheadlaw18.BlocksNone': WHATEVER THE INPUT: true; the input reads as it did. -/
def blocksNoneSpec : ChangeSpec := { name := "blocksNone", fn := fun _ => fun
  | [d1, d2] => { results := [.lit (.bool true)], args := [d1, d2] }
  | _ => none }
def blocksNoneRow : OpenClaim := { program := "ythjfjkcjpkapgaa", sum := "e28b5610885d5428e57e361d88c8529e188f038dd7c5c3cefecd22b30a850136", func := "hogshead/hogsheadlaw18.BlocksNone", spec := "blocksNone", apart := false }
def BlocksNoneSaid : Prop := blocksNoneRow.holds Try.pinned (OpenSpec.ofChange blocksNoneSpec)

/-- ITS FALSE NEIGHBOUR: 'it returns false'. Refute it at one input. -/
def blocksNoneWrong : ChangeSpec := { name := "blocksNone", fn := fun _ => fun
  | [d1, d2] => { results := [.lit (.bool false)], args := [d1, d2] }
  | _ => none }
def BlocksNoneWrongFalsely : Prop := blocksNoneRow.holds Try.pinned (OpenSpec.ofChange blocksNoneWrong)

/-- 'hogsheadlaw18.BlocksGrow': WHATEVER THE INPUT: true; the input reads as it did. -/
def blocksGrowSpec : ChangeSpec := { name := "blocksGrow", fn := fun _ => fun
  | [d] => { results := [.lit (.bool true)], args := [d] }
  | _ => none }
def blocksGrowRow : OpenClaim := { program := "ythjfjkcjpkapgaa", sum := "e28b5610885d5428e57e361d88c8529e188f038dd7c5c3cefecd22b30a850136", func := "hogshead/hogsheadlaw18.BlocksGrow", spec := "blocksGrow", apart := false }
def BlocksGrowSaid : Prop := blocksGrowRow.holds Try.pinned (OpenSpec.ofChange blocksGrowSpec)

/-- ITS FALSE NEIGHBOUR: 'it returns false'. Refute it at one input. -/
def blocksGrowWrong : ChangeSpec := { name := "blocksGrow", fn := fun _ => fun
  | [d] => { results := [.lit (.bool false)], args := [d] }
  | _ => none }
def BlocksGrowWrongFalsely : Prop := blocksGrowRow.holds Try.pinned (OpenSpec.ofChange blocksGrowWrong)

/- THE SECOND FORM. 'bulk': how many values and letters a reading holds, each counted each time it is reached (what is shared counts as often as it is met; a slice's spare places count too). A statement '..UptoSaid' is the law's where the arguments, and the package variables that the reading takes, are together of bulk at most 1048576: NARROWER than '..Said'. Prove '..Said' where nothing that the law and all that it calls make is longer than what came in: it says more and counts as full. Else prove '..UptoSaid'. A law counts once. -/
mutual
def uptoBulk {H : Type} : DataW H → Nat
  | .lit (.string bytes) => bytes.length + 1
  | .lit _ => 1
  | .nil => 1
  | .ptr d => uptoBulk d + 1
  | .slice elems spare => uptoBulkAll elems + uptoBulkAll spare + 1
  | .agg parts => uptoBulkAll parts + 1
  | .iface _ d => uptoBulk d + 1
  | .map entries => uptoBulkEntries entries + 1
  | .held _ => 1
def uptoBulkAll {H : Type} : List (DataW H) → Nat
  | [] => 0
  | d :: r => uptoBulk d + uptoBulkAll r
def uptoBulkEntries {H : Type} : List (Lit × DataW H) → Nat
  | [] => 0
  | x :: r => uptoBulkEntry x + uptoBulkEntries r
def uptoBulkEntry {H : Type} : Lit × DataW H → Nat
  | (.string bytes, d) => bytes.length + uptoBulk d + 1
  | (_, d) => uptoBulk d + 1
 end
def uptoSmall : (H : Type) → List (DataW H) → Bool := fun _ ds => decide (uptoBulkAll ds ≤ 1048576)
def OpenSpec.upto (s : _root_.Go.ChangeSpec) : _root_.Go.OpenSpec := { _root_.Go.OpenSpec.ofChange s with cond := some uptoSmall }

/-- 'hogsheadlaw18.BlocksRoom', WHERE WHAT IT READS IS OF BULK AT MOST 1048576: true; the input reads as it did. -/
def blocksRoomUptoRow : OpenClaim := { program := "ythjfjkcjpkapgaa", sum := "e28b5610885d5428e57e361d88c8529e188f038dd7c5c3cefecd22b30a850136", func := "hogshead/hogsheadlaw18.BlocksRoom", spec := "blocksRoom", apart := false, narrowed := true }
def BlocksRoomUptoSaid : Prop := blocksRoomUptoRow.holds Try.pinned (OpenSpec.upto blocksRoomSpec)

/-- 'hogsheadlaw18.BlocksScript', WHERE WHAT IT READS IS OF BULK AT MOST 1048576: true; the input reads as it did. -/
def blocksScriptUptoRow : OpenClaim := { program := "ythjfjkcjpkapgaa", sum := "e28b5610885d5428e57e361d88c8529e188f038dd7c5c3cefecd22b30a850136", func := "hogshead/hogsheadlaw18.BlocksScript", spec := "blocksScript", apart := false, narrowed := true }
def BlocksScriptUptoSaid : Prop := blocksScriptUptoRow.holds Try.pinned (OpenSpec.upto blocksScriptSpec)

/-- 'hogsheadlaw18.BlocksKeep', WHERE WHAT IT READS IS OF BULK AT MOST 1048576: true; the input reads as it did. -/
def blocksKeepUptoRow : OpenClaim := { program := "ythjfjkcjpkapgaa", sum := "e28b5610885d5428e57e361d88c8529e188f038dd7c5c3cefecd22b30a850136", func := "hogshead/hogsheadlaw18.BlocksKeep", spec := "blocksKeep", apart := false, narrowed := true }
def BlocksKeepUptoSaid : Prop := blocksKeepUptoRow.holds Try.pinned (OpenSpec.upto blocksKeepSpec)

/-- 'hogsheadlaw18.BlocksNone', WHERE WHAT IT READS IS OF BULK AT MOST 1048576: true; the input reads as it did. -/
def blocksNoneUptoRow : OpenClaim := { program := "ythjfjkcjpkapgaa", sum := "e28b5610885d5428e57e361d88c8529e188f038dd7c5c3cefecd22b30a850136", func := "hogshead/hogsheadlaw18.BlocksNone", spec := "blocksNone", apart := false, narrowed := true }
def BlocksNoneUptoSaid : Prop := blocksNoneUptoRow.holds Try.pinned (OpenSpec.upto blocksNoneSpec)

/-- 'hogsheadlaw18.BlocksGrow', WHERE WHAT IT READS IS OF BULK AT MOST 1048576: true; the input reads as it did. -/
def blocksGrowUptoRow : OpenClaim := { program := "ythjfjkcjpkapgaa", sum := "e28b5610885d5428e57e361d88c8529e188f038dd7c5c3cefecd22b30a850136", func := "hogshead/hogsheadlaw18.BlocksGrow", spec := "blocksGrow", apart := false, narrowed := true }
def BlocksGrowUptoSaid : Prop := blocksGrowUptoRow.holds Try.pinned (OpenSpec.upto blocksGrowSpec)

end Rows
end Go.Proofs.Ythjfjkcjpkapgaa
