/-
  NARROWER THAN 'FOR EVERY INPUT', by the rows' own cells (each row's printed sentence says how): FnExactFnNodes: laid · FnExactFolded: laid · FnExactCallersOf: laid · FnExactReachedFns: laid · FnExactDeadFns: laid.
  DERIVED. THE GIVEN ROWS OF THIS SEAT. 5 by the template 'for every input the law returns true; each argument reads behind the call as it read before'; 0 by the template 'total and deterministic' (their statements: YtelnmegngpocjaaGreatDoorTotals.lean).
  GIVEN WITH THE SEED: the statements are not yours to turn. If you find one false, say at which input.
  Laid BY PROGRAM, IN A SANDBOX (cutbox-rows.mjs): the forced cells as the released guide's own fill.sh prints them over the translation cad8c25a24d5b812… (all of the seat's roots in one cut). By AI agents, Wed Nov 11 2026. No macro, syntax, notation, axiom, sorry.
-/
import Derived.Test.YtelnmegngpocjaaGreatDoorChecked
import GoSem.PinnedTables
import GoSem.Claim
import GoSem.ClaimJoined
import GoSem.ClaimMapViews
import Derived.JoinedTies
import Derived.KernelRfl
namespace Go.Proofs.YtelnmegngpocjaaGreatDoor
/- THE CELL 'sum', in the pinned program and in every row, IS THE sha256 OF THE DUMP (.gsa) THAT YtelnmegngpocjaaGreatDoorProg.lean LOADS. Nothing in Lean hashes anything: it is a label: what it is worth is what the hold of that sum in a sandbox is worth. -/
noncomputable def Tryz.pinned : Pinned := { name := "ytelnmegngpocjaagreatdoor", sum := "cad8c25a24d5b812cb8aa3e5d07c25b73251f81b7ac4b55c4e706d4a91c04f17", checked := Tryz.checked }
namespace Rows
def none {H : Type} : Left H := { results := [], args := [] }

/- WHAT THE LISTED PACKAGE-LEVEL VARIABLES READ AS WHEN THE CALL BEGINS. Each datum BY PROGRAM (the guide's laid-datum.mjs) off the statement by which the dump's own 'gosem.cut.vars' lays the variable. In a bare row this is a premise. The card (YtelnmegngpocjaaGreatDoorCards.lean) ties it to the program's text. -/
def laid_unicode_utf8_acceptRanges {H : Type} : DataW H := .agg [.agg [.lit (.int .u8 128), .lit (.int .u8 191)], .agg [.lit (.int .u8 160), .lit (.int .u8 191)], .agg [.lit (.int .u8 128), .lit (.int .u8 159)], .agg [.lit (.int .u8 144), .lit (.int .u8 191)], .agg [.lit (.int .u8 128), .lit (.int .u8 143)], .agg [.lit (.int .u8 0), .lit (.int .u8 0)], .agg [.lit (.int .u8 0), .lit (.int .u8 0)], .agg [.lit (.int .u8 0), .lit (.int .u8 0)], .agg [.lit (.int .u8 0), .lit (.int .u8 0)], .agg [.lit (.int .u8 0), .lit (.int .u8 0)], .agg [.lit (.int .u8 0), .lit (.int .u8 0)], .agg [.lit (.int .u8 0), .lit (.int .u8 0)], .agg [.lit (.int .u8 0), .lit (.int .u8 0)], .agg [.lit (.int .u8 0), .lit (.int .u8 0)], .agg [.lit (.int .u8 0), .lit (.int .u8 0)], .agg [.lit (.int .u8 0), .lit (.int .u8 0)]]
/-- One of Go's own tables, pinned by name: the form's constant. -/
def laid_unicode_utf8_first : DataW Unit := Go.Pinned.utf8First

/-- 'laws.FnExactFnNodes': WHATEVER THE INPUT: true; the input reads as it did. -/
def fnExactFnNodesSpec : ChangeSpec := { name := "fnExactFnNodes", fn := fun _ => fun
  | [d1, d2] => { results := [.lit (.bool true)], args := [d1, d2] }
  | _ => none }
def fnExactFnNodesRow : OpenClaim := { program := "ytelnmegngpocjaagreatdoor", sum := "cad8c25a24d5b812cb8aa3e5d07c25b73251f81b7ac4b55c4e706d4a91c04f17", func := "loop.example/g00423/laws.FnExactFnNodes", spec := "fnExactFnNodes", inPlace := ["internal/bytealg.CountString", "internal/bytealg.IndexByteString", "internal/bytealg.IndexString"], recurses := true, named := ["unicode/utf8.first", "unicode/utf8.acceptRanges", "internal/bytealg.MaxLen"], apart := false, laid := [("unicode/utf8.acceptRanges", laid_unicode_utf8_acceptRanges), ("unicode/utf8.first", laid_unicode_utf8_first)] }
def FnExactFnNodesSaid : Prop := fnExactFnNodesRow.holds Tryz.pinned (OpenSpec.ofChange fnExactFnNodesSpec)

/-- ITS FALSE NEIGHBOUR: 'it returns false'. Refute it at one input. -/
def fnExactFnNodesWrong : ChangeSpec := { name := "fnExactFnNodes", fn := fun _ => fun
  | [d1, d2] => { results := [.lit (.bool false)], args := [d1, d2] }
  | _ => none }
def FnExactFnNodesWrongFalsely : Prop := fnExactFnNodesRow.holds Tryz.pinned (OpenSpec.ofChange fnExactFnNodesWrong)

/-- 'laws.FnExactFolded': WHATEVER THE INPUT: true; the input reads as it did. -/
def fnExactFoldedSpec : ChangeSpec := { name := "fnExactFolded", fn := fun _ => fun
  | [d] => { results := [.lit (.bool true)], args := [d] }
  | _ => none }
def fnExactFoldedRow : OpenClaim := { program := "ytelnmegngpocjaagreatdoor", sum := "cad8c25a24d5b812cb8aa3e5d07c25b73251f81b7ac4b55c4e706d4a91c04f17", func := "loop.example/g00423/laws.FnExactFolded", spec := "fnExactFolded", inPlace := ["internal/bytealg.CountString", "internal/bytealg.IndexByteString", "internal/bytealg.IndexString"], recurses := true, named := ["unicode/utf8.first", "unicode/utf8.acceptRanges", "internal/bytealg.MaxLen"], apart := false, laid := [("unicode/utf8.acceptRanges", laid_unicode_utf8_acceptRanges), ("unicode/utf8.first", laid_unicode_utf8_first)] }
def FnExactFoldedSaid : Prop := fnExactFoldedRow.holds Tryz.pinned (OpenSpec.ofChange fnExactFoldedSpec)

/-- ITS FALSE NEIGHBOUR: 'it returns false'. Refute it at one input. -/
def fnExactFoldedWrong : ChangeSpec := { name := "fnExactFolded", fn := fun _ => fun
  | [d] => { results := [.lit (.bool false)], args := [d] }
  | _ => none }
def FnExactFoldedWrongFalsely : Prop := fnExactFoldedRow.holds Tryz.pinned (OpenSpec.ofChange fnExactFoldedWrong)

/-- 'laws.FnExactCallersOf': WHATEVER THE INPUT: true; the input reads as it did. -/
def fnExactCallersOfSpec : ChangeSpec := { name := "fnExactCallersOf", fn := fun _ => fun
  | [d1, d2] => { results := [.lit (.bool true)], args := [d1, d2] }
  | _ => none }
def fnExactCallersOfRow : OpenClaim := { program := "ytelnmegngpocjaagreatdoor", sum := "cad8c25a24d5b812cb8aa3e5d07c25b73251f81b7ac4b55c4e706d4a91c04f17", func := "loop.example/g00423/laws.FnExactCallersOf", spec := "fnExactCallersOf", inPlace := ["internal/bytealg.CountString", "internal/bytealg.IndexByteString", "internal/bytealg.IndexString"], recurses := true, named := ["unicode/utf8.first", "unicode/utf8.acceptRanges", "internal/bytealg.MaxLen"], apart := false, laid := [("unicode/utf8.acceptRanges", laid_unicode_utf8_acceptRanges), ("unicode/utf8.first", laid_unicode_utf8_first)] }
def FnExactCallersOfSaid : Prop := fnExactCallersOfRow.holds Tryz.pinned (OpenSpec.ofChange fnExactCallersOfSpec)

/-- ITS FALSE NEIGHBOUR: 'it returns false'. Refute it at one input. -/
def fnExactCallersOfWrong : ChangeSpec := { name := "fnExactCallersOf", fn := fun _ => fun
  | [d1, d2] => { results := [.lit (.bool false)], args := [d1, d2] }
  | _ => none }
def FnExactCallersOfWrongFalsely : Prop := fnExactCallersOfRow.holds Tryz.pinned (OpenSpec.ofChange fnExactCallersOfWrong)

/-- 'laws.FnExactReachedFns': WHATEVER THE INPUT: true; the input reads as it did. -/
def fnExactReachedFnsSpec : ChangeSpec := { name := "fnExactReachedFns", fn := fun _ => fun
  | [d1, d2] => { results := [.lit (.bool true)], args := [d1, d2] }
  | _ => none }
def fnExactReachedFnsRow : OpenClaim := { program := "ytelnmegngpocjaagreatdoor", sum := "cad8c25a24d5b812cb8aa3e5d07c25b73251f81b7ac4b55c4e706d4a91c04f17", func := "loop.example/g00423/laws.FnExactReachedFns", spec := "fnExactReachedFns", inPlace := ["internal/bytealg.CountString", "internal/bytealg.IndexByteString", "internal/bytealg.IndexString"], recurses := true, named := ["unicode/utf8.first", "unicode/utf8.acceptRanges", "internal/bytealg.MaxLen"], apart := false, laid := [("unicode/utf8.acceptRanges", laid_unicode_utf8_acceptRanges), ("unicode/utf8.first", laid_unicode_utf8_first)] }
def FnExactReachedFnsSaid : Prop := fnExactReachedFnsRow.holds Tryz.pinned (OpenSpec.ofChange fnExactReachedFnsSpec)

/-- ITS FALSE NEIGHBOUR: 'it returns false'. Refute it at one input. -/
def fnExactReachedFnsWrong : ChangeSpec := { name := "fnExactReachedFns", fn := fun _ => fun
  | [d1, d2] => { results := [.lit (.bool false)], args := [d1, d2] }
  | _ => none }
def FnExactReachedFnsWrongFalsely : Prop := fnExactReachedFnsRow.holds Tryz.pinned (OpenSpec.ofChange fnExactReachedFnsWrong)

/-- 'laws.FnExactDeadFns': WHATEVER THE INPUT: true; the input reads as it did. -/
def fnExactDeadFnsSpec : ChangeSpec := { name := "fnExactDeadFns", fn := fun _ => fun
  | [d] => { results := [.lit (.bool true)], args := [d] }
  | _ => none }
def fnExactDeadFnsRow : OpenClaim := { program := "ytelnmegngpocjaagreatdoor", sum := "cad8c25a24d5b812cb8aa3e5d07c25b73251f81b7ac4b55c4e706d4a91c04f17", func := "loop.example/g00423/laws.FnExactDeadFns", spec := "fnExactDeadFns", inPlace := ["internal/bytealg.CountString", "internal/bytealg.IndexByteString", "internal/bytealg.IndexString"], recurses := true, named := ["unicode/utf8.first", "unicode/utf8.acceptRanges", "internal/bytealg.MaxLen"], apart := false, laid := [("unicode/utf8.acceptRanges", laid_unicode_utf8_acceptRanges), ("unicode/utf8.first", laid_unicode_utf8_first)] }
def FnExactDeadFnsSaid : Prop := fnExactDeadFnsRow.holds Tryz.pinned (OpenSpec.ofChange fnExactDeadFnsSpec)

/-- ITS FALSE NEIGHBOUR: 'it returns false'. Refute it at one input. -/
def fnExactDeadFnsWrong : ChangeSpec := { name := "fnExactDeadFns", fn := fun _ => fun
  | [d] => { results := [.lit (.bool false)], args := [d] }
  | _ => none }
def FnExactDeadFnsWrongFalsely : Prop := fnExactDeadFnsRow.holds Tryz.pinned (OpenSpec.ofChange fnExactDeadFnsWrong)

/- THE SECOND FORM. 'bulk': how many values and letters a reading holds, each counted each time it is reached (what is shared counts as often as it is met; a slice's spare places count too). A statement '..UptoSaid' is the law's where the arguments, and the package variables that the reading takes, are together of bulk at most 1048576: NARROWER than '..Said'. Prove '..Said' where nothing that the law and all that it calls make is longer than what came in: it says more and counts as full. Else prove '..UptoSaid'. A law counts once. -/
mutual
def uptoBulk {H : Type} : DataW H → Nat
  | .lit (.string bytes) => bytes.length + 1
  | .lit _ => 1
  | .nil => 1
  | .ptr d => uptoBulk d + 1
  | .slice elems spare => uptoBulkAll elems + uptoBulkAll spare + 1
  | .agg parts => uptoBulkAll parts + 1
  | .iface _ d => uptoBulk d + 1
  | .map entries => uptoBulkEntries entries + 1
  | .held _ => 1
def uptoBulkAll {H : Type} : List (DataW H) → Nat
  | [] => 0
  | d :: r => uptoBulk d + uptoBulkAll r
def uptoBulkEntries {H : Type} : List (Lit × DataW H) → Nat
  | [] => 0
  | x :: r => uptoBulkEntry x + uptoBulkEntries r
def uptoBulkEntry {H : Type} : Lit × DataW H → Nat
  | (.string bytes, d) => bytes.length + uptoBulk d + 1
  | (_, d) => uptoBulk d + 1
 end
def uptoSmall : (H : Type) → List (DataW H) → Bool := fun _ ds => decide (uptoBulkAll ds ≤ 1048576)
def OpenSpec.upto (s : _root_.Go.ChangeSpec) : _root_.Go.OpenSpec := { _root_.Go.OpenSpec.ofChange s with cond := some uptoSmall }

/-- 'laws.FnExactFnNodes', WHERE WHAT IT READS IS OF BULK AT MOST 1048576: true; the input reads as it did. -/
def fnExactFnNodesUptoRow : OpenClaim := { program := "ytelnmegngpocjaagreatdoor", sum := "cad8c25a24d5b812cb8aa3e5d07c25b73251f81b7ac4b55c4e706d4a91c04f17", func := "loop.example/g00423/laws.FnExactFnNodes", spec := "fnExactFnNodes", inPlace := ["internal/bytealg.CountString", "internal/bytealg.IndexByteString", "internal/bytealg.IndexString"], recurses := true, named := ["unicode/utf8.first", "unicode/utf8.acceptRanges", "internal/bytealg.MaxLen"], apart := false, laid := [("unicode/utf8.acceptRanges", laid_unicode_utf8_acceptRanges), ("unicode/utf8.first", laid_unicode_utf8_first)], narrowed := true }
def FnExactFnNodesUptoSaid : Prop := fnExactFnNodesUptoRow.holds Tryz.pinned (OpenSpec.upto fnExactFnNodesSpec)

/-- 'laws.FnExactFolded', WHERE WHAT IT READS IS OF BULK AT MOST 1048576: true; the input reads as it did. -/
def fnExactFoldedUptoRow : OpenClaim := { program := "ytelnmegngpocjaagreatdoor", sum := "cad8c25a24d5b812cb8aa3e5d07c25b73251f81b7ac4b55c4e706d4a91c04f17", func := "loop.example/g00423/laws.FnExactFolded", spec := "fnExactFolded", inPlace := ["internal/bytealg.CountString", "internal/bytealg.IndexByteString", "internal/bytealg.IndexString"], recurses := true, named := ["unicode/utf8.first", "unicode/utf8.acceptRanges", "internal/bytealg.MaxLen"], apart := false, laid := [("unicode/utf8.acceptRanges", laid_unicode_utf8_acceptRanges), ("unicode/utf8.first", laid_unicode_utf8_first)], narrowed := true }
def FnExactFoldedUptoSaid : Prop := fnExactFoldedUptoRow.holds Tryz.pinned (OpenSpec.upto fnExactFoldedSpec)

/-- 'laws.FnExactCallersOf', WHERE WHAT IT READS IS OF BULK AT MOST 1048576: true; the input reads as it did. -/
def fnExactCallersOfUptoRow : OpenClaim := { program := "ytelnmegngpocjaagreatdoor", sum := "cad8c25a24d5b812cb8aa3e5d07c25b73251f81b7ac4b55c4e706d4a91c04f17", func := "loop.example/g00423/laws.FnExactCallersOf", spec := "fnExactCallersOf", inPlace := ["internal/bytealg.CountString", "internal/bytealg.IndexByteString", "internal/bytealg.IndexString"], recurses := true, named := ["unicode/utf8.first", "unicode/utf8.acceptRanges", "internal/bytealg.MaxLen"], apart := false, laid := [("unicode/utf8.acceptRanges", laid_unicode_utf8_acceptRanges), ("unicode/utf8.first", laid_unicode_utf8_first)], narrowed := true }
def FnExactCallersOfUptoSaid : Prop := fnExactCallersOfUptoRow.holds Tryz.pinned (OpenSpec.upto fnExactCallersOfSpec)

/-- 'laws.FnExactReachedFns', WHERE WHAT IT READS IS OF BULK AT MOST 1048576: true; the input reads as it did. -/
def fnExactReachedFnsUptoRow : OpenClaim := { program := "ytelnmegngpocjaagreatdoor", sum := "cad8c25a24d5b812cb8aa3e5d07c25b73251f81b7ac4b55c4e706d4a91c04f17", func := "loop.example/g00423/laws.FnExactReachedFns", spec := "fnExactReachedFns", inPlace := ["internal/bytealg.CountString", "internal/bytealg.IndexByteString", "internal/bytealg.IndexString"], recurses := true, named := ["unicode/utf8.first", "unicode/utf8.acceptRanges", "internal/bytealg.MaxLen"], apart := false, laid := [("unicode/utf8.acceptRanges", laid_unicode_utf8_acceptRanges), ("unicode/utf8.first", laid_unicode_utf8_first)], narrowed := true }
def FnExactReachedFnsUptoSaid : Prop := fnExactReachedFnsUptoRow.holds Tryz.pinned (OpenSpec.upto fnExactReachedFnsSpec)

/-- 'laws.FnExactDeadFns', WHERE WHAT IT READS IS OF BULK AT MOST 1048576: true; the input reads as it did. -/
def fnExactDeadFnsUptoRow : OpenClaim := { program := "ytelnmegngpocjaagreatdoor", sum := "cad8c25a24d5b812cb8aa3e5d07c25b73251f81b7ac4b55c4e706d4a91c04f17", func := "loop.example/g00423/laws.FnExactDeadFns", spec := "fnExactDeadFns", inPlace := ["internal/bytealg.CountString", "internal/bytealg.IndexByteString", "internal/bytealg.IndexString"], recurses := true, named := ["unicode/utf8.first", "unicode/utf8.acceptRanges", "internal/bytealg.MaxLen"], apart := false, laid := [("unicode/utf8.acceptRanges", laid_unicode_utf8_acceptRanges), ("unicode/utf8.first", laid_unicode_utf8_first)], narrowed := true }
def FnExactDeadFnsUptoSaid : Prop := fnExactDeadFnsUptoRow.holds Tryz.pinned (OpenSpec.upto fnExactDeadFnsSpec)

end Rows
end Go.Proofs.YtelnmegngpocjaaGreatDoor
