/-
  NARROWER THAN 'FOR EVERY INPUT', by the rows' own cells (each row's printed sentence says how): FnExactLoopHeads: laid · FnExactDomsOf: laid · FnExactMeasured: laid · FnExactFoldsIn: laid · FnExactHoldsAt: laid · FnExactLent: laid · FnExactInForce: laid.
  DERIVED. THE GIVEN ROWS OF THIS SEAT. 7 by the template 'for every input the law returns true; each argument reads behind the call as it read before'; 0 by the template 'total and deterministic' (their statements: YtelnmegngpocjaaDoorTotals.lean).
  GIVEN WITH THE SEED: the statements are not yours to turn. If you find one false, say at which input.
  Laid BY PROGRAM, IN A SANDBOX (cutbox-rows.mjs): the forced cells as the released guide's own fill.sh prints them over the translation 7aab5ceb01e9b2a8… (all of the seat's roots in one cut). By AI agents, Wed Nov 11 2026. No macro, syntax, notation, axiom, sorry.
-/
import Derived.Test.YtelnmegngpocjaaDoorChecked
import GoSem.PinnedTables
import GoSem.Claim
import GoSem.ClaimJoined
import GoSem.ClaimMapViews
import Derived.JoinedTies
import Derived.KernelRfl
namespace Go.Proofs.YtelnmegngpocjaaDoor
/- THE CELL 'sum', in the pinned program and in every row, IS THE sha256 OF THE DUMP (.gsa) THAT YtelnmegngpocjaaDoorProg.lean LOADS. Nothing in Lean hashes anything: it is a label: what it is worth is what the hold of that sum in a sandbox is worth. -/
noncomputable def Tryd.pinned : Pinned := { name := "ytelnmegngpocjaadoor", sum := "7aab5ceb01e9b2a8bd2d04c078f3b7dbd1ad11a1a7cd5c95c7e4fd42cbfba565", checked := Tryd.checked }
namespace Rows
def none {H : Type} : Left H := { results := [], args := [] }

/- WHAT THE LISTED PACKAGE-LEVEL VARIABLES READ AS WHEN THE CALL BEGINS. Each datum BY PROGRAM (the guide's laid-datum.mjs) off the statement by which the dump's own 'gosem.cut.vars' lays the variable. In a bare row this is a premise. The card (YtelnmegngpocjaaDoorCards.lean) ties it to the program's text. -/
def laid_unicode_utf8_acceptRanges {H : Type} : DataW H := .agg [.agg [.lit (.int .u8 128), .lit (.int .u8 191)], .agg [.lit (.int .u8 160), .lit (.int .u8 191)], .agg [.lit (.int .u8 128), .lit (.int .u8 159)], .agg [.lit (.int .u8 144), .lit (.int .u8 191)], .agg [.lit (.int .u8 128), .lit (.int .u8 143)], .agg [.lit (.int .u8 0), .lit (.int .u8 0)], .agg [.lit (.int .u8 0), .lit (.int .u8 0)], .agg [.lit (.int .u8 0), .lit (.int .u8 0)], .agg [.lit (.int .u8 0), .lit (.int .u8 0)], .agg [.lit (.int .u8 0), .lit (.int .u8 0)], .agg [.lit (.int .u8 0), .lit (.int .u8 0)], .agg [.lit (.int .u8 0), .lit (.int .u8 0)], .agg [.lit (.int .u8 0), .lit (.int .u8 0)], .agg [.lit (.int .u8 0), .lit (.int .u8 0)], .agg [.lit (.int .u8 0), .lit (.int .u8 0)], .agg [.lit (.int .u8 0), .lit (.int .u8 0)]]
/-- One of Go's own tables, pinned by name: the form's constant. -/
def laid_unicode_utf8_first : DataW Unit := Go.Pinned.utf8First

/-- 'laws.FnExactLoopHeads': WHATEVER THE INPUT: true; the input reads as it did. -/
def fnExactLoopHeadsSpec : ChangeSpec := { name := "fnExactLoopHeads", fn := fun _ => fun
  | [d] => { results := [.lit (.bool true)], args := [d] }
  | _ => none }
def fnExactLoopHeadsRow : OpenClaim := { program := "ytelnmegngpocjaadoor", sum := "7aab5ceb01e9b2a8bd2d04c078f3b7dbd1ad11a1a7cd5c95c7e4fd42cbfba565", func := "loop.example/g00423/laws.FnExactLoopHeads", spec := "fnExactLoopHeads", inPlace := ["internal/bytealg.CountString", "internal/bytealg.IndexByteString", "internal/bytealg.IndexString"], named := ["unicode/utf8.first", "unicode/utf8.acceptRanges", "internal/bytealg.MaxLen"], apart := false, laid := [("unicode/utf8.acceptRanges", laid_unicode_utf8_acceptRanges), ("unicode/utf8.first", laid_unicode_utf8_first)] }
def FnExactLoopHeadsSaid : Prop := fnExactLoopHeadsRow.holds Tryd.pinned (OpenSpec.ofChange fnExactLoopHeadsSpec)

/-- ITS FALSE NEIGHBOUR: 'it returns false'. Refute it at one input. -/
def fnExactLoopHeadsWrong : ChangeSpec := { name := "fnExactLoopHeads", fn := fun _ => fun
  | [d] => { results := [.lit (.bool false)], args := [d] }
  | _ => none }
def FnExactLoopHeadsWrongFalsely : Prop := fnExactLoopHeadsRow.holds Tryd.pinned (OpenSpec.ofChange fnExactLoopHeadsWrong)

/-- 'laws.FnExactDomsOf': WHATEVER THE INPUT: true; the input reads as it did. -/
def fnExactDomsOfSpec : ChangeSpec := { name := "fnExactDomsOf", fn := fun _ => fun
  | [d] => { results := [.lit (.bool true)], args := [d] }
  | _ => none }
def fnExactDomsOfRow : OpenClaim := { program := "ytelnmegngpocjaadoor", sum := "7aab5ceb01e9b2a8bd2d04c078f3b7dbd1ad11a1a7cd5c95c7e4fd42cbfba565", func := "loop.example/g00423/laws.FnExactDomsOf", spec := "fnExactDomsOf", inPlace := ["internal/bytealg.CountString", "internal/bytealg.IndexByteString", "internal/bytealg.IndexString"], named := ["unicode/utf8.first", "unicode/utf8.acceptRanges", "internal/bytealg.MaxLen"], apart := false, laid := [("unicode/utf8.acceptRanges", laid_unicode_utf8_acceptRanges), ("unicode/utf8.first", laid_unicode_utf8_first)] }
def FnExactDomsOfSaid : Prop := fnExactDomsOfRow.holds Tryd.pinned (OpenSpec.ofChange fnExactDomsOfSpec)

/-- ITS FALSE NEIGHBOUR: 'it returns false'. Refute it at one input. -/
def fnExactDomsOfWrong : ChangeSpec := { name := "fnExactDomsOf", fn := fun _ => fun
  | [d] => { results := [.lit (.bool false)], args := [d] }
  | _ => none }
def FnExactDomsOfWrongFalsely : Prop := fnExactDomsOfRow.holds Tryd.pinned (OpenSpec.ofChange fnExactDomsOfWrong)

/-- 'laws.FnExactMeasured': WHATEVER THE INPUT: true; the input reads as it did. -/
def fnExactMeasuredSpec : ChangeSpec := { name := "fnExactMeasured", fn := fun _ => fun
  | [d] => { results := [.lit (.bool true)], args := [d] }
  | _ => none }
def fnExactMeasuredRow : OpenClaim := { program := "ytelnmegngpocjaadoor", sum := "7aab5ceb01e9b2a8bd2d04c078f3b7dbd1ad11a1a7cd5c95c7e4fd42cbfba565", func := "loop.example/g00423/laws.FnExactMeasured", spec := "fnExactMeasured", inPlace := ["internal/bytealg.CountString", "internal/bytealg.IndexByteString", "internal/bytealg.IndexString"], named := ["unicode/utf8.first", "unicode/utf8.acceptRanges", "internal/bytealg.MaxLen"], apart := false, laid := [("unicode/utf8.acceptRanges", laid_unicode_utf8_acceptRanges), ("unicode/utf8.first", laid_unicode_utf8_first)] }
def FnExactMeasuredSaid : Prop := fnExactMeasuredRow.holds Tryd.pinned (OpenSpec.ofChange fnExactMeasuredSpec)

/-- ITS FALSE NEIGHBOUR: 'it returns false'. Refute it at one input. -/
def fnExactMeasuredWrong : ChangeSpec := { name := "fnExactMeasured", fn := fun _ => fun
  | [d] => { results := [.lit (.bool false)], args := [d] }
  | _ => none }
def FnExactMeasuredWrongFalsely : Prop := fnExactMeasuredRow.holds Tryd.pinned (OpenSpec.ofChange fnExactMeasuredWrong)

/-- 'laws.FnExactFoldsIn': WHATEVER THE INPUT: true; the input reads as it did. -/
def fnExactFoldsInSpec : ChangeSpec := { name := "fnExactFoldsIn", fn := fun _ => fun
  | [d] => { results := [.lit (.bool true)], args := [d] }
  | _ => none }
def fnExactFoldsInRow : OpenClaim := { program := "ytelnmegngpocjaadoor", sum := "7aab5ceb01e9b2a8bd2d04c078f3b7dbd1ad11a1a7cd5c95c7e4fd42cbfba565", func := "loop.example/g00423/laws.FnExactFoldsIn", spec := "fnExactFoldsIn", inPlace := ["internal/bytealg.CountString", "internal/bytealg.IndexByteString", "internal/bytealg.IndexString"], recurses := true, named := ["unicode/utf8.first", "unicode/utf8.acceptRanges", "internal/bytealg.MaxLen"], apart := false, laid := [("unicode/utf8.acceptRanges", laid_unicode_utf8_acceptRanges), ("unicode/utf8.first", laid_unicode_utf8_first)] }
def FnExactFoldsInSaid : Prop := fnExactFoldsInRow.holds Tryd.pinned (OpenSpec.ofChange fnExactFoldsInSpec)

/-- ITS FALSE NEIGHBOUR: 'it returns false'. Refute it at one input. -/
def fnExactFoldsInWrong : ChangeSpec := { name := "fnExactFoldsIn", fn := fun _ => fun
  | [d] => { results := [.lit (.bool false)], args := [d] }
  | _ => none }
def FnExactFoldsInWrongFalsely : Prop := fnExactFoldsInRow.holds Tryd.pinned (OpenSpec.ofChange fnExactFoldsInWrong)

/-- 'laws.FnExactHoldsAt': WHATEVER THE INPUT: true; the input reads as it did. -/
def fnExactHoldsAtSpec : ChangeSpec := { name := "fnExactHoldsAt", fn := fun _ => fun
  | [d] => { results := [.lit (.bool true)], args := [d] }
  | _ => none }
def fnExactHoldsAtRow : OpenClaim := { program := "ytelnmegngpocjaadoor", sum := "7aab5ceb01e9b2a8bd2d04c078f3b7dbd1ad11a1a7cd5c95c7e4fd42cbfba565", func := "loop.example/g00423/laws.FnExactHoldsAt", spec := "fnExactHoldsAt", inPlace := ["internal/bytealg.CountString", "internal/bytealg.IndexByteString", "internal/bytealg.IndexString"], unfollowed := true, recurses := true, named := ["unicode/utf8.first", "unicode/utf8.acceptRanges", "internal/bytealg.MaxLen"], apart := false, laid := [("unicode/utf8.acceptRanges", laid_unicode_utf8_acceptRanges), ("unicode/utf8.first", laid_unicode_utf8_first)] }
def FnExactHoldsAtSaid : Prop := fnExactHoldsAtRow.holds Tryd.pinned (OpenSpec.ofChange fnExactHoldsAtSpec)

/-- ITS FALSE NEIGHBOUR: 'it returns false'. Refute it at one input. -/
def fnExactHoldsAtWrong : ChangeSpec := { name := "fnExactHoldsAt", fn := fun _ => fun
  | [d] => { results := [.lit (.bool false)], args := [d] }
  | _ => none }
def FnExactHoldsAtWrongFalsely : Prop := fnExactHoldsAtRow.holds Tryd.pinned (OpenSpec.ofChange fnExactHoldsAtWrong)

/-- 'laws.FnExactLent': WHATEVER THE INPUT: true; the input reads as it did. -/
def fnExactLentSpec : ChangeSpec := { name := "fnExactLent", fn := fun _ => fun
  | [d] => { results := [.lit (.bool true)], args := [d] }
  | _ => none }
def fnExactLentRow : OpenClaim := { program := "ytelnmegngpocjaadoor", sum := "7aab5ceb01e9b2a8bd2d04c078f3b7dbd1ad11a1a7cd5c95c7e4fd42cbfba565", func := "loop.example/g00423/laws.FnExactLent", spec := "fnExactLent", inPlace := ["internal/bytealg.CountString", "internal/bytealg.IndexByteString", "internal/bytealg.IndexString"], unfollowed := true, recurses := true, named := ["unicode/utf8.first", "unicode/utf8.acceptRanges", "internal/bytealg.MaxLen"], apart := false, laid := [("unicode/utf8.acceptRanges", laid_unicode_utf8_acceptRanges), ("unicode/utf8.first", laid_unicode_utf8_first)] }
def FnExactLentSaid : Prop := fnExactLentRow.holds Tryd.pinned (OpenSpec.ofChange fnExactLentSpec)

/-- ITS FALSE NEIGHBOUR: 'it returns false'. Refute it at one input. -/
def fnExactLentWrong : ChangeSpec := { name := "fnExactLent", fn := fun _ => fun
  | [d] => { results := [.lit (.bool false)], args := [d] }
  | _ => none }
def FnExactLentWrongFalsely : Prop := fnExactLentRow.holds Tryd.pinned (OpenSpec.ofChange fnExactLentWrong)

/-- 'laws.FnExactInForce': WHATEVER THE INPUT: true; the input reads as it did. -/
def fnExactInForceSpec : ChangeSpec := { name := "fnExactInForce", fn := fun _ => fun
  | [d1, d2] => { results := [.lit (.bool true)], args := [d1, d2] }
  | _ => none }
def fnExactInForceRow : OpenClaim := { program := "ytelnmegngpocjaadoor", sum := "7aab5ceb01e9b2a8bd2d04c078f3b7dbd1ad11a1a7cd5c95c7e4fd42cbfba565", func := "loop.example/g00423/laws.FnExactInForce", spec := "fnExactInForce", inPlace := ["internal/bytealg.CountString", "internal/bytealg.IndexByteString", "internal/bytealg.IndexString"], unfollowed := true, recurses := true, named := ["unicode/utf8.first", "unicode/utf8.acceptRanges", "internal/bytealg.MaxLen"], apart := false, laid := [("unicode/utf8.acceptRanges", laid_unicode_utf8_acceptRanges), ("unicode/utf8.first", laid_unicode_utf8_first)] }
def FnExactInForceSaid : Prop := fnExactInForceRow.holds Tryd.pinned (OpenSpec.ofChange fnExactInForceSpec)

/-- ITS FALSE NEIGHBOUR: 'it returns false'. Refute it at one input. -/
def fnExactInForceWrong : ChangeSpec := { name := "fnExactInForce", fn := fun _ => fun
  | [d1, d2] => { results := [.lit (.bool false)], args := [d1, d2] }
  | _ => none }
def FnExactInForceWrongFalsely : Prop := fnExactInForceRow.holds Tryd.pinned (OpenSpec.ofChange fnExactInForceWrong)

/- THE SECOND FORM. 'bulk': how many values and letters a reading holds, each counted each time it is reached (what is shared counts as often as it is met; a slice's spare places count too). A statement '..UptoSaid' is the law's where the arguments, and the package variables that the reading takes, are together of bulk at most 1048576: NARROWER than '..Said'. Prove '..Said' where nothing that the law and all that it calls make is longer than what came in: it says more and counts as full. Else prove '..UptoSaid'. A law counts once. -/
mutual
def uptoBulk {H : Type} : DataW H → Nat
  | .lit (.string bytes) => bytes.length + 1
  | .lit _ => 1
  | .nil => 1
  | .ptr d => uptoBulk d + 1
  | .slice elems spare => uptoBulkAll elems + uptoBulkAll spare + 1
  | .agg parts => uptoBulkAll parts + 1
  | .iface _ d => uptoBulk d + 1
  | .map entries => uptoBulkEntries entries + 1
  | .held _ => 1
def uptoBulkAll {H : Type} : List (DataW H) → Nat
  | [] => 0
  | d :: r => uptoBulk d + uptoBulkAll r
def uptoBulkEntries {H : Type} : List (Lit × DataW H) → Nat
  | [] => 0
  | x :: r => uptoBulkEntry x + uptoBulkEntries r
def uptoBulkEntry {H : Type} : Lit × DataW H → Nat
  | (.string bytes, d) => bytes.length + uptoBulk d + 1
  | (_, d) => uptoBulk d + 1
 end
def uptoSmall : (H : Type) → List (DataW H) → Bool := fun _ ds => decide (uptoBulkAll ds ≤ 1048576)
def OpenSpec.upto (s : _root_.Go.ChangeSpec) : _root_.Go.OpenSpec := { _root_.Go.OpenSpec.ofChange s with cond := some uptoSmall }

/-- 'laws.FnExactLoopHeads', WHERE WHAT IT READS IS OF BULK AT MOST 1048576: true; the input reads as it did. -/
def fnExactLoopHeadsUptoRow : OpenClaim := { program := "ytelnmegngpocjaadoor", sum := "7aab5ceb01e9b2a8bd2d04c078f3b7dbd1ad11a1a7cd5c95c7e4fd42cbfba565", func := "loop.example/g00423/laws.FnExactLoopHeads", spec := "fnExactLoopHeads", inPlace := ["internal/bytealg.CountString", "internal/bytealg.IndexByteString", "internal/bytealg.IndexString"], named := ["unicode/utf8.first", "unicode/utf8.acceptRanges", "internal/bytealg.MaxLen"], apart := false, laid := [("unicode/utf8.acceptRanges", laid_unicode_utf8_acceptRanges), ("unicode/utf8.first", laid_unicode_utf8_first)], narrowed := true }
def FnExactLoopHeadsUptoSaid : Prop := fnExactLoopHeadsUptoRow.holds Tryd.pinned (OpenSpec.upto fnExactLoopHeadsSpec)

/-- 'laws.FnExactDomsOf', WHERE WHAT IT READS IS OF BULK AT MOST 1048576: true; the input reads as it did. -/
def fnExactDomsOfUptoRow : OpenClaim := { program := "ytelnmegngpocjaadoor", sum := "7aab5ceb01e9b2a8bd2d04c078f3b7dbd1ad11a1a7cd5c95c7e4fd42cbfba565", func := "loop.example/g00423/laws.FnExactDomsOf", spec := "fnExactDomsOf", inPlace := ["internal/bytealg.CountString", "internal/bytealg.IndexByteString", "internal/bytealg.IndexString"], named := ["unicode/utf8.first", "unicode/utf8.acceptRanges", "internal/bytealg.MaxLen"], apart := false, laid := [("unicode/utf8.acceptRanges", laid_unicode_utf8_acceptRanges), ("unicode/utf8.first", laid_unicode_utf8_first)], narrowed := true }
def FnExactDomsOfUptoSaid : Prop := fnExactDomsOfUptoRow.holds Tryd.pinned (OpenSpec.upto fnExactDomsOfSpec)

/-- 'laws.FnExactMeasured', WHERE WHAT IT READS IS OF BULK AT MOST 1048576: true; the input reads as it did. -/
def fnExactMeasuredUptoRow : OpenClaim := { program := "ytelnmegngpocjaadoor", sum := "7aab5ceb01e9b2a8bd2d04c078f3b7dbd1ad11a1a7cd5c95c7e4fd42cbfba565", func := "loop.example/g00423/laws.FnExactMeasured", spec := "fnExactMeasured", inPlace := ["internal/bytealg.CountString", "internal/bytealg.IndexByteString", "internal/bytealg.IndexString"], named := ["unicode/utf8.first", "unicode/utf8.acceptRanges", "internal/bytealg.MaxLen"], apart := false, laid := [("unicode/utf8.acceptRanges", laid_unicode_utf8_acceptRanges), ("unicode/utf8.first", laid_unicode_utf8_first)], narrowed := true }
def FnExactMeasuredUptoSaid : Prop := fnExactMeasuredUptoRow.holds Tryd.pinned (OpenSpec.upto fnExactMeasuredSpec)

/-- 'laws.FnExactFoldsIn', WHERE WHAT IT READS IS OF BULK AT MOST 1048576: true; the input reads as it did. -/
def fnExactFoldsInUptoRow : OpenClaim := { program := "ytelnmegngpocjaadoor", sum := "7aab5ceb01e9b2a8bd2d04c078f3b7dbd1ad11a1a7cd5c95c7e4fd42cbfba565", func := "loop.example/g00423/laws.FnExactFoldsIn", spec := "fnExactFoldsIn", inPlace := ["internal/bytealg.CountString", "internal/bytealg.IndexByteString", "internal/bytealg.IndexString"], recurses := true, named := ["unicode/utf8.first", "unicode/utf8.acceptRanges", "internal/bytealg.MaxLen"], apart := false, laid := [("unicode/utf8.acceptRanges", laid_unicode_utf8_acceptRanges), ("unicode/utf8.first", laid_unicode_utf8_first)], narrowed := true }
def FnExactFoldsInUptoSaid : Prop := fnExactFoldsInUptoRow.holds Tryd.pinned (OpenSpec.upto fnExactFoldsInSpec)

/-- 'laws.FnExactHoldsAt', WHERE WHAT IT READS IS OF BULK AT MOST 1048576: true; the input reads as it did. -/
def fnExactHoldsAtUptoRow : OpenClaim := { program := "ytelnmegngpocjaadoor", sum := "7aab5ceb01e9b2a8bd2d04c078f3b7dbd1ad11a1a7cd5c95c7e4fd42cbfba565", func := "loop.example/g00423/laws.FnExactHoldsAt", spec := "fnExactHoldsAt", inPlace := ["internal/bytealg.CountString", "internal/bytealg.IndexByteString", "internal/bytealg.IndexString"], unfollowed := true, recurses := true, named := ["unicode/utf8.first", "unicode/utf8.acceptRanges", "internal/bytealg.MaxLen"], apart := false, laid := [("unicode/utf8.acceptRanges", laid_unicode_utf8_acceptRanges), ("unicode/utf8.first", laid_unicode_utf8_first)], narrowed := true }
def FnExactHoldsAtUptoSaid : Prop := fnExactHoldsAtUptoRow.holds Tryd.pinned (OpenSpec.upto fnExactHoldsAtSpec)

/-- 'laws.FnExactLent', WHERE WHAT IT READS IS OF BULK AT MOST 1048576: true; the input reads as it did. -/
def fnExactLentUptoRow : OpenClaim := { program := "ytelnmegngpocjaadoor", sum := "7aab5ceb01e9b2a8bd2d04c078f3b7dbd1ad11a1a7cd5c95c7e4fd42cbfba565", func := "loop.example/g00423/laws.FnExactLent", spec := "fnExactLent", inPlace := ["internal/bytealg.CountString", "internal/bytealg.IndexByteString", "internal/bytealg.IndexString"], unfollowed := true, recurses := true, named := ["unicode/utf8.first", "unicode/utf8.acceptRanges", "internal/bytealg.MaxLen"], apart := false, laid := [("unicode/utf8.acceptRanges", laid_unicode_utf8_acceptRanges), ("unicode/utf8.first", laid_unicode_utf8_first)], narrowed := true }
def FnExactLentUptoSaid : Prop := fnExactLentUptoRow.holds Tryd.pinned (OpenSpec.upto fnExactLentSpec)

/-- 'laws.FnExactInForce', WHERE WHAT IT READS IS OF BULK AT MOST 1048576: true; the input reads as it did. -/
def fnExactInForceUptoRow : OpenClaim := { program := "ytelnmegngpocjaadoor", sum := "7aab5ceb01e9b2a8bd2d04c078f3b7dbd1ad11a1a7cd5c95c7e4fd42cbfba565", func := "loop.example/g00423/laws.FnExactInForce", spec := "fnExactInForce", inPlace := ["internal/bytealg.CountString", "internal/bytealg.IndexByteString", "internal/bytealg.IndexString"], unfollowed := true, recurses := true, named := ["unicode/utf8.first", "unicode/utf8.acceptRanges", "internal/bytealg.MaxLen"], apart := false, laid := [("unicode/utf8.acceptRanges", laid_unicode_utf8_acceptRanges), ("unicode/utf8.first", laid_unicode_utf8_first)], narrowed := true }
def FnExactInForceUptoSaid : Prop := fnExactInForceUptoRow.holds Tryd.pinned (OpenSpec.upto fnExactInForceSpec)

end Rows
end Go.Proofs.YtelnmegngpocjaaDoor
