/-
  No cell of these rows narrows 'for every input' (looked for: loops, veiled, ifaces, maps, wideKeys, modest, calm, conditions, laid).
  DERIVED. THE GIVEN ROWS OF THIS SEAT. 4 by the template 'for every input the law returns true; each argument reads behind the call as it read before'; 0 by the template 'total and deterministic' (their statements: YtchcogjfmbfccaaTotals.lean).
  GIVEN WITH THE SEED: the statements are not yours to turn. If you find one false, say at which input.
  Laid BY PROGRAM, IN A SANDBOX (cutbox-rows.mjs): the forced cells as the released guide's own fill.sh prints them over the translation fe9801cac5647b01… (all of the seat's roots in one cut). By AI agents, Wed Nov 11 2026. No macro, syntax, notation, axiom, sorry.
-/
import Derived.Test.YtchcogjfmbfccaaChecked
import GoSem.Claim
import GoSem.ClaimJoined
import GoSem.ClaimMapViews
import Derived.JoinedTies
import Derived.KernelRfl
namespace Go.Proofs.Ytchcogjfmbfccaa
/- THE CELL 'sum', in the pinned program and in every row, IS THE sha256 OF THE DUMP (.gsa) THAT YtchcogjfmbfccaaProg.lean LOADS. Nothing in Lean hashes anything: it is a label: what it is worth is what the hold of that sum in a sandbox is worth. -/
noncomputable def Try.pinned : Pinned := { name := "ytchcogjfmbfccaa", sum := "fe9801cac5647b01dd5503a211d3c34493776f3eb6addabe23e61fc5167755f2", checked := Try.checked }
namespace Rows
def none {H : Type} : Left H := { results := [], args := [] }

/-- 'laws.FnExactBlockAt': WHATEVER THE INPUT: true; the input reads as it did. -/
def fnExactBlockAtSpec : ChangeSpec := { name := "fnExactBlockAt", fn := fun _ => fun
  | [d1, d2] => { results := [.lit (.bool true)], args := [d1, d2] }
  | _ => none }
def fnExactBlockAtRow : OpenClaim := { program := "ytchcogjfmbfccaa", sum := "fe9801cac5647b01dd5503a211d3c34493776f3eb6addabe23e61fc5167755f2", func := "loop.example/g00423/laws.FnExactBlockAt", spec := "fnExactBlockAt", apart := false }
def FnExactBlockAtSaid : Prop := fnExactBlockAtRow.holds Try.pinned (OpenSpec.ofChange fnExactBlockAtSpec)

/-- ITS FALSE NEIGHBOUR: 'it returns false'. Refute it at one input. -/
def fnExactBlockAtWrong : ChangeSpec := { name := "fnExactBlockAt", fn := fun _ => fun
  | [d1, d2] => { results := [.lit (.bool false)], args := [d1, d2] }
  | _ => none }
def FnExactBlockAtWrongFalsely : Prop := fnExactBlockAtRow.holds Try.pinned (OpenSpec.ofChange fnExactBlockAtWrong)

/-- 'laws.FnExactCaseText': WHATEVER THE INPUT: true; the input reads as it did. -/
def fnExactCaseTextSpec : ChangeSpec := { name := "fnExactCaseText", fn := fun _ => fun
  | [d] => { results := [.lit (.bool true)], args := [d] }
  | _ => none }
def fnExactCaseTextRow : OpenClaim := { program := "ytchcogjfmbfccaa", sum := "fe9801cac5647b01dd5503a211d3c34493776f3eb6addabe23e61fc5167755f2", func := "loop.example/g00423/laws.FnExactCaseText", spec := "fnExactCaseText", apart := false }
def FnExactCaseTextSaid : Prop := fnExactCaseTextRow.holds Try.pinned (OpenSpec.ofChange fnExactCaseTextSpec)

/-- ITS FALSE NEIGHBOUR: 'it returns false'. Refute it at one input. -/
def fnExactCaseTextWrong : ChangeSpec := { name := "fnExactCaseText", fn := fun _ => fun
  | [d] => { results := [.lit (.bool false)], args := [d] }
  | _ => none }
def FnExactCaseTextWrongFalsely : Prop := fnExactCaseTextRow.holds Try.pinned (OpenSpec.ofChange fnExactCaseTextWrong)

/-- 'laws.FnExactReadCase': WHATEVER THE INPUT: true; the input reads as it did. -/
def fnExactReadCaseSpec : ChangeSpec := { name := "fnExactReadCase", fn := fun _ => fun
  | [d] => { results := [.lit (.bool true)], args := [d] }
  | _ => none }
def fnExactReadCaseRow : OpenClaim := { program := "ytchcogjfmbfccaa", sum := "fe9801cac5647b01dd5503a211d3c34493776f3eb6addabe23e61fc5167755f2", func := "loop.example/g00423/laws.FnExactReadCase", spec := "fnExactReadCase", apart := false }
def FnExactReadCaseSaid : Prop := fnExactReadCaseRow.holds Try.pinned (OpenSpec.ofChange fnExactReadCaseSpec)

/-- ITS FALSE NEIGHBOUR: 'it returns false'. Refute it at one input. -/
def fnExactReadCaseWrong : ChangeSpec := { name := "fnExactReadCase", fn := fun _ => fun
  | [d] => { results := [.lit (.bool false)], args := [d] }
  | _ => none }
def FnExactReadCaseWrongFalsely : Prop := fnExactReadCaseRow.holds Try.pinned (OpenSpec.ofChange fnExactReadCaseWrong)

/-- 'laws.FnExactKindCount': WHATEVER THE INPUT: true; the input reads as it did. -/
def fnExactKindCountSpec : ChangeSpec := { name := "fnExactKindCount", fn := fun _ => fun
  | [d1, d2] => { results := [.lit (.bool true)], args := [d1, d2] }
  | _ => none }
def fnExactKindCountRow : OpenClaim := { program := "ytchcogjfmbfccaa", sum := "fe9801cac5647b01dd5503a211d3c34493776f3eb6addabe23e61fc5167755f2", func := "loop.example/g00423/laws.FnExactKindCount", spec := "fnExactKindCount", apart := false }
def FnExactKindCountSaid : Prop := fnExactKindCountRow.holds Try.pinned (OpenSpec.ofChange fnExactKindCountSpec)

/-- ITS FALSE NEIGHBOUR: 'it returns false'. Refute it at one input. -/
def fnExactKindCountWrong : ChangeSpec := { name := "fnExactKindCount", fn := fun _ => fun
  | [d1, d2] => { results := [.lit (.bool false)], args := [d1, d2] }
  | _ => none }
def FnExactKindCountWrongFalsely : Prop := fnExactKindCountRow.holds Try.pinned (OpenSpec.ofChange fnExactKindCountWrong)

/- THE SECOND FORM. 'bulk': how many values and letters a reading holds, each counted each time it is reached (what is shared counts as often as it is met; a slice's spare places count too). A statement '..UptoSaid' is the law's where the arguments, and the package variables that the reading takes, are together of bulk at most 1048576: NARROWER than '..Said'. Prove '..Said' where nothing that the law and all that it calls make is longer than what came in: it says more and counts as full. Else prove '..UptoSaid'. A law counts once. -/
mutual
def uptoBulk {H : Type} : DataW H → Nat
  | .lit (.string bytes) => bytes.length + 1
  | .lit _ => 1
  | .nil => 1
  | .ptr d => uptoBulk d + 1
  | .slice elems spare => uptoBulkAll elems + uptoBulkAll spare + 1
  | .agg parts => uptoBulkAll parts + 1
  | .iface _ d => uptoBulk d + 1
  | .map entries => uptoBulkEntries entries + 1
  | .held _ => 1
def uptoBulkAll {H : Type} : List (DataW H) → Nat
  | [] => 0
  | d :: r => uptoBulk d + uptoBulkAll r
def uptoBulkEntries {H : Type} : List (Lit × DataW H) → Nat
  | [] => 0
  | x :: r => uptoBulkEntry x + uptoBulkEntries r
def uptoBulkEntry {H : Type} : Lit × DataW H → Nat
  | (.string bytes, d) => bytes.length + uptoBulk d + 1
  | (_, d) => uptoBulk d + 1
 end
def uptoSmall : (H : Type) → List (DataW H) → Bool := fun _ ds => decide (uptoBulkAll ds ≤ 1048576)
def OpenSpec.upto (s : _root_.Go.ChangeSpec) : _root_.Go.OpenSpec := { _root_.Go.OpenSpec.ofChange s with cond := some uptoSmall }

/-- 'laws.FnExactBlockAt', WHERE WHAT IT READS IS OF BULK AT MOST 1048576: true; the input reads as it did. -/
def fnExactBlockAtUptoRow : OpenClaim := { program := "ytchcogjfmbfccaa", sum := "fe9801cac5647b01dd5503a211d3c34493776f3eb6addabe23e61fc5167755f2", func := "loop.example/g00423/laws.FnExactBlockAt", spec := "fnExactBlockAt", apart := false, narrowed := true }
def FnExactBlockAtUptoSaid : Prop := fnExactBlockAtUptoRow.holds Try.pinned (OpenSpec.upto fnExactBlockAtSpec)

/-- 'laws.FnExactCaseText', WHERE WHAT IT READS IS OF BULK AT MOST 1048576: true; the input reads as it did. -/
def fnExactCaseTextUptoRow : OpenClaim := { program := "ytchcogjfmbfccaa", sum := "fe9801cac5647b01dd5503a211d3c34493776f3eb6addabe23e61fc5167755f2", func := "loop.example/g00423/laws.FnExactCaseText", spec := "fnExactCaseText", apart := false, narrowed := true }
def FnExactCaseTextUptoSaid : Prop := fnExactCaseTextUptoRow.holds Try.pinned (OpenSpec.upto fnExactCaseTextSpec)

/-- 'laws.FnExactReadCase', WHERE WHAT IT READS IS OF BULK AT MOST 1048576: true; the input reads as it did. -/
def fnExactReadCaseUptoRow : OpenClaim := { program := "ytchcogjfmbfccaa", sum := "fe9801cac5647b01dd5503a211d3c34493776f3eb6addabe23e61fc5167755f2", func := "loop.example/g00423/laws.FnExactReadCase", spec := "fnExactReadCase", apart := false, narrowed := true }
def FnExactReadCaseUptoSaid : Prop := fnExactReadCaseUptoRow.holds Try.pinned (OpenSpec.upto fnExactReadCaseSpec)

/-- 'laws.FnExactKindCount', WHERE WHAT IT READS IS OF BULK AT MOST 1048576: true; the input reads as it did. -/
def fnExactKindCountUptoRow : OpenClaim := { program := "ytchcogjfmbfccaa", sum := "fe9801cac5647b01dd5503a211d3c34493776f3eb6addabe23e61fc5167755f2", func := "loop.example/g00423/laws.FnExactKindCount", spec := "fnExactKindCount", apart := false, narrowed := true }
def FnExactKindCountUptoSaid : Prop := fnExactKindCountUptoRow.holds Try.pinned (OpenSpec.upto fnExactKindCountSpec)

end Rows
end Go.Proofs.Ytchcogjfmbfccaa
