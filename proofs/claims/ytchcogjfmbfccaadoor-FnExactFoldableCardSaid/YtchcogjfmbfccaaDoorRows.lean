/-
  NARROWER THAN 'FOR EVERY INPUT', by the rows' own cells (each row's printed sentence says how): FnExactShowMeasure: laid · FnExactReachedWords: laid · FnExactConstOf: laid · FnExactFoldable: laid · FnExactBlocksOf: laid · FnExactMoves: laid · FnExactHasAt: laid.
  DERIVED. THE GIVEN ROWS OF THIS SEAT. 7 by the template 'for every input the law returns true; each argument reads behind the call as it read before'; 0 by the template 'total and deterministic' (their statements: YtchcogjfmbfccaaDoorTotals.lean).
  GIVEN WITH THE SEED: the statements are not yours to turn. If you find one false, say at which input.
  Laid BY PROGRAM, IN A SANDBOX (cutbox-rows.mjs): the forced cells as the released guide's own fill.sh prints them over the translation 997107db5d527c1f… (all of the seat's roots in one cut). By AI agents, Wed Nov 11 2026. No macro, syntax, notation, axiom, sorry.
-/
import Derived.Test.YtchcogjfmbfccaaDoorChecked
import GoSem.PinnedTables
import GoSem.Claim
import GoSem.ClaimJoined
import GoSem.ClaimMapViews
import Derived.JoinedTies
import Derived.KernelRfl
namespace Go.Proofs.YtchcogjfmbfccaaDoor
/- THE CELL 'sum', in the pinned program and in every row, IS THE sha256 OF THE DUMP (.gsa) THAT YtchcogjfmbfccaaDoorProg.lean LOADS. Nothing in Lean hashes anything: it is a label: what it is worth is what the hold of that sum in a sandbox is worth. -/
noncomputable def Tryd.pinned : Pinned := { name := "ytchcogjfmbfccaadoor", sum := "997107db5d527c1fa4fb23f3712093ced5c62b1e67d5e80728dc8c3102a959c2", checked := Tryd.checked }
namespace Rows
def none {H : Type} : Left H := { results := [], args := [] }

/- WHAT THE LISTED PACKAGE-LEVEL VARIABLES READ AS WHEN THE CALL BEGINS. Each datum BY PROGRAM (the guide's laid-datum.mjs) off the statement by which the dump's own 'gosem.cut.vars' lays the variable. In a bare row this is a premise. The card (YtchcogjfmbfccaaDoorCards.lean) ties it to the program's text. -/
def laid_math_bits_deBruijn32tab {H : Type} : DataW H := .agg [.lit (.int .u8 0), .lit (.int .u8 1), .lit (.int .u8 28), .lit (.int .u8 2), .lit (.int .u8 29), .lit (.int .u8 14), .lit (.int .u8 24), .lit (.int .u8 3), .lit (.int .u8 30), .lit (.int .u8 22), .lit (.int .u8 20), .lit (.int .u8 15), .lit (.int .u8 25), .lit (.int .u8 17), .lit (.int .u8 4), .lit (.int .u8 8), .lit (.int .u8 31), .lit (.int .u8 27), .lit (.int .u8 13), .lit (.int .u8 23), .lit (.int .u8 21), .lit (.int .u8 19), .lit (.int .u8 16), .lit (.int .u8 7), .lit (.int .u8 26), .lit (.int .u8 12), .lit (.int .u8 18), .lit (.int .u8 6), .lit (.int .u8 11), .lit (.int .u8 5), .lit (.int .u8 10), .lit (.int .u8 9)]
def laid_math_bits_deBruijn64tab {H : Type} : DataW H := .agg [.lit (.int .u8 0), .lit (.int .u8 1), .lit (.int .u8 56), .lit (.int .u8 2), .lit (.int .u8 57), .lit (.int .u8 49), .lit (.int .u8 28), .lit (.int .u8 3), .lit (.int .u8 61), .lit (.int .u8 58), .lit (.int .u8 42), .lit (.int .u8 50), .lit (.int .u8 38), .lit (.int .u8 29), .lit (.int .u8 17), .lit (.int .u8 4), .lit (.int .u8 62), .lit (.int .u8 47), .lit (.int .u8 59), .lit (.int .u8 36), .lit (.int .u8 45), .lit (.int .u8 43), .lit (.int .u8 51), .lit (.int .u8 22), .lit (.int .u8 53), .lit (.int .u8 39), .lit (.int .u8 33), .lit (.int .u8 30), .lit (.int .u8 24), .lit (.int .u8 18), .lit (.int .u8 12), .lit (.int .u8 5), .lit (.int .u8 63), .lit (.int .u8 55), .lit (.int .u8 48), .lit (.int .u8 27), .lit (.int .u8 60), .lit (.int .u8 41), .lit (.int .u8 37), .lit (.int .u8 16), .lit (.int .u8 46), .lit (.int .u8 35), .lit (.int .u8 44), .lit (.int .u8 21), .lit (.int .u8 52), .lit (.int .u8 32), .lit (.int .u8 23), .lit (.int .u8 11), .lit (.int .u8 54), .lit (.int .u8 26), .lit (.int .u8 40), .lit (.int .u8 15), .lit (.int .u8 34), .lit (.int .u8 20), .lit (.int .u8 31), .lit (.int .u8 10), .lit (.int .u8 25), .lit (.int .u8 14), .lit (.int .u8 19), .lit (.int .u8 9), .lit (.int .u8 13), .lit (.int .u8 8), .lit (.int .u8 7), .lit (.int .u8 6)]
def laid_internal_strconv_uint64pow10 {H : Type} : DataW H := .agg [.lit (.int .u64 1), .lit (.int .u64 10), .lit (.int .u64 100), .lit (.int .u64 1000), .lit (.int .u64 10000), .lit (.int .u64 100000), .lit (.int .u64 1000000), .lit (.int .u64 10000000), .lit (.int .u64 100000000), .lit (.int .u64 1000000000), .lit (.int .u64 10000000000), .lit (.int .u64 100000000000), .lit (.int .u64 1000000000000), .lit (.int .u64 10000000000000), .lit (.int .u64 100000000000000), .lit (.int .u64 1000000000000000), .lit (.int .u64 10000000000000000), .lit (.int .u64 100000000000000000), .lit (.int .u64 1000000000000000000), .lit (.int .u64 10000000000000000000)]
def laid_unicode_utf8_acceptRanges {H : Type} : DataW H := .agg [.agg [.lit (.int .u8 128), .lit (.int .u8 191)], .agg [.lit (.int .u8 160), .lit (.int .u8 191)], .agg [.lit (.int .u8 128), .lit (.int .u8 159)], .agg [.lit (.int .u8 144), .lit (.int .u8 191)], .agg [.lit (.int .u8 128), .lit (.int .u8 143)], .agg [.lit (.int .u8 0), .lit (.int .u8 0)], .agg [.lit (.int .u8 0), .lit (.int .u8 0)], .agg [.lit (.int .u8 0), .lit (.int .u8 0)], .agg [.lit (.int .u8 0), .lit (.int .u8 0)], .agg [.lit (.int .u8 0), .lit (.int .u8 0)], .agg [.lit (.int .u8 0), .lit (.int .u8 0)], .agg [.lit (.int .u8 0), .lit (.int .u8 0)], .agg [.lit (.int .u8 0), .lit (.int .u8 0)], .agg [.lit (.int .u8 0), .lit (.int .u8 0)], .agg [.lit (.int .u8 0), .lit (.int .u8 0)], .agg [.lit (.int .u8 0), .lit (.int .u8 0)]]
/-- One of Go's own tables, pinned by name: the form's constant. -/
def laid_unicode_utf8_first : DataW Unit := Go.Pinned.utf8First

/-- 'laws.FnExactShowMeasure': WHATEVER THE INPUT: true; the input reads as it did. -/
def fnExactShowMeasureSpec : ChangeSpec := { name := "fnExactShowMeasure", fn := fun _ => fun
  | [d] => { results := [.lit (.bool true)], args := [d] }
  | _ => none }
def fnExactShowMeasureRow : OpenClaim := { program := "ytchcogjfmbfccaadoor", sum := "997107db5d527c1fa4fb23f3712093ced5c62b1e67d5e80728dc8c3102a959c2", func := "loop.example/g00423/laws.FnExactShowMeasure", spec := "fnExactShowMeasure", unfollowed := true, recurses := true, named := ["internal/strconv.uint64pow10", "math/bits.deBruijn32tab", "math/bits.deBruijn64tab"], apart := false, laid := [("math/bits.deBruijn32tab", laid_math_bits_deBruijn32tab), ("math/bits.deBruijn64tab", laid_math_bits_deBruijn64tab), ("internal/strconv.uint64pow10", laid_internal_strconv_uint64pow10)] }
def FnExactShowMeasureSaid : Prop := fnExactShowMeasureRow.holds Tryd.pinned (OpenSpec.ofChange fnExactShowMeasureSpec)

/-- ITS FALSE NEIGHBOUR: 'it returns false'. Refute it at one input. -/
def fnExactShowMeasureWrong : ChangeSpec := { name := "fnExactShowMeasure", fn := fun _ => fun
  | [d] => { results := [.lit (.bool false)], args := [d] }
  | _ => none }
def FnExactShowMeasureWrongFalsely : Prop := fnExactShowMeasureRow.holds Tryd.pinned (OpenSpec.ofChange fnExactShowMeasureWrong)

/-- 'laws.FnExactReachedWords': WHATEVER THE INPUT: true; the input reads as it did. -/
def fnExactReachedWordsSpec : ChangeSpec := { name := "fnExactReachedWords", fn := fun _ => fun
  | [d] => { results := [.lit (.bool true)], args := [d] }
  | _ => none }
def fnExactReachedWordsRow : OpenClaim := { program := "ytchcogjfmbfccaadoor", sum := "997107db5d527c1fa4fb23f3712093ced5c62b1e67d5e80728dc8c3102a959c2", func := "loop.example/g00423/laws.FnExactReachedWords", spec := "fnExactReachedWords", inPlace := ["internal/bytealg.CountString", "internal/bytealg.IndexByteString", "internal/bytealg.IndexString"], named := ["unicode/utf8.first", "unicode/utf8.acceptRanges", "internal/bytealg.MaxLen"], apart := false, laid := [("unicode/utf8.acceptRanges", laid_unicode_utf8_acceptRanges), ("unicode/utf8.first", laid_unicode_utf8_first)] }
def FnExactReachedWordsSaid : Prop := fnExactReachedWordsRow.holds Tryd.pinned (OpenSpec.ofChange fnExactReachedWordsSpec)

/-- ITS FALSE NEIGHBOUR: 'it returns false'. Refute it at one input. -/
def fnExactReachedWordsWrong : ChangeSpec := { name := "fnExactReachedWords", fn := fun _ => fun
  | [d] => { results := [.lit (.bool false)], args := [d] }
  | _ => none }
def FnExactReachedWordsWrongFalsely : Prop := fnExactReachedWordsRow.holds Tryd.pinned (OpenSpec.ofChange fnExactReachedWordsWrong)

/-- 'laws.FnExactConstOf': WHATEVER THE INPUT: true; the input reads as it did. -/
def fnExactConstOfSpec : ChangeSpec := { name := "fnExactConstOf", fn := fun _ => fun
  | [d1, d2] => { results := [.lit (.bool true)], args := [d1, d2] }
  | _ => none }
def fnExactConstOfRow : OpenClaim := { program := "ytchcogjfmbfccaadoor", sum := "997107db5d527c1fa4fb23f3712093ced5c62b1e67d5e80728dc8c3102a959c2", func := "loop.example/g00423/laws.FnExactConstOf", spec := "fnExactConstOf", inPlace := ["internal/bytealg.CountString", "internal/bytealg.IndexByteString", "internal/bytealg.IndexString"], recurses := true, named := ["unicode/utf8.first", "unicode/utf8.acceptRanges", "internal/bytealg.MaxLen"], apart := false, laid := [("unicode/utf8.acceptRanges", laid_unicode_utf8_acceptRanges), ("unicode/utf8.first", laid_unicode_utf8_first)] }
def FnExactConstOfSaid : Prop := fnExactConstOfRow.holds Tryd.pinned (OpenSpec.ofChange fnExactConstOfSpec)

/-- ITS FALSE NEIGHBOUR: 'it returns false'. Refute it at one input. -/
def fnExactConstOfWrong : ChangeSpec := { name := "fnExactConstOf", fn := fun _ => fun
  | [d1, d2] => { results := [.lit (.bool false)], args := [d1, d2] }
  | _ => none }
def FnExactConstOfWrongFalsely : Prop := fnExactConstOfRow.holds Tryd.pinned (OpenSpec.ofChange fnExactConstOfWrong)

/-- 'laws.FnExactFoldable': WHATEVER THE INPUT: true; the input reads as it did. -/
def fnExactFoldableSpec : ChangeSpec := { name := "fnExactFoldable", fn := fun _ => fun
  | [d1, d2] => { results := [.lit (.bool true)], args := [d1, d2] }
  | _ => none }
def fnExactFoldableRow : OpenClaim := { program := "ytchcogjfmbfccaadoor", sum := "997107db5d527c1fa4fb23f3712093ced5c62b1e67d5e80728dc8c3102a959c2", func := "loop.example/g00423/laws.FnExactFoldable", spec := "fnExactFoldable", inPlace := ["internal/bytealg.CountString", "internal/bytealg.IndexByteString", "internal/bytealg.IndexString"], recurses := true, named := ["unicode/utf8.first", "unicode/utf8.acceptRanges", "internal/bytealg.MaxLen"], apart := false, laid := [("unicode/utf8.acceptRanges", laid_unicode_utf8_acceptRanges), ("unicode/utf8.first", laid_unicode_utf8_first)] }
def FnExactFoldableSaid : Prop := fnExactFoldableRow.holds Tryd.pinned (OpenSpec.ofChange fnExactFoldableSpec)

/-- ITS FALSE NEIGHBOUR: 'it returns false'. Refute it at one input. -/
def fnExactFoldableWrong : ChangeSpec := { name := "fnExactFoldable", fn := fun _ => fun
  | [d1, d2] => { results := [.lit (.bool false)], args := [d1, d2] }
  | _ => none }
def FnExactFoldableWrongFalsely : Prop := fnExactFoldableRow.holds Tryd.pinned (OpenSpec.ofChange fnExactFoldableWrong)

/-- 'laws.FnExactBlocksOf': WHATEVER THE INPUT: true; the input reads as it did. -/
def fnExactBlocksOfSpec : ChangeSpec := { name := "fnExactBlocksOf", fn := fun _ => fun
  | [d] => { results := [.lit (.bool true)], args := [d] }
  | _ => none }
def fnExactBlocksOfRow : OpenClaim := { program := "ytchcogjfmbfccaadoor", sum := "997107db5d527c1fa4fb23f3712093ced5c62b1e67d5e80728dc8c3102a959c2", func := "loop.example/g00423/laws.FnExactBlocksOf", spec := "fnExactBlocksOf", inPlace := ["internal/bytealg.CountString", "internal/bytealg.IndexByteString", "internal/bytealg.IndexString"], named := ["unicode/utf8.first", "unicode/utf8.acceptRanges", "internal/bytealg.MaxLen"], apart := false, laid := [("unicode/utf8.acceptRanges", laid_unicode_utf8_acceptRanges), ("unicode/utf8.first", laid_unicode_utf8_first)] }
def FnExactBlocksOfSaid : Prop := fnExactBlocksOfRow.holds Tryd.pinned (OpenSpec.ofChange fnExactBlocksOfSpec)

/-- ITS FALSE NEIGHBOUR: 'it returns false'. Refute it at one input. -/
def fnExactBlocksOfWrong : ChangeSpec := { name := "fnExactBlocksOf", fn := fun _ => fun
  | [d] => { results := [.lit (.bool false)], args := [d] }
  | _ => none }
def FnExactBlocksOfWrongFalsely : Prop := fnExactBlocksOfRow.holds Tryd.pinned (OpenSpec.ofChange fnExactBlocksOfWrong)

/-- 'laws.FnExactMoves': WHATEVER THE INPUT: true; the input reads as it did. -/
def fnExactMovesSpec : ChangeSpec := { name := "fnExactMoves", fn := fun _ => fun
  | [d] => { results := [.lit (.bool true)], args := [d] }
  | _ => none }
def fnExactMovesRow : OpenClaim := { program := "ytchcogjfmbfccaadoor", sum := "997107db5d527c1fa4fb23f3712093ced5c62b1e67d5e80728dc8c3102a959c2", func := "loop.example/g00423/laws.FnExactMoves", spec := "fnExactMoves", inPlace := ["internal/bytealg.CountString", "internal/bytealg.IndexByteString", "internal/bytealg.IndexString"], named := ["unicode/utf8.first", "unicode/utf8.acceptRanges", "internal/bytealg.MaxLen"], apart := false, laid := [("unicode/utf8.acceptRanges", laid_unicode_utf8_acceptRanges), ("unicode/utf8.first", laid_unicode_utf8_first)] }
def FnExactMovesSaid : Prop := fnExactMovesRow.holds Tryd.pinned (OpenSpec.ofChange fnExactMovesSpec)

/-- ITS FALSE NEIGHBOUR: 'it returns false'. Refute it at one input. -/
def fnExactMovesWrong : ChangeSpec := { name := "fnExactMoves", fn := fun _ => fun
  | [d] => { results := [.lit (.bool false)], args := [d] }
  | _ => none }
def FnExactMovesWrongFalsely : Prop := fnExactMovesRow.holds Tryd.pinned (OpenSpec.ofChange fnExactMovesWrong)

/-- 'laws.FnExactHasAt': WHATEVER THE INPUT: true; the input reads as it did. -/
def fnExactHasAtSpec : ChangeSpec := { name := "fnExactHasAt", fn := fun _ => fun
  | [d] => { results := [.lit (.bool true)], args := [d] }
  | _ => none }
def fnExactHasAtRow : OpenClaim := { program := "ytchcogjfmbfccaadoor", sum := "997107db5d527c1fa4fb23f3712093ced5c62b1e67d5e80728dc8c3102a959c2", func := "loop.example/g00423/laws.FnExactHasAt", spec := "fnExactHasAt", inPlace := ["internal/bytealg.CountString", "internal/bytealg.IndexByteString", "internal/bytealg.IndexString"], named := ["unicode/utf8.first", "unicode/utf8.acceptRanges", "internal/bytealg.MaxLen"], apart := false, laid := [("unicode/utf8.acceptRanges", laid_unicode_utf8_acceptRanges), ("unicode/utf8.first", laid_unicode_utf8_first)] }
def FnExactHasAtSaid : Prop := fnExactHasAtRow.holds Tryd.pinned (OpenSpec.ofChange fnExactHasAtSpec)

/-- ITS FALSE NEIGHBOUR: 'it returns false'. Refute it at one input. -/
def fnExactHasAtWrong : ChangeSpec := { name := "fnExactHasAt", fn := fun _ => fun
  | [d] => { results := [.lit (.bool false)], args := [d] }
  | _ => none }
def FnExactHasAtWrongFalsely : Prop := fnExactHasAtRow.holds Tryd.pinned (OpenSpec.ofChange fnExactHasAtWrong)

/- THE SECOND FORM. 'bulk': how many values and letters a reading holds, each counted each time it is reached (what is shared counts as often as it is met; a slice's spare places count too). A statement '..UptoSaid' is the law's where the arguments, and the package variables that the reading takes, are together of bulk at most 1048576: NARROWER than '..Said'. Prove '..Said' where nothing that the law and all that it calls make is longer than what came in: it says more and counts as full. Else prove '..UptoSaid'. A law counts once. -/
mutual
def uptoBulk {H : Type} : DataW H → Nat
  | .lit (.string bytes) => bytes.length + 1
  | .lit _ => 1
  | .nil => 1
  | .ptr d => uptoBulk d + 1
  | .slice elems spare => uptoBulkAll elems + uptoBulkAll spare + 1
  | .agg parts => uptoBulkAll parts + 1
  | .iface _ d => uptoBulk d + 1
  | .map entries => uptoBulkEntries entries + 1
  | .held _ => 1
def uptoBulkAll {H : Type} : List (DataW H) → Nat
  | [] => 0
  | d :: r => uptoBulk d + uptoBulkAll r
def uptoBulkEntries {H : Type} : List (Lit × DataW H) → Nat
  | [] => 0
  | x :: r => uptoBulkEntry x + uptoBulkEntries r
def uptoBulkEntry {H : Type} : Lit × DataW H → Nat
  | (.string bytes, d) => bytes.length + uptoBulk d + 1
  | (_, d) => uptoBulk d + 1
 end
def uptoSmall : (H : Type) → List (DataW H) → Bool := fun _ ds => decide (uptoBulkAll ds ≤ 1048576)
def OpenSpec.upto (s : _root_.Go.ChangeSpec) : _root_.Go.OpenSpec := { _root_.Go.OpenSpec.ofChange s with cond := some uptoSmall }

/-- 'laws.FnExactShowMeasure', WHERE WHAT IT READS IS OF BULK AT MOST 1048576: true; the input reads as it did. -/
def fnExactShowMeasureUptoRow : OpenClaim := { program := "ytchcogjfmbfccaadoor", sum := "997107db5d527c1fa4fb23f3712093ced5c62b1e67d5e80728dc8c3102a959c2", func := "loop.example/g00423/laws.FnExactShowMeasure", spec := "fnExactShowMeasure", unfollowed := true, recurses := true, named := ["internal/strconv.uint64pow10", "math/bits.deBruijn32tab", "math/bits.deBruijn64tab"], apart := false, laid := [("math/bits.deBruijn32tab", laid_math_bits_deBruijn32tab), ("math/bits.deBruijn64tab", laid_math_bits_deBruijn64tab), ("internal/strconv.uint64pow10", laid_internal_strconv_uint64pow10)], narrowed := true }
def FnExactShowMeasureUptoSaid : Prop := fnExactShowMeasureUptoRow.holds Tryd.pinned (OpenSpec.upto fnExactShowMeasureSpec)

/-- 'laws.FnExactReachedWords', WHERE WHAT IT READS IS OF BULK AT MOST 1048576: true; the input reads as it did. -/
def fnExactReachedWordsUptoRow : OpenClaim := { program := "ytchcogjfmbfccaadoor", sum := "997107db5d527c1fa4fb23f3712093ced5c62b1e67d5e80728dc8c3102a959c2", func := "loop.example/g00423/laws.FnExactReachedWords", spec := "fnExactReachedWords", inPlace := ["internal/bytealg.CountString", "internal/bytealg.IndexByteString", "internal/bytealg.IndexString"], named := ["unicode/utf8.first", "unicode/utf8.acceptRanges", "internal/bytealg.MaxLen"], apart := false, laid := [("unicode/utf8.acceptRanges", laid_unicode_utf8_acceptRanges), ("unicode/utf8.first", laid_unicode_utf8_first)], narrowed := true }
def FnExactReachedWordsUptoSaid : Prop := fnExactReachedWordsUptoRow.holds Tryd.pinned (OpenSpec.upto fnExactReachedWordsSpec)

/-- 'laws.FnExactConstOf', WHERE WHAT IT READS IS OF BULK AT MOST 1048576: true; the input reads as it did. -/
def fnExactConstOfUptoRow : OpenClaim := { program := "ytchcogjfmbfccaadoor", sum := "997107db5d527c1fa4fb23f3712093ced5c62b1e67d5e80728dc8c3102a959c2", func := "loop.example/g00423/laws.FnExactConstOf", spec := "fnExactConstOf", inPlace := ["internal/bytealg.CountString", "internal/bytealg.IndexByteString", "internal/bytealg.IndexString"], recurses := true, named := ["unicode/utf8.first", "unicode/utf8.acceptRanges", "internal/bytealg.MaxLen"], apart := false, laid := [("unicode/utf8.acceptRanges", laid_unicode_utf8_acceptRanges), ("unicode/utf8.first", laid_unicode_utf8_first)], narrowed := true }
def FnExactConstOfUptoSaid : Prop := fnExactConstOfUptoRow.holds Tryd.pinned (OpenSpec.upto fnExactConstOfSpec)

/-- 'laws.FnExactFoldable', WHERE WHAT IT READS IS OF BULK AT MOST 1048576: true; the input reads as it did. -/
def fnExactFoldableUptoRow : OpenClaim := { program := "ytchcogjfmbfccaadoor", sum := "997107db5d527c1fa4fb23f3712093ced5c62b1e67d5e80728dc8c3102a959c2", func := "loop.example/g00423/laws.FnExactFoldable", spec := "fnExactFoldable", inPlace := ["internal/bytealg.CountString", "internal/bytealg.IndexByteString", "internal/bytealg.IndexString"], recurses := true, named := ["unicode/utf8.first", "unicode/utf8.acceptRanges", "internal/bytealg.MaxLen"], apart := false, laid := [("unicode/utf8.acceptRanges", laid_unicode_utf8_acceptRanges), ("unicode/utf8.first", laid_unicode_utf8_first)], narrowed := true }
def FnExactFoldableUptoSaid : Prop := fnExactFoldableUptoRow.holds Tryd.pinned (OpenSpec.upto fnExactFoldableSpec)

/-- 'laws.FnExactBlocksOf', WHERE WHAT IT READS IS OF BULK AT MOST 1048576: true; the input reads as it did. -/
def fnExactBlocksOfUptoRow : OpenClaim := { program := "ytchcogjfmbfccaadoor", sum := "997107db5d527c1fa4fb23f3712093ced5c62b1e67d5e80728dc8c3102a959c2", func := "loop.example/g00423/laws.FnExactBlocksOf", spec := "fnExactBlocksOf", inPlace := ["internal/bytealg.CountString", "internal/bytealg.IndexByteString", "internal/bytealg.IndexString"], named := ["unicode/utf8.first", "unicode/utf8.acceptRanges", "internal/bytealg.MaxLen"], apart := false, laid := [("unicode/utf8.acceptRanges", laid_unicode_utf8_acceptRanges), ("unicode/utf8.first", laid_unicode_utf8_first)], narrowed := true }
def FnExactBlocksOfUptoSaid : Prop := fnExactBlocksOfUptoRow.holds Tryd.pinned (OpenSpec.upto fnExactBlocksOfSpec)

/-- 'laws.FnExactMoves', WHERE WHAT IT READS IS OF BULK AT MOST 1048576: true; the input reads as it did. -/
def fnExactMovesUptoRow : OpenClaim := { program := "ytchcogjfmbfccaadoor", sum := "997107db5d527c1fa4fb23f3712093ced5c62b1e67d5e80728dc8c3102a959c2", func := "loop.example/g00423/laws.FnExactMoves", spec := "fnExactMoves", inPlace := ["internal/bytealg.CountString", "internal/bytealg.IndexByteString", "internal/bytealg.IndexString"], named := ["unicode/utf8.first", "unicode/utf8.acceptRanges", "internal/bytealg.MaxLen"], apart := false, laid := [("unicode/utf8.acceptRanges", laid_unicode_utf8_acceptRanges), ("unicode/utf8.first", laid_unicode_utf8_first)], narrowed := true }
def FnExactMovesUptoSaid : Prop := fnExactMovesUptoRow.holds Tryd.pinned (OpenSpec.upto fnExactMovesSpec)

/-- 'laws.FnExactHasAt', WHERE WHAT IT READS IS OF BULK AT MOST 1048576: true; the input reads as it did. -/
def fnExactHasAtUptoRow : OpenClaim := { program := "ytchcogjfmbfccaadoor", sum := "997107db5d527c1fa4fb23f3712093ced5c62b1e67d5e80728dc8c3102a959c2", func := "loop.example/g00423/laws.FnExactHasAt", spec := "fnExactHasAt", inPlace := ["internal/bytealg.CountString", "internal/bytealg.IndexByteString", "internal/bytealg.IndexString"], named := ["unicode/utf8.first", "unicode/utf8.acceptRanges", "internal/bytealg.MaxLen"], apart := false, laid := [("unicode/utf8.acceptRanges", laid_unicode_utf8_acceptRanges), ("unicode/utf8.first", laid_unicode_utf8_first)], narrowed := true }
def FnExactHasAtUptoSaid : Prop := fnExactHasAtUptoRow.holds Tryd.pinned (OpenSpec.upto fnExactHasAtSpec)

end Rows
end Go.Proofs.YtchcogjfmbfccaaDoor
