/-
  DERIVED. GIVEN WITH THE SEED: THE CARDS: each row of YtchcogjfmbfccaaDoorRows.lean that lists a variable, with what it lists TIED to the program's text (the seventh form; the later family's looks); each row that meets fmt, with fmt's text TOLD by the authors' own Lean function (tested against real Go, not proved from fmt's source: count such statements apart). THE CARD IS WHAT COUNTS. Prove the row's statement (the work); the ties are given (YtchcogjfmbfccaaDoorTie.lean); close each card by the builder's one call (the guide's Derived/Test/ToyasCard.lean, 'card_holds'). Laid BY PROGRAM, IN A SANDBOX (cutbox-door.mjs). By AI agents, Wed Nov 11 2026. No macro, syntax, notation, axiom, sorry.
-/
import Derived.Test.YtchcogjfmbfccaaDoorRows
import GoSem.ClaimSeven
namespace Go.Proofs.YtchcogjfmbfccaaDoor
namespace Rows

/-- THE TIED CARD OF 'laws.FnExactShowMeasure'. -/
def fnExactShowMeasureCard : Claim7 := { stood := { row := fnExactShowMeasureRow, standIns := [], harness := (true, "07d6b4d82baa83ba31d2b1a549674da9536140c3bfabaca233e344115bb4ff72"), looks := false }, kinds := [], alts := [], laidByText := true, laidKinds := [.data, .data, .data], laidTests := true, laidLooks := .later }
def FnExactShowMeasureCardSaid : Prop := Claim7.holds Tryd.pinned (.plain (OpenSpec.ofChange fnExactShowMeasureSpec)) fnExactShowMeasureCard

/-- THE TIED CARD OF 'laws.FnExactReachedWords'. -/
def fnExactReachedWordsCard : Claim7 := { stood := { row := fnExactReachedWordsRow, standIns := [], harness := (true, "07d6b4d82baa83ba31d2b1a549674da9536140c3bfabaca233e344115bb4ff72"), looks := false }, kinds := [], alts := [], laidByText := true, laidKinds := [.data, .pinned], laidTests := true, laidLooks := .later }
def FnExactReachedWordsCardSaid : Prop := Claim7.holds Tryd.pinned (.plain (OpenSpec.ofChange fnExactReachedWordsSpec)) fnExactReachedWordsCard

/-- THE TIED CARD OF 'laws.FnExactConstOf'. -/
def fnExactConstOfCard : Claim7 := { stood := { row := fnExactConstOfRow, standIns := [], harness := (true, "07d6b4d82baa83ba31d2b1a549674da9536140c3bfabaca233e344115bb4ff72"), looks := false }, kinds := [], alts := [], laidByText := true, laidKinds := [.data, .pinned], laidTests := true, laidLooks := .later }
def FnExactConstOfCardSaid : Prop := Claim7.holds Tryd.pinned (.plain (OpenSpec.ofChange fnExactConstOfSpec)) fnExactConstOfCard

/-- THE TIED CARD OF 'laws.FnExactFoldable'. -/
def fnExactFoldableCard : Claim7 := { stood := { row := fnExactFoldableRow, standIns := [], harness := (true, "07d6b4d82baa83ba31d2b1a549674da9536140c3bfabaca233e344115bb4ff72"), looks := false }, kinds := [], alts := [], laidByText := true, laidKinds := [.data, .pinned], laidTests := true, laidLooks := .later }
def FnExactFoldableCardSaid : Prop := Claim7.holds Tryd.pinned (.plain (OpenSpec.ofChange fnExactFoldableSpec)) fnExactFoldableCard

/-- THE TIED CARD OF 'laws.FnExactBlocksOf'. -/
def fnExactBlocksOfCard : Claim7 := { stood := { row := fnExactBlocksOfRow, standIns := [], harness := (true, "07d6b4d82baa83ba31d2b1a549674da9536140c3bfabaca233e344115bb4ff72"), looks := false }, kinds := [], alts := [], laidByText := true, laidKinds := [.data, .pinned], laidTests := true, laidLooks := .later }
def FnExactBlocksOfCardSaid : Prop := Claim7.holds Tryd.pinned (.plain (OpenSpec.ofChange fnExactBlocksOfSpec)) fnExactBlocksOfCard

/-- THE TIED CARD OF 'laws.FnExactMoves'. -/
def fnExactMovesCard : Claim7 := { stood := { row := fnExactMovesRow, standIns := [], harness := (true, "07d6b4d82baa83ba31d2b1a549674da9536140c3bfabaca233e344115bb4ff72"), looks := false }, kinds := [], alts := [], laidByText := true, laidKinds := [.data, .pinned], laidTests := true, laidLooks := .later }
def FnExactMovesCardSaid : Prop := Claim7.holds Tryd.pinned (.plain (OpenSpec.ofChange fnExactMovesSpec)) fnExactMovesCard

/-- THE TIED CARD OF 'laws.FnExactHasAt'. -/
def fnExactHasAtCard : Claim7 := { stood := { row := fnExactHasAtRow, standIns := [], harness := (true, "07d6b4d82baa83ba31d2b1a549674da9536140c3bfabaca233e344115bb4ff72"), looks := false }, kinds := [], alts := [], laidByText := true, laidKinds := [.data, .pinned], laidTests := true, laidLooks := .later }
def FnExactHasAtCardSaid : Prop := Claim7.holds Tryd.pinned (.plain (OpenSpec.ofChange fnExactHasAtSpec)) fnExactHasAtCard

/-- THE SECOND FORM's CARD OF 'laws.FnExactShowMeasure'. -/
def fnExactShowMeasureUptoCard : Claim7 := { stood := { row := fnExactShowMeasureUptoRow, standIns := [], harness := (true, "07d6b4d82baa83ba31d2b1a549674da9536140c3bfabaca233e344115bb4ff72"), looks := false }, kinds := [], alts := [], laidByText := true, laidKinds := [.data, .data, .data], laidTests := true, laidLooks := .later }
def FnExactShowMeasureUptoCardSaid : Prop := Claim7.holds Tryd.pinned (.plain (OpenSpec.upto fnExactShowMeasureSpec)) fnExactShowMeasureUptoCard

/-- THE SECOND FORM's CARD OF 'laws.FnExactReachedWords'. -/
def fnExactReachedWordsUptoCard : Claim7 := { stood := { row := fnExactReachedWordsUptoRow, standIns := [], harness := (true, "07d6b4d82baa83ba31d2b1a549674da9536140c3bfabaca233e344115bb4ff72"), looks := false }, kinds := [], alts := [], laidByText := true, laidKinds := [.data, .pinned], laidTests := true, laidLooks := .later }
def FnExactReachedWordsUptoCardSaid : Prop := Claim7.holds Tryd.pinned (.plain (OpenSpec.upto fnExactReachedWordsSpec)) fnExactReachedWordsUptoCard

/-- THE SECOND FORM's CARD OF 'laws.FnExactConstOf'. -/
def fnExactConstOfUptoCard : Claim7 := { stood := { row := fnExactConstOfUptoRow, standIns := [], harness := (true, "07d6b4d82baa83ba31d2b1a549674da9536140c3bfabaca233e344115bb4ff72"), looks := false }, kinds := [], alts := [], laidByText := true, laidKinds := [.data, .pinned], laidTests := true, laidLooks := .later }
def FnExactConstOfUptoCardSaid : Prop := Claim7.holds Tryd.pinned (.plain (OpenSpec.upto fnExactConstOfSpec)) fnExactConstOfUptoCard

/-- THE SECOND FORM's CARD OF 'laws.FnExactFoldable'. -/
def fnExactFoldableUptoCard : Claim7 := { stood := { row := fnExactFoldableUptoRow, standIns := [], harness := (true, "07d6b4d82baa83ba31d2b1a549674da9536140c3bfabaca233e344115bb4ff72"), looks := false }, kinds := [], alts := [], laidByText := true, laidKinds := [.data, .pinned], laidTests := true, laidLooks := .later }
def FnExactFoldableUptoCardSaid : Prop := Claim7.holds Tryd.pinned (.plain (OpenSpec.upto fnExactFoldableSpec)) fnExactFoldableUptoCard

/-- THE SECOND FORM's CARD OF 'laws.FnExactBlocksOf'. -/
def fnExactBlocksOfUptoCard : Claim7 := { stood := { row := fnExactBlocksOfUptoRow, standIns := [], harness := (true, "07d6b4d82baa83ba31d2b1a549674da9536140c3bfabaca233e344115bb4ff72"), looks := false }, kinds := [], alts := [], laidByText := true, laidKinds := [.data, .pinned], laidTests := true, laidLooks := .later }
def FnExactBlocksOfUptoCardSaid : Prop := Claim7.holds Tryd.pinned (.plain (OpenSpec.upto fnExactBlocksOfSpec)) fnExactBlocksOfUptoCard

/-- THE SECOND FORM's CARD OF 'laws.FnExactMoves'. -/
def fnExactMovesUptoCard : Claim7 := { stood := { row := fnExactMovesUptoRow, standIns := [], harness := (true, "07d6b4d82baa83ba31d2b1a549674da9536140c3bfabaca233e344115bb4ff72"), looks := false }, kinds := [], alts := [], laidByText := true, laidKinds := [.data, .pinned], laidTests := true, laidLooks := .later }
def FnExactMovesUptoCardSaid : Prop := Claim7.holds Tryd.pinned (.plain (OpenSpec.upto fnExactMovesSpec)) fnExactMovesUptoCard

/-- THE SECOND FORM's CARD OF 'laws.FnExactHasAt'. -/
def fnExactHasAtUptoCard : Claim7 := { stood := { row := fnExactHasAtUptoRow, standIns := [], harness := (true, "07d6b4d82baa83ba31d2b1a549674da9536140c3bfabaca233e344115bb4ff72"), looks := false }, kinds := [], alts := [], laidByText := true, laidKinds := [.data, .pinned], laidTests := true, laidLooks := .later }
def FnExactHasAtUptoCardSaid : Prop := Claim7.holds Tryd.pinned (.plain (OpenSpec.upto fnExactHasAtSpec)) fnExactHasAtUptoCard
end Rows
end Go.Proofs.YtchcogjfmbfccaaDoor
