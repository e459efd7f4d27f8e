/-
  DERIVED. GIVEN WITH THE SEED: THE CARDS: each row of YtaikgmffaohobaaGreatDoorRows.lean that lists a variable, with what it lists TIED to the program's text (the seventh form; the later family's looks); each row that meets fmt, with fmt's text TOLD by the authors' own Lean function (tested against real Go, not proved from fmt's source: count such statements apart). THE CARD IS WHAT COUNTS. Prove the row's statement (the work); the ties are given (YtaikgmffaohobaaGreatDoorTie.lean); close each card by the builder's one call (the guide's Derived/Test/ToyasCard.lean, 'card_holds'). Laid BY PROGRAM, IN A SANDBOX (cutbox-door.mjs). By AI agents, Wed Nov 11 2026. No macro, syntax, notation, axiom, sorry.
-/
import Derived.Test.YtaikgmffaohobaaGreatDoorRows
import GoSem.ClaimSeven
namespace Go.Proofs.YtaikgmffaohobaaGreatDoor
namespace Rows

/-- THE TIED CARD OF 'laws.FnExactChainOf'. -/
def fnExactChainOfCard : Claim7 := { stood := { row := fnExactChainOfRow, standIns := [], harness := (true, "723fbabf02c7527ab002ead2413e42c59981aa1c4f7f53c6058f358466440da4"), looks := false }, kinds := [], alts := [], laidByText := true, laidKinds := [.data, .pinned], laidTests := true, laidLooks := .later }
def FnExactChainOfCardSaid : Prop := Claim7.holds Tryz.pinned (.plain (OpenSpec.ofChange fnExactChainOfSpec)) fnExactChainOfCard

/-- THE TIED CARD OF 'laws.FnExactStripped'. -/
def fnExactStrippedCard : Claim7 := { stood := { row := fnExactStrippedRow, standIns := [], harness := (true, "723fbabf02c7527ab002ead2413e42c59981aa1c4f7f53c6058f358466440da4"), looks := false }, kinds := [], alts := [], laidByText := true, laidKinds := [.data, .pinned], laidTests := true, laidLooks := .later }
def FnExactStrippedCardSaid : Prop := Claim7.holds Tryz.pinned (.plain (OpenSpec.ofChange fnExactStrippedSpec)) fnExactStrippedCard

/-- THE SECOND FORM's CARD OF 'laws.FnExactChainOf'. -/
def fnExactChainOfUptoCard : Claim7 := { stood := { row := fnExactChainOfUptoRow, standIns := [], harness := (true, "723fbabf02c7527ab002ead2413e42c59981aa1c4f7f53c6058f358466440da4"), looks := false }, kinds := [], alts := [], laidByText := true, laidKinds := [.data, .pinned], laidTests := true, laidLooks := .later }
def FnExactChainOfUptoCardSaid : Prop := Claim7.holds Tryz.pinned (.plain (OpenSpec.upto fnExactChainOfSpec)) fnExactChainOfUptoCard

/-- THE SECOND FORM's CARD OF 'laws.FnExactStripped'. -/
def fnExactStrippedUptoCard : Claim7 := { stood := { row := fnExactStrippedUptoRow, standIns := [], harness := (true, "723fbabf02c7527ab002ead2413e42c59981aa1c4f7f53c6058f358466440da4"), looks := false }, kinds := [], alts := [], laidByText := true, laidKinds := [.data, .pinned], laidTests := true, laidLooks := .later }
def FnExactStrippedUptoCardSaid : Prop := Claim7.holds Tryz.pinned (.plain (OpenSpec.upto fnExactStrippedSpec)) fnExactStrippedUptoCard
end Rows
end Go.Proofs.YtaikgmffaohobaaGreatDoor
