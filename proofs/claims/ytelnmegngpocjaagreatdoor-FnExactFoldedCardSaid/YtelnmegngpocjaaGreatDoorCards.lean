/-
  DERIVED. GIVEN WITH THE SEED: THE CARDS: each row of YtelnmegngpocjaaGreatDoorRows.lean that lists a variable, with what it lists TIED to the program's text (the seventh form; the later family's looks); each row that meets fmt, with fmt's text TOLD by the authors' own Lean function (tested against real Go, not proved from fmt's source: count such statements apart). THE CARD IS WHAT COUNTS. Prove the row's statement (the work); the ties are given (YtelnmegngpocjaaGreatDoorTie.lean); close each card by the builder's one call (the guide's Derived/Test/ToyasCard.lean, 'card_holds'). Laid BY PROGRAM, IN A SANDBOX (cutbox-door.mjs). By AI agents, Wed Nov 11 2026. No macro, syntax, notation, axiom, sorry.
-/
import Derived.Test.YtelnmegngpocjaaGreatDoorRows
import GoSem.ClaimSeven
namespace Go.Proofs.YtelnmegngpocjaaGreatDoor
namespace Rows

/-- THE TIED CARD OF 'laws.FnExactFnNodes'. -/
def fnExactFnNodesCard : Claim7 := { stood := { row := fnExactFnNodesRow, standIns := [], harness := (true, "132ce1c1b7fe3e583e5728eaa16f9a557afec1f2b9884c66a34b6954f38cea67"), looks := false }, kinds := [], alts := [], laidByText := true, laidKinds := [.data, .pinned], laidTests := true, laidLooks := .later }
def FnExactFnNodesCardSaid : Prop := Claim7.holds Tryz.pinned (.plain (OpenSpec.ofChange fnExactFnNodesSpec)) fnExactFnNodesCard

/-- THE TIED CARD OF 'laws.FnExactFolded'. -/
def fnExactFoldedCard : Claim7 := { stood := { row := fnExactFoldedRow, standIns := [], harness := (true, "132ce1c1b7fe3e583e5728eaa16f9a557afec1f2b9884c66a34b6954f38cea67"), looks := false }, kinds := [], alts := [], laidByText := true, laidKinds := [.data, .pinned], laidTests := true, laidLooks := .later }
def FnExactFoldedCardSaid : Prop := Claim7.holds Tryz.pinned (.plain (OpenSpec.ofChange fnExactFoldedSpec)) fnExactFoldedCard

/-- THE TIED CARD OF 'laws.FnExactCallersOf'. -/
def fnExactCallersOfCard : Claim7 := { stood := { row := fnExactCallersOfRow, standIns := [], harness := (true, "132ce1c1b7fe3e583e5728eaa16f9a557afec1f2b9884c66a34b6954f38cea67"), looks := false }, kinds := [], alts := [], laidByText := true, laidKinds := [.data, .pinned], laidTests := true, laidLooks := .later }
def FnExactCallersOfCardSaid : Prop := Claim7.holds Tryz.pinned (.plain (OpenSpec.ofChange fnExactCallersOfSpec)) fnExactCallersOfCard

/-- THE TIED CARD OF 'laws.FnExactReachedFns'. -/
def fnExactReachedFnsCard : Claim7 := { stood := { row := fnExactReachedFnsRow, standIns := [], harness := (true, "132ce1c1b7fe3e583e5728eaa16f9a557afec1f2b9884c66a34b6954f38cea67"), looks := false }, kinds := [], alts := [], laidByText := true, laidKinds := [.data, .pinned], laidTests := true, laidLooks := .later }
def FnExactReachedFnsCardSaid : Prop := Claim7.holds Tryz.pinned (.plain (OpenSpec.ofChange fnExactReachedFnsSpec)) fnExactReachedFnsCard

/-- THE TIED CARD OF 'laws.FnExactDeadFns'. -/
def fnExactDeadFnsCard : Claim7 := { stood := { row := fnExactDeadFnsRow, standIns := [], harness := (true, "132ce1c1b7fe3e583e5728eaa16f9a557afec1f2b9884c66a34b6954f38cea67"), looks := false }, kinds := [], alts := [], laidByText := true, laidKinds := [.data, .pinned], laidTests := true, laidLooks := .later }
def FnExactDeadFnsCardSaid : Prop := Claim7.holds Tryz.pinned (.plain (OpenSpec.ofChange fnExactDeadFnsSpec)) fnExactDeadFnsCard

/-- THE SECOND FORM's CARD OF 'laws.FnExactFnNodes'. -/
def fnExactFnNodesUptoCard : Claim7 := { stood := { row := fnExactFnNodesUptoRow, standIns := [], harness := (true, "132ce1c1b7fe3e583e5728eaa16f9a557afec1f2b9884c66a34b6954f38cea67"), looks := false }, kinds := [], alts := [], laidByText := true, laidKinds := [.data, .pinned], laidTests := true, laidLooks := .later }
def FnExactFnNodesUptoCardSaid : Prop := Claim7.holds Tryz.pinned (.plain (OpenSpec.upto fnExactFnNodesSpec)) fnExactFnNodesUptoCard

/-- THE SECOND FORM's CARD OF 'laws.FnExactFolded'. -/
def fnExactFoldedUptoCard : Claim7 := { stood := { row := fnExactFoldedUptoRow, standIns := [], harness := (true, "132ce1c1b7fe3e583e5728eaa16f9a557afec1f2b9884c66a34b6954f38cea67"), looks := false }, kinds := [], alts := [], laidByText := true, laidKinds := [.data, .pinned], laidTests := true, laidLooks := .later }
def FnExactFoldedUptoCardSaid : Prop := Claim7.holds Tryz.pinned (.plain (OpenSpec.upto fnExactFoldedSpec)) fnExactFoldedUptoCard

/-- THE SECOND FORM's CARD OF 'laws.FnExactCallersOf'. -/
def fnExactCallersOfUptoCard : Claim7 := { stood := { row := fnExactCallersOfUptoRow, standIns := [], harness := (true, "132ce1c1b7fe3e583e5728eaa16f9a557afec1f2b9884c66a34b6954f38cea67"), looks := false }, kinds := [], alts := [], laidByText := true, laidKinds := [.data, .pinned], laidTests := true, laidLooks := .later }
def FnExactCallersOfUptoCardSaid : Prop := Claim7.holds Tryz.pinned (.plain (OpenSpec.upto fnExactCallersOfSpec)) fnExactCallersOfUptoCard

/-- THE SECOND FORM's CARD OF 'laws.FnExactReachedFns'. -/
def fnExactReachedFnsUptoCard : Claim7 := { stood := { row := fnExactReachedFnsUptoRow, standIns := [], harness := (true, "132ce1c1b7fe3e583e5728eaa16f9a557afec1f2b9884c66a34b6954f38cea67"), looks := false }, kinds := [], alts := [], laidByText := true, laidKinds := [.data, .pinned], laidTests := true, laidLooks := .later }
def FnExactReachedFnsUptoCardSaid : Prop := Claim7.holds Tryz.pinned (.plain (OpenSpec.upto fnExactReachedFnsSpec)) fnExactReachedFnsUptoCard

/-- THE SECOND FORM's CARD OF 'laws.FnExactDeadFns'. -/
def fnExactDeadFnsUptoCard : Claim7 := { stood := { row := fnExactDeadFnsUptoRow, standIns := [], harness := (true, "132ce1c1b7fe3e583e5728eaa16f9a557afec1f2b9884c66a34b6954f38cea67"), looks := false }, kinds := [], alts := [], laidByText := true, laidKinds := [.data, .pinned], laidTests := true, laidLooks := .later }
def FnExactDeadFnsUptoCardSaid : Prop := Claim7.holds Tryz.pinned (.plain (OpenSpec.upto fnExactDeadFnsSpec)) fnExactDeadFnsUptoCard
end Rows
end Go.Proofs.YtelnmegngpocjaaGreatDoor
