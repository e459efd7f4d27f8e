/-
  DERIVED. GIVEN WITH THE SEED: THE CARDS: each row of YteibeahceppedaaGreatDoorRows.lean that lists a variable, with what it lists TIED to the program's text (the seventh form; the later family's looks); each row that meets fmt, with fmt's text TOLD by the authors' own Lean function (tested against real Go, not proved from fmt's source: count such statements apart). THE CARD IS WHAT COUNTS. Prove the row's statement (the work); the ties are given (YteibeahceppedaaGreatDoorTie.lean); close each card by the builder's one call (the guide's Derived/Test/ToyasCard.lean, 'card_holds'). Laid BY PROGRAM, IN A SANDBOX (cutbox-door.mjs). By AI agents, Wed Nov 11 2026. No macro, syntax, notation, axiom, sorry.
-/
import Derived.Test.YteibeahceppedaaGreatDoorRows
import GoSem.ClaimSeven
namespace Go.Proofs.YteibeahceppedaaGreatDoor
namespace Rows

/-- THE TIED CARD OF 'laws.FnFoldsTold'. -/
def fnFoldsToldCard : Claim7 := { stood := { row := fnFoldsToldRow, standIns := [], harness := (true, "d44dbfeab173468e2941f7bef48171b07ebe834e441300a6dc9eacff80e4b6e3"), looks := false }, kinds := [], alts := [], laidByText := true, laidKinds := [.data, .pinned], laidTests := true, laidLooks := .later }
def FnFoldsToldCardSaid : Prop := Claim7.holds Tryz.pinned (.plain (OpenSpec.ofChange fnFoldsToldSpec)) fnFoldsToldCard

/-- THE SECOND FORM's CARD OF 'laws.FnFoldsTold'. -/
def fnFoldsToldUptoCard : Claim7 := { stood := { row := fnFoldsToldUptoRow, standIns := [], harness := (true, "d44dbfeab173468e2941f7bef48171b07ebe834e441300a6dc9eacff80e4b6e3"), looks := false }, kinds := [], alts := [], laidByText := true, laidKinds := [.data, .pinned], laidTests := true, laidLooks := .later }
def FnFoldsToldUptoCardSaid : Prop := Claim7.holds Tryz.pinned (.plain (OpenSpec.upto fnFoldsToldSpec)) fnFoldsToldUptoCard
end Rows
end Go.Proofs.YteibeahceppedaaGreatDoor
