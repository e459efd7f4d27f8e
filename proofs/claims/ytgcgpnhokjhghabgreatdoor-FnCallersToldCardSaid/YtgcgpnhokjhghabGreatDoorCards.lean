/-
  DERIVED. GIVEN WITH THE SEED: THE CARDS: each row of YtgcgpnhokjhghabGreatDoorRows.lean that lists a variable, with what it lists TIED to the program's text (the seventh form; the later family's looks); each row that meets fmt, with fmt's text TOLD by the authors' own Lean function (tested against real Go, not proved from fmt's source: count such statements apart). THE CARD IS WHAT COUNTS. Prove the row's statement (the work); the ties are given (YtgcgpnhokjhghabGreatDoorTie.lean); close each card by the builder's one call (the guide's Derived/Test/ToyasCard.lean, 'card_holds'). Laid BY PROGRAM, IN A SANDBOX (cutbox-door.mjs). By AI agents, Wed Nov 11 2026. No macro, syntax, notation, axiom, sorry.
-/
import Derived.Test.YtgcgpnhokjhghabGreatDoorRows
import GoSem.ClaimSeven
namespace Go.Proofs.YtgcgpnhokjhghabGreatDoor
namespace Rows

/-- THE TIED CARD OF 'laws.FnCallersTold'. -/
def fnCallersToldCard : Claim7 := { stood := { row := fnCallersToldRow, standIns := [], harness := (true, "861bd905cc20f251d4024e75ab892c0931c28e23030012d4c97c8b5c19ca0155"), looks := false }, kinds := [], alts := [], laidByText := true, laidKinds := [.data, .pinned], laidTests := true, laidLooks := .later }
def FnCallersToldCardSaid : Prop := Claim7.holds Tryz.pinned (.plain (OpenSpec.ofChange fnCallersToldSpec)) fnCallersToldCard

/-- THE SECOND FORM's CARD OF 'laws.FnCallersTold'. -/
def fnCallersToldUptoCard : Claim7 := { stood := { row := fnCallersToldUptoRow, standIns := [], harness := (true, "861bd905cc20f251d4024e75ab892c0931c28e23030012d4c97c8b5c19ca0155"), looks := false }, kinds := [], alts := [], laidByText := true, laidKinds := [.data, .pinned], laidTests := true, laidLooks := .later }
def FnCallersToldUptoCardSaid : Prop := Claim7.holds Tryz.pinned (.plain (OpenSpec.upto fnCallersToldSpec)) fnCallersToldUptoCard
end Rows
end Go.Proofs.YtgcgpnhokjhghabGreatDoor
