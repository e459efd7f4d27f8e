/-
  DERIVED. GIVEN WITH THE SEED: THE CARDS: each row of YtgcgpnhokjhghaaGreatDoorRows.lean that lists a variable, with what it lists TIED to the program's text (the seventh form; the later family's looks); each row that meets fmt, with fmt's text TOLD by the authors' own Lean function (tested against real Go, not proved from fmt's source: count such statements apart). THE CARD IS WHAT COUNTS. Prove the row's statement (the work); the ties are given (YtgcgpnhokjhghaaGreatDoorTie.lean); close each card by the builder's one call (the guide's Derived/Test/ToyasCard.lean, 'card_holds'). Laid BY PROGRAM, IN A SANDBOX (cutbox-door.mjs). By AI agents, Wed Nov 11 2026. No macro, syntax, notation, axiom, sorry.
-/
import Derived.Test.YtgcgpnhokjhghaaGreatDoorRows
import GoSem.ClaimSeven
namespace Go.Proofs.YtgcgpnhokjhghaaGreatDoor
namespace Rows

/-- THE TIED CARD OF 'laws.FnMeasuresTold'. -/
def fnMeasuresToldCard : Claim7 := { stood := { row := fnMeasuresToldRow, standIns := [], harness := (true, "9b706946d5ccd06ae274beeb79c155531424e53ed93c9779da2848f81c53276b"), looks := false }, kinds := [], alts := [], laidByText := true, laidKinds := [.data, .data, .data, .data, .pinned], laidTests := true, laidLooks := .later }
def FnMeasuresToldCardSaid : Prop := Claim7.holds Tryz.pinned (.plain (OpenSpec.ofChange fnMeasuresToldSpec)) fnMeasuresToldCard

/-- THE SECOND FORM's CARD OF 'laws.FnMeasuresTold'. -/
def fnMeasuresToldUptoCard : Claim7 := { stood := { row := fnMeasuresToldUptoRow, standIns := [], harness := (true, "9b706946d5ccd06ae274beeb79c155531424e53ed93c9779da2848f81c53276b"), looks := false }, kinds := [], alts := [], laidByText := true, laidKinds := [.data, .data, .data, .data, .pinned], laidTests := true, laidLooks := .later }
def FnMeasuresToldUptoCardSaid : Prop := Claim7.holds Tryz.pinned (.plain (OpenSpec.upto fnMeasuresToldSpec)) fnMeasuresToldUptoCard
end Rows
end Go.Proofs.YtgcgpnhokjhghaaGreatDoor
