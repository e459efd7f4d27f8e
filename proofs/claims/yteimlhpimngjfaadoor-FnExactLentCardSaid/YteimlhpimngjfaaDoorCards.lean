/-
  DERIVED. GIVEN WITH THE SEED: THE CARDS: each row of YteimlhpimngjfaaDoorRows.lean that lists a variable, with what it lists TIED to the program's text (the seventh form; the later family's looks); each row that meets fmt, with fmt's text TOLD by the authors' own Lean function (tested against real Go, not proved from fmt's source: count such statements apart). THE CARD IS WHAT COUNTS. Prove the row's statement (the work); the ties are given (YteimlhpimngjfaaDoorTie.lean); close each card by the builder's one call (the guide's Derived/Test/ToyasCard.lean, 'card_holds'). Laid BY PROGRAM, IN A SANDBOX (cutbox-door.mjs). By AI agents, Wed Nov 11 2026. No macro, syntax, notation, axiom, sorry.
-/
import Derived.Test.YteimlhpimngjfaaDoorRows
import GoSem.ClaimSeven
namespace Go.Proofs.YteimlhpimngjfaaDoor
namespace Rows

/-- THE TIED CARD OF 'laws.FnExactHoldsAt'. -/
def fnExactHoldsAtCard : Claim7 := { stood := { row := fnExactHoldsAtRow, standIns := [], harness := (true, "bd4f918f0ce435f77b5c36c2033cd0c315be76bee367f83f02bdce986d2604b5"), looks := false }, kinds := [], alts := [], laidByText := true, laidKinds := [.data, .pinned], laidTests := true, laidLooks := .later }
def FnExactHoldsAtCardSaid : Prop := Claim7.holds Tryd.pinned (.plain (OpenSpec.ofChange fnExactHoldsAtSpec)) fnExactHoldsAtCard

/-- THE TIED CARD OF 'laws.FnExactLent'. -/
def fnExactLentCard : Claim7 := { stood := { row := fnExactLentRow, standIns := [], harness := (true, "bd4f918f0ce435f77b5c36c2033cd0c315be76bee367f83f02bdce986d2604b5"), looks := false }, kinds := [], alts := [], laidByText := true, laidKinds := [.data, .pinned], laidTests := true, laidLooks := .later }
def FnExactLentCardSaid : Prop := Claim7.holds Tryd.pinned (.plain (OpenSpec.ofChange fnExactLentSpec)) fnExactLentCard

/-- THE TIED CARD OF 'laws.FnExactInForce'. -/
def fnExactInForceCard : Claim7 := { stood := { row := fnExactInForceRow, standIns := [], harness := (true, "bd4f918f0ce435f77b5c36c2033cd0c315be76bee367f83f02bdce986d2604b5"), looks := false }, kinds := [], alts := [], laidByText := true, laidKinds := [.data, .pinned], laidTests := true, laidLooks := .later }
def FnExactInForceCardSaid : Prop := Claim7.holds Tryd.pinned (.plain (OpenSpec.ofChange fnExactInForceSpec)) fnExactInForceCard

/-- THE SECOND FORM's CARD OF 'laws.FnExactHoldsAt'. -/
def fnExactHoldsAtUptoCard : Claim7 := { stood := { row := fnExactHoldsAtUptoRow, standIns := [], harness := (true, "bd4f918f0ce435f77b5c36c2033cd0c315be76bee367f83f02bdce986d2604b5"), looks := false }, kinds := [], alts := [], laidByText := true, laidKinds := [.data, .pinned], laidTests := true, laidLooks := .later }
def FnExactHoldsAtUptoCardSaid : Prop := Claim7.holds Tryd.pinned (.plain (OpenSpec.upto fnExactHoldsAtSpec)) fnExactHoldsAtUptoCard

/-- THE SECOND FORM's CARD OF 'laws.FnExactLent'. -/
def fnExactLentUptoCard : Claim7 := { stood := { row := fnExactLentUptoRow, standIns := [], harness := (true, "bd4f918f0ce435f77b5c36c2033cd0c315be76bee367f83f02bdce986d2604b5"), looks := false }, kinds := [], alts := [], laidByText := true, laidKinds := [.data, .pinned], laidTests := true, laidLooks := .later }
def FnExactLentUptoCardSaid : Prop := Claim7.holds Tryd.pinned (.plain (OpenSpec.upto fnExactLentSpec)) fnExactLentUptoCard

/-- THE SECOND FORM's CARD OF 'laws.FnExactInForce'. -/
def fnExactInForceUptoCard : Claim7 := { stood := { row := fnExactInForceUptoRow, standIns := [], harness := (true, "bd4f918f0ce435f77b5c36c2033cd0c315be76bee367f83f02bdce986d2604b5"), looks := false }, kinds := [], alts := [], laidByText := true, laidKinds := [.data, .pinned], laidTests := true, laidLooks := .later }
def FnExactInForceUptoCardSaid : Prop := Claim7.holds Tryd.pinned (.plain (OpenSpec.upto fnExactInForceSpec)) fnExactInForceUptoCard
end Rows
end Go.Proofs.YteimlhpimngjfaaDoor
