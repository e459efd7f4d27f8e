/-
  DERIVED. GIVEN WITH THE SEED: THE CARDS: each row of YtkbahglnleiepaaGreatDoorRows.lean that lists a variable, with what it lists TIED to the program's text (the seventh form; the later family's looks); each row that meets fmt, with fmt's text TOLD by the authors' own Lean function (tested against real Go, not proved from fmt's source: count such statements apart). THE CARD IS WHAT COUNTS. Prove the row's statement (the work); the ties are given (YtkbahglnleiepaaGreatDoorTie.lean); close each card by the builder's one call (the guide's Derived/Test/ToyasCard.lean, 'card_holds'). Laid BY PROGRAM, IN A SANDBOX (cutbox-door.mjs). By AI agents, Wed Nov 11 2026. No macro, syntax, notation, axiom, sorry.
-/
import Derived.Test.YtkbahglnleiepaaGreatDoorRows
import GoSem.ClaimSeven
namespace Go.Proofs.YtkbahglnleiepaaGreatDoor
namespace Rows

/-- THE TIED CARD OF 'laws.FnExactSameButNames'. -/
def fnExactSameButNamesCard : Claim7 := { stood := { row := fnExactSameButNamesRow, standIns := [], harness := (true, "2b856fa5dda19472c01348d57a05f5f751f14480d18f31e18ebcc9f2da409d6a"), looks := false }, kinds := [], alts := [], laidByText := true, laidKinds := [.data, .data, .data, .data, .pinned], laidTests := true, laidLooks := .later }
def FnExactSameButNamesCardSaid : Prop := Claim7.holds Tryz.pinned (.plain (OpenSpec.ofChange fnExactSameButNamesSpec)) fnExactSameButNamesCard

/-- THE TIED CARD OF 'laws.FnExactNeatVars'. -/
def fnExactNeatVarsCard : Claim7 := { stood := { row := fnExactNeatVarsRow, standIns := [], harness := (true, "2b856fa5dda19472c01348d57a05f5f751f14480d18f31e18ebcc9f2da409d6a"), looks := false }, kinds := [], alts := [], laidByText := true, laidKinds := [.data, .data, .data, .data, .pinned], laidTests := true, laidLooks := .later }
def FnExactNeatVarsCardSaid : Prop := Claim7.holds Tryz.pinned (.plain (OpenSpec.ofChange fnExactNeatVarsSpec)) fnExactNeatVarsCard

/-- THE TIED CARD OF 'laws.FnExactNeatNames'. -/
def fnExactNeatNamesCard : Claim7 := { stood := { row := fnExactNeatNamesRow, standIns := [], harness := (true, "2b856fa5dda19472c01348d57a05f5f751f14480d18f31e18ebcc9f2da409d6a"), looks := false }, kinds := [], alts := [], laidByText := true, laidKinds := [.data, .data, .data, .data, .pinned], laidTests := true, laidLooks := .later }
def FnExactNeatNamesCardSaid : Prop := Claim7.holds Tryz.pinned (.plain (OpenSpec.ofChange fnExactNeatNamesSpec)) fnExactNeatNamesCard

/-- THE SECOND FORM's CARD OF 'laws.FnExactSameButNames'. -/
def fnExactSameButNamesUptoCard : Claim7 := { stood := { row := fnExactSameButNamesUptoRow, standIns := [], harness := (true, "2b856fa5dda19472c01348d57a05f5f751f14480d18f31e18ebcc9f2da409d6a"), looks := false }, kinds := [], alts := [], laidByText := true, laidKinds := [.data, .data, .data, .data, .pinned], laidTests := true, laidLooks := .later }
def FnExactSameButNamesUptoCardSaid : Prop := Claim7.holds Tryz.pinned (.plain (OpenSpec.upto fnExactSameButNamesSpec)) fnExactSameButNamesUptoCard

/-- THE SECOND FORM's CARD OF 'laws.FnExactNeatVars'. -/
def fnExactNeatVarsUptoCard : Claim7 := { stood := { row := fnExactNeatVarsUptoRow, standIns := [], harness := (true, "2b856fa5dda19472c01348d57a05f5f751f14480d18f31e18ebcc9f2da409d6a"), looks := false }, kinds := [], alts := [], laidByText := true, laidKinds := [.data, .data, .data, .data, .pinned], laidTests := true, laidLooks := .later }
def FnExactNeatVarsUptoCardSaid : Prop := Claim7.holds Tryz.pinned (.plain (OpenSpec.upto fnExactNeatVarsSpec)) fnExactNeatVarsUptoCard

/-- THE SECOND FORM's CARD OF 'laws.FnExactNeatNames'. -/
def fnExactNeatNamesUptoCard : Claim7 := { stood := { row := fnExactNeatNamesUptoRow, standIns := [], harness := (true, "2b856fa5dda19472c01348d57a05f5f751f14480d18f31e18ebcc9f2da409d6a"), looks := false }, kinds := [], alts := [], laidByText := true, laidKinds := [.data, .data, .data, .data, .pinned], laidTests := true, laidLooks := .later }
def FnExactNeatNamesUptoCardSaid : Prop := Claim7.holds Tryz.pinned (.plain (OpenSpec.upto fnExactNeatNamesSpec)) fnExactNeatNamesUptoCard
end Rows
end Go.Proofs.YtkbahglnleiepaaGreatDoor
