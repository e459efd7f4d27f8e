/-
  DERIVED. GIVEN WITH THE SEED: THE CARDS: each row of YtelnmegngpocjaaDoorRows.lean that lists a variable, with what it lists TIED to the program's text (the seventh form; the later family's looks); each row that meets fmt, with fmt's text TOLD by the authors' own Lean function (tested against real Go, not proved from fmt's source: count such statements apart). THE CARD IS WHAT COUNTS. Prove the row's statement (the work); the ties are given (YtelnmegngpocjaaDoorTie.lean); close each card by the builder's one call (the guide's Derived/Test/ToyasCard.lean, 'card_holds'). Laid BY PROGRAM, IN A SANDBOX (cutbox-door.mjs). By AI agents, Wed Nov 11 2026. No macro, syntax, notation, axiom, sorry.
-/
import Derived.Test.YtelnmegngpocjaaDoorRows
import GoSem.ClaimSeven
namespace Go.Proofs.YtelnmegngpocjaaDoor
namespace Rows

/-- THE TIED CARD OF 'laws.FnExactLoopHeads'. -/
def fnExactLoopHeadsCard : Claim7 := { stood := { row := fnExactLoopHeadsRow, standIns := [], harness := (true, "d7708fa2569abf1c5ecbe41fb6a2f21a204f0cd6697a10592b00657e1eb8ba60"), looks := false }, kinds := [], alts := [], laidByText := true, laidKinds := [.data, .pinned], laidTests := true, laidLooks := .later }
def FnExactLoopHeadsCardSaid : Prop := Claim7.holds Tryd.pinned (.plain (OpenSpec.ofChange fnExactLoopHeadsSpec)) fnExactLoopHeadsCard

/-- THE TIED CARD OF 'laws.FnExactDomsOf'. -/
def fnExactDomsOfCard : Claim7 := { stood := { row := fnExactDomsOfRow, standIns := [], harness := (true, "d7708fa2569abf1c5ecbe41fb6a2f21a204f0cd6697a10592b00657e1eb8ba60"), looks := false }, kinds := [], alts := [], laidByText := true, laidKinds := [.data, .pinned], laidTests := true, laidLooks := .later }
def FnExactDomsOfCardSaid : Prop := Claim7.holds Tryd.pinned (.plain (OpenSpec.ofChange fnExactDomsOfSpec)) fnExactDomsOfCard

/-- THE TIED CARD OF 'laws.FnExactMeasured'. -/
def fnExactMeasuredCard : Claim7 := { stood := { row := fnExactMeasuredRow, standIns := [], harness := (true, "d7708fa2569abf1c5ecbe41fb6a2f21a204f0cd6697a10592b00657e1eb8ba60"), looks := false }, kinds := [], alts := [], laidByText := true, laidKinds := [.data, .pinned], laidTests := true, laidLooks := .later }
def FnExactMeasuredCardSaid : Prop := Claim7.holds Tryd.pinned (.plain (OpenSpec.ofChange fnExactMeasuredSpec)) fnExactMeasuredCard

/-- THE TIED CARD OF 'laws.FnExactFoldsIn'. -/
def fnExactFoldsInCard : Claim7 := { stood := { row := fnExactFoldsInRow, standIns := [], harness := (true, "d7708fa2569abf1c5ecbe41fb6a2f21a204f0cd6697a10592b00657e1eb8ba60"), looks := false }, kinds := [], alts := [], laidByText := true, laidKinds := [.data, .pinned], laidTests := true, laidLooks := .later }
def FnExactFoldsInCardSaid : Prop := Claim7.holds Tryd.pinned (.plain (OpenSpec.ofChange fnExactFoldsInSpec)) fnExactFoldsInCard

/-- THE TIED CARD OF 'laws.FnExactHoldsAt'. -/
def fnExactHoldsAtCard : Claim7 := { stood := { row := fnExactHoldsAtRow, standIns := [], harness := (true, "d7708fa2569abf1c5ecbe41fb6a2f21a204f0cd6697a10592b00657e1eb8ba60"), looks := false }, kinds := [], alts := [], laidByText := true, laidKinds := [.data, .pinned], laidTests := true, laidLooks := .later }
def FnExactHoldsAtCardSaid : Prop := Claim7.holds Tryd.pinned (.plain (OpenSpec.ofChange fnExactHoldsAtSpec)) fnExactHoldsAtCard

/-- THE TIED CARD OF 'laws.FnExactLent'. -/
def fnExactLentCard : Claim7 := { stood := { row := fnExactLentRow, standIns := [], harness := (true, "d7708fa2569abf1c5ecbe41fb6a2f21a204f0cd6697a10592b00657e1eb8ba60"), looks := false }, kinds := [], alts := [], laidByText := true, laidKinds := [.data, .pinned], laidTests := true, laidLooks := .later }
def FnExactLentCardSaid : Prop := Claim7.holds Tryd.pinned (.plain (OpenSpec.ofChange fnExactLentSpec)) fnExactLentCard

/-- THE TIED CARD OF 'laws.FnExactInForce'. -/
def fnExactInForceCard : Claim7 := { stood := { row := fnExactInForceRow, standIns := [], harness := (true, "d7708fa2569abf1c5ecbe41fb6a2f21a204f0cd6697a10592b00657e1eb8ba60"), looks := false }, kinds := [], alts := [], laidByText := true, laidKinds := [.data, .pinned], laidTests := true, laidLooks := .later }
def FnExactInForceCardSaid : Prop := Claim7.holds Tryd.pinned (.plain (OpenSpec.ofChange fnExactInForceSpec)) fnExactInForceCard

/-- THE SECOND FORM's CARD OF 'laws.FnExactLoopHeads'. -/
def fnExactLoopHeadsUptoCard : Claim7 := { stood := { row := fnExactLoopHeadsUptoRow, standIns := [], harness := (true, "d7708fa2569abf1c5ecbe41fb6a2f21a204f0cd6697a10592b00657e1eb8ba60"), looks := false }, kinds := [], alts := [], laidByText := true, laidKinds := [.data, .pinned], laidTests := true, laidLooks := .later }
def FnExactLoopHeadsUptoCardSaid : Prop := Claim7.holds Tryd.pinned (.plain (OpenSpec.upto fnExactLoopHeadsSpec)) fnExactLoopHeadsUptoCard

/-- THE SECOND FORM's CARD OF 'laws.FnExactDomsOf'. -/
def fnExactDomsOfUptoCard : Claim7 := { stood := { row := fnExactDomsOfUptoRow, standIns := [], harness := (true, "d7708fa2569abf1c5ecbe41fb6a2f21a204f0cd6697a10592b00657e1eb8ba60"), looks := false }, kinds := [], alts := [], laidByText := true, laidKinds := [.data, .pinned], laidTests := true, laidLooks := .later }
def FnExactDomsOfUptoCardSaid : Prop := Claim7.holds Tryd.pinned (.plain (OpenSpec.upto fnExactDomsOfSpec)) fnExactDomsOfUptoCard

/-- THE SECOND FORM's CARD OF 'laws.FnExactMeasured'. -/
def fnExactMeasuredUptoCard : Claim7 := { stood := { row := fnExactMeasuredUptoRow, standIns := [], harness := (true, "d7708fa2569abf1c5ecbe41fb6a2f21a204f0cd6697a10592b00657e1eb8ba60"), looks := false }, kinds := [], alts := [], laidByText := true, laidKinds := [.data, .pinned], laidTests := true, laidLooks := .later }
def FnExactMeasuredUptoCardSaid : Prop := Claim7.holds Tryd.pinned (.plain (OpenSpec.upto fnExactMeasuredSpec)) fnExactMeasuredUptoCard

/-- THE SECOND FORM's CARD OF 'laws.FnExactFoldsIn'. -/
def fnExactFoldsInUptoCard : Claim7 := { stood := { row := fnExactFoldsInUptoRow, standIns := [], harness := (true, "d7708fa2569abf1c5ecbe41fb6a2f21a204f0cd6697a10592b00657e1eb8ba60"), looks := false }, kinds := [], alts := [], laidByText := true, laidKinds := [.data, .pinned], laidTests := true, laidLooks := .later }
def FnExactFoldsInUptoCardSaid : Prop := Claim7.holds Tryd.pinned (.plain (OpenSpec.upto fnExactFoldsInSpec)) fnExactFoldsInUptoCard

/-- THE SECOND FORM's CARD OF 'laws.FnExactHoldsAt'. -/
def fnExactHoldsAtUptoCard : Claim7 := { stood := { row := fnExactHoldsAtUptoRow, standIns := [], harness := (true, "d7708fa2569abf1c5ecbe41fb6a2f21a204f0cd6697a10592b00657e1eb8ba60"), looks := false }, kinds := [], alts := [], laidByText := true, laidKinds := [.data, .pinned], laidTests := true, laidLooks := .later }
def FnExactHoldsAtUptoCardSaid : Prop := Claim7.holds Tryd.pinned (.plain (OpenSpec.upto fnExactHoldsAtSpec)) fnExactHoldsAtUptoCard

/-- THE SECOND FORM's CARD OF 'laws.FnExactLent'. -/
def fnExactLentUptoCard : Claim7 := { stood := { row := fnExactLentUptoRow, standIns := [], harness := (true, "d7708fa2569abf1c5ecbe41fb6a2f21a204f0cd6697a10592b00657e1eb8ba60"), looks := false }, kinds := [], alts := [], laidByText := true, laidKinds := [.data, .pinned], laidTests := true, laidLooks := .later }
def FnExactLentUptoCardSaid : Prop := Claim7.holds Tryd.pinned (.plain (OpenSpec.upto fnExactLentSpec)) fnExactLentUptoCard

/-- THE SECOND FORM's CARD OF 'laws.FnExactInForce'. -/
def fnExactInForceUptoCard : Claim7 := { stood := { row := fnExactInForceUptoRow, standIns := [], harness := (true, "d7708fa2569abf1c5ecbe41fb6a2f21a204f0cd6697a10592b00657e1eb8ba60"), looks := false }, kinds := [], alts := [], laidByText := true, laidKinds := [.data, .pinned], laidTests := true, laidLooks := .later }
def FnExactInForceUptoCardSaid : Prop := Claim7.holds Tryd.pinned (.plain (OpenSpec.upto fnExactInForceSpec)) fnExactInForceUptoCard
end Rows
end Go.Proofs.YtelnmegngpocjaaDoor
