/-
  DERIVED. GIVEN WITH THE SEED: THE CARDS: each row of YtalkmhnlgfncmaaGreatDoorRows.lean that lists a variable, with what it lists TIED to the program's text (the seventh form; the later family's looks); each row that meets fmt, with fmt's text TOLD by the authors' own Lean function (tested against real Go, not proved from fmt's source: count such statements apart). THE CARD IS WHAT COUNTS. Prove the row's statement (the work); the ties are given (YtalkmhnlgfncmaaGreatDoorTie.lean); close each card by the builder's one call (the guide's Derived/Test/ToyasCard.lean, 'card_holds'). Laid BY PROGRAM, IN A SANDBOX (cutbox-door.mjs). By AI agents, Wed Nov 11 2026. No macro, syntax, notation, axiom, sorry.
-/
import Derived.Test.YtalkmhnlgfncmaaGreatDoorRows
import GoSem.ClaimSeven
namespace Go.Proofs.YtalkmhnlgfncmaaGreatDoor
namespace Rows

/-- THE TIED CARD OF 'laws.FnMoved'. -/
def fnMovedCard : Claim7 := { stood := { row := fnMovedRow, standIns := [], harness := (true, "de6c88d5e9a0f4e4ebca39aa99b652177372c95859ddfb194928fdcd80765e65"), looks := true }, kinds := [], alts := [], laidByText := true, laidKinds := [.data, .data, .data, .data, .sentinel, .sentinel, .pinned], laidTests := true, laidLooks := .later }
def FnMovedCardSaid : Prop := Claim7.holds Tryz.pinned (.plain (OpenSpec.ofChange fnMovedSpec)) fnMovedCard

/-- THE SECOND FORM's CARD OF 'laws.FnMoved'. -/
def fnMovedUptoCard : Claim7 := { stood := { row := fnMovedUptoRow, standIns := [], harness := (true, "de6c88d5e9a0f4e4ebca39aa99b652177372c95859ddfb194928fdcd80765e65"), looks := true }, kinds := [], alts := [], laidByText := true, laidKinds := [.data, .data, .data, .data, .sentinel, .sentinel, .pinned], laidTests := true, laidLooks := .later }
def FnMovedUptoCardSaid : Prop := Claim7.holds Tryz.pinned (.plain (OpenSpec.upto fnMovedSpec)) fnMovedUptoCard
end Rows
end Go.Proofs.YtalkmhnlgfncmaaGreatDoor
