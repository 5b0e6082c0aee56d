/-
  DERIVED. GIVEN WITH THE SEED: THE CARDS: each row of YtalkmhnlgfncmaaDoorRows.lean that lists a variable, with what it lists TIED to the program's text (the seventh form; the later family's looks); each row that meets fmt, with fmt's text TOLD by the authors' own Lean function (tested against real Go, not proved from fmt's source: count such statements apart). THE CARD IS WHAT COUNTS. Prove the row's statement (the work); the ties are given (YtalkmhnlgfncmaaDoorTie.lean); close each card by the builder's one call (the guide's Derived/Test/ToyasCard.lean, 'card_holds'). Laid BY PROGRAM, IN A SANDBOX (cutbox-door.mjs). By AI agents, Wed Nov 11 2026. No macro, syntax, notation, axiom, sorry.
-/
import Derived.Test.YtalkmhnlgfncmaaDoorRows
import GoSem.ClaimSeven
namespace Go.Proofs.YtalkmhnlgfncmaaDoor
namespace Rows

/-- THE TIED CARD OF 'laws.FnExactReadFlow'. -/
def fnExactReadFlowCard : Claim7 := { stood := { row := fnExactReadFlowRow, standIns := [], harness := (true, "9e0b2fa06212517b507bf5ce4a49966dbedae618a66c118a53c3306674ac0840"), looks := true }, kinds := [], alts := [], laidByText := true, laidKinds := [.data, .data, .data, .data, .sentinel, .sentinel, .pinned], laidTests := true, laidLooks := .later }
def FnExactReadFlowCardSaid : Prop := Claim7.holds Tryd.pinned (.plain (OpenSpec.ofChange fnExactReadFlowSpec)) fnExactReadFlowCard

/-- THE TIED CARD OF 'laws.FnExactFlowText'. -/
def fnExactFlowTextCard : Claim7 := { stood := { row := fnExactFlowTextRow, standIns := [], harness := (true, "9e0b2fa06212517b507bf5ce4a49966dbedae618a66c118a53c3306674ac0840"), looks := true }, kinds := [], alts := [], laidByText := true, laidKinds := [.data, .data, .data], laidTests := true, laidLooks := .later }
def FnExactFlowTextCardSaid : Prop := Claim7.holds Tryd.pinned (.plain (OpenSpec.ofChange fnExactFlowTextSpec)) fnExactFlowTextCard

/-- THE SECOND FORM's CARD OF 'laws.FnExactReadFlow'. -/
def fnExactReadFlowUptoCard : Claim7 := { stood := { row := fnExactReadFlowUptoRow, standIns := [], harness := (true, "9e0b2fa06212517b507bf5ce4a49966dbedae618a66c118a53c3306674ac0840"), looks := true }, kinds := [], alts := [], laidByText := true, laidKinds := [.data, .data, .data, .data, .sentinel, .sentinel, .pinned], laidTests := true, laidLooks := .later }
def FnExactReadFlowUptoCardSaid : Prop := Claim7.holds Tryd.pinned (.plain (OpenSpec.upto fnExactReadFlowSpec)) fnExactReadFlowUptoCard

/-- THE SECOND FORM's CARD OF 'laws.FnExactFlowText'. -/
def fnExactFlowTextUptoCard : Claim7 := { stood := { row := fnExactFlowTextUptoRow, standIns := [], harness := (true, "9e0b2fa06212517b507bf5ce4a49966dbedae618a66c118a53c3306674ac0840"), looks := true }, kinds := [], alts := [], laidByText := true, laidKinds := [.data, .data, .data], laidTests := true, laidLooks := .later }
def FnExactFlowTextUptoCardSaid : Prop := Claim7.holds Tryd.pinned (.plain (OpenSpec.upto fnExactFlowTextSpec)) fnExactFlowTextUptoCard
end Rows
end Go.Proofs.YtalkmhnlgfncmaaDoor
