/-
  DERIVED. GIVEN WITH THE SEED: THE CARDS: each row of YtpmdiolkhmfphaaDoorRows.lean that lists a variable, with what it lists TIED to the program's text (the seventh form; the later family's looks); each row that meets fmt, with fmt's text TOLD by the authors' own Lean function (tested against real Go, not proved from fmt's source: count such statements apart). THE CARD IS WHAT COUNTS. Prove the row's statement (the work); the ties are given (YtpmdiolkhmfphaaDoorTie.lean); close each card by the builder's one call (the guide's Derived/Test/ToyasCard.lean, 'card_holds'). Laid BY PROGRAM, IN A SANDBOX (cutbox-door.mjs). By AI agents, Wed Nov 11 2026. No macro, syntax, notation, axiom, sorry.
-/
import Derived.Test.YtpmdiolkhmfphaaDoorRows
import GoSem.ClaimSeven
namespace Go.Proofs.YtpmdiolkhmfphaaDoor
namespace Rows

/-- THE TIED CARD OF 'laws.FnExactFillGaps'. -/
def fnExactFillGapsCard : Claim7 := { stood := { row := fnExactFillGapsRow, standIns := [], harness := (true, "371de4d0539ce33a515407569b8a0733cf5862297e8aaab795829217a50ff0d4"), looks := false }, kinds := [], alts := [], laidByText := true, laidKinds := [.data, .pinned], laidTests := true, laidLooks := .later }
def FnExactFillGapsCardSaid : Prop := Claim7.holds Tryd.pinned (.plain (OpenSpec.ofChange fnExactFillGapsSpec)) fnExactFillGapsCard

/-- THE TIED CARD OF 'laws.FnExactDropPulses'. -/
def fnExactDropPulsesCard : Claim7 := { stood := { row := fnExactDropPulsesRow, standIns := [], harness := (true, "371de4d0539ce33a515407569b8a0733cf5862297e8aaab795829217a50ff0d4"), looks := false }, kinds := [], alts := [], laidByText := true, laidKinds := [.data, .pinned], laidTests := true, laidLooks := .later }
def FnExactDropPulsesCardSaid : Prop := Claim7.holds Tryd.pinned (.plain (OpenSpec.ofChange fnExactDropPulsesSpec)) fnExactDropPulsesCard

/-- THE SECOND FORM's CARD OF 'laws.FnExactFillGaps'. -/
def fnExactFillGapsUptoCard : Claim7 := { stood := { row := fnExactFillGapsUptoRow, standIns := [], harness := (true, "371de4d0539ce33a515407569b8a0733cf5862297e8aaab795829217a50ff0d4"), looks := false }, kinds := [], alts := [], laidByText := true, laidKinds := [.data, .pinned], laidTests := true, laidLooks := .later }
def FnExactFillGapsUptoCardSaid : Prop := Claim7.holds Tryd.pinned (.plain (OpenSpec.upto fnExactFillGapsSpec)) fnExactFillGapsUptoCard

/-- THE SECOND FORM's CARD OF 'laws.FnExactDropPulses'. -/
def fnExactDropPulsesUptoCard : Claim7 := { stood := { row := fnExactDropPulsesUptoRow, standIns := [], harness := (true, "371de4d0539ce33a515407569b8a0733cf5862297e8aaab795829217a50ff0d4"), looks := false }, kinds := [], alts := [], laidByText := true, laidKinds := [.data, .pinned], laidTests := true, laidLooks := .later }
def FnExactDropPulsesUptoCardSaid : Prop := Claim7.holds Tryd.pinned (.plain (OpenSpec.upto fnExactDropPulsesSpec)) fnExactDropPulsesUptoCard
end Rows
end Go.Proofs.YtpmdiolkhmfphaaDoor
