/-
  DERIVED. GIVEN WITH THE SEED: THE CARDS: each row of YtcpfkfaiakpfjaaDoorRows.lean that lists a variable, with what it lists TIED to the program's text (the seventh form; the later family's looks); each row that meets fmt, with fmt's text TOLD by the authors' own Lean function (tested against real Go, not proved from fmt's source: count such statements apart). THE CARD IS WHAT COUNTS. Prove the row's statement (the work); the ties are given (YtcpfkfaiakpfjaaDoorTie.lean); close each card by the builder's one call (the guide's Derived/Test/ToyasCard.lean, 'card_holds'). Laid BY PROGRAM, IN A SANDBOX (cutbox-door.mjs). By AI agents, Wed Nov 11 2026. No macro, syntax, notation, axiom, sorry.
-/
import Derived.Test.YtcpfkfaiakpfjaaDoorRows
import GoSem.ClaimSeven
namespace Go.Proofs.YtcpfkfaiakpfjaaDoor
namespace Rows

/-- THE TIED CARD OF 'laws.FnExactFillGaps'. -/
def fnExactFillGapsCard : Claim7 := { stood := { row := fnExactFillGapsRow, standIns := [], harness := (true, "5f62bbe5278985c60f505c552687820ccb876c388ce612ecdcb3afa30ed6d94a"), looks := false }, kinds := [], alts := [], laidByText := true, laidKinds := [.data, .pinned], laidTests := true, laidLooks := .later }
def FnExactFillGapsCardSaid : Prop := Claim7.holds Tryd.pinned (.plain (OpenSpec.ofChange fnExactFillGapsSpec)) fnExactFillGapsCard

/-- THE TIED CARD OF 'laws.FnExactDropPulses'. -/
def fnExactDropPulsesCard : Claim7 := { stood := { row := fnExactDropPulsesRow, standIns := [], harness := (true, "5f62bbe5278985c60f505c552687820ccb876c388ce612ecdcb3afa30ed6d94a"), looks := false }, kinds := [], alts := [], laidByText := true, laidKinds := [.data, .pinned], laidTests := true, laidLooks := .later }
def FnExactDropPulsesCardSaid : Prop := Claim7.holds Tryd.pinned (.plain (OpenSpec.ofChange fnExactDropPulsesSpec)) fnExactDropPulsesCard

/-- THE TIED CARD OF 'laws.FnExactOneShot'. -/
def fnExactOneShotCard : Claim7 := { stood := { row := fnExactOneShotRow, standIns := [], harness := (true, "5f62bbe5278985c60f505c552687820ccb876c388ce612ecdcb3afa30ed6d94a"), looks := false }, kinds := [], alts := [], laidByText := true, laidKinds := [.data, .pinned], laidTests := true, laidLooks := .later }
def FnExactOneShotCardSaid : Prop := Claim7.holds Tryd.pinned (.plain (OpenSpec.ofChange fnExactOneShotSpec)) fnExactOneShotCard

/-- THE TIED CARD OF 'laws.FnExactWindowRange'. -/
def fnExactWindowRangeCard : Claim7 := { stood := { row := fnExactWindowRangeRow, standIns := [], harness := (true, "5f62bbe5278985c60f505c552687820ccb876c388ce612ecdcb3afa30ed6d94a"), looks := false }, kinds := [], alts := [], laidByText := true, laidKinds := [.data, .pinned], laidTests := true, laidLooks := .later }
def FnExactWindowRangeCardSaid : Prop := Claim7.holds Tryd.pinned (.plain (OpenSpec.ofChange fnExactWindowRangeSpec)) fnExactWindowRangeCard

/-- THE TIED CARD OF 'laws.FnExactTimeouts'. -/
def fnExactTimeoutsCard : Claim7 := { stood := { row := fnExactTimeoutsRow, standIns := [], harness := (true, "5f62bbe5278985c60f505c552687820ccb876c388ce612ecdcb3afa30ed6d94a"), looks := false }, kinds := [], alts := [], laidByText := true, laidKinds := [.data, .pinned], laidTests := true, laidLooks := .later }
def FnExactTimeoutsCardSaid : Prop := Claim7.holds Tryd.pinned (.plain (OpenSpec.ofChange fnExactTimeoutsSpec)) fnExactTimeoutsCard

/-- THE TIED CARD OF 'laws.FnExactCountWindows'. -/
def fnExactCountWindowsCard : Claim7 := { stood := { row := fnExactCountWindowsRow, standIns := [], harness := (true, "5f62bbe5278985c60f505c552687820ccb876c388ce612ecdcb3afa30ed6d94a"), looks := false }, kinds := [], alts := [], laidByText := true, laidKinds := [.data, .pinned], laidTests := true, laidLooks := .later }
def FnExactCountWindowsCardSaid : Prop := Claim7.holds Tryd.pinned (.plain (OpenSpec.ofChange fnExactCountWindowsSpec)) fnExactCountWindowsCard

/-- THE TIED CARD OF 'laws.FnExactShortPulses'. -/
def fnExactShortPulsesCard : Claim7 := { stood := { row := fnExactShortPulsesRow, standIns := [], harness := (true, "5f62bbe5278985c60f505c552687820ccb876c388ce612ecdcb3afa30ed6d94a"), looks := false }, kinds := [], alts := [], laidByText := true, laidKinds := [.data, .pinned], laidTests := true, laidLooks := .later }
def FnExactShortPulsesCardSaid : Prop := Claim7.holds Tryd.pinned (.plain (OpenSpec.ofChange fnExactShortPulsesSpec)) fnExactShortPulsesCard

/-- THE TIED CARD OF 'laws.FnShots'. -/
def fnShotsCard : Claim7 := { stood := { row := fnShotsRow, standIns := [], harness := (true, "5f62bbe5278985c60f505c552687820ccb876c388ce612ecdcb3afa30ed6d94a"), looks := false }, kinds := [], alts := [], laidByText := true, laidKinds := [.data, .pinned], laidTests := true, laidLooks := .later }
def FnShotsCardSaid : Prop := Claim7.holds Tryd.pinned (.plain (OpenSpec.ofChange fnShotsSpec)) fnShotsCard

/-- THE TIED CARD OF 'laws.FnExactStretchPulses'. -/
def fnExactStretchPulsesCard : Claim7 := { stood := { row := fnExactStretchPulsesRow, standIns := [], harness := (true, "5f62bbe5278985c60f505c552687820ccb876c388ce612ecdcb3afa30ed6d94a"), looks := false }, kinds := [], alts := [], laidByText := true, laidKinds := [.data, .pinned], laidTests := true, laidLooks := .later }
def FnExactStretchPulsesCardSaid : Prop := Claim7.holds Tryd.pinned (.plain (OpenSpec.ofChange fnExactStretchPulsesSpec)) fnExactStretchPulsesCard

/-- THE TIED CARD OF 'laws.FnExactMajorityWave'. -/
def fnExactMajorityWaveCard : Claim7 := { stood := { row := fnExactMajorityWaveRow, standIns := [], harness := (true, "5f62bbe5278985c60f505c552687820ccb876c388ce612ecdcb3afa30ed6d94a"), looks := false }, kinds := [], alts := [], laidByText := true, laidKinds := [.data, .pinned], laidTests := true, laidLooks := .later }
def FnExactMajorityWaveCardSaid : Prop := Claim7.holds Tryd.pinned (.plain (OpenSpec.ofChange fnExactMajorityWaveSpec)) fnExactMajorityWaveCard

/-- THE TIED CARD OF 'laws.FnExactDebounce'. -/
def fnExactDebounceCard : Claim7 := { stood := { row := fnExactDebounceRow, standIns := [], harness := (true, "5f62bbe5278985c60f505c552687820ccb876c388ce612ecdcb3afa30ed6d94a"), looks := false }, kinds := [], alts := [], laidByText := true, laidKinds := [.data, .pinned], laidTests := true, laidLooks := .later }
def FnExactDebounceCardSaid : Prop := Claim7.holds Tryd.pinned (.plain (OpenSpec.ofChange fnExactDebounceSpec)) fnExactDebounceCard

/-- THE SECOND FORM's CARD OF 'laws.FnExactFillGaps'. -/
def fnExactFillGapsUptoCard : Claim7 := { stood := { row := fnExactFillGapsUptoRow, standIns := [], harness := (true, "5f62bbe5278985c60f505c552687820ccb876c388ce612ecdcb3afa30ed6d94a"), looks := false }, kinds := [], alts := [], laidByText := true, laidKinds := [.data, .pinned], laidTests := true, laidLooks := .later }
def FnExactFillGapsUptoCardSaid : Prop := Claim7.holds Tryd.pinned (.plain (OpenSpec.upto fnExactFillGapsSpec)) fnExactFillGapsUptoCard

/-- THE SECOND FORM's CARD OF 'laws.FnExactDropPulses'. -/
def fnExactDropPulsesUptoCard : Claim7 := { stood := { row := fnExactDropPulsesUptoRow, standIns := [], harness := (true, "5f62bbe5278985c60f505c552687820ccb876c388ce612ecdcb3afa30ed6d94a"), looks := false }, kinds := [], alts := [], laidByText := true, laidKinds := [.data, .pinned], laidTests := true, laidLooks := .later }
def FnExactDropPulsesUptoCardSaid : Prop := Claim7.holds Tryd.pinned (.plain (OpenSpec.upto fnExactDropPulsesSpec)) fnExactDropPulsesUptoCard

/-- THE SECOND FORM's CARD OF 'laws.FnExactOneShot'. -/
def fnExactOneShotUptoCard : Claim7 := { stood := { row := fnExactOneShotUptoRow, standIns := [], harness := (true, "5f62bbe5278985c60f505c552687820ccb876c388ce612ecdcb3afa30ed6d94a"), looks := false }, kinds := [], alts := [], laidByText := true, laidKinds := [.data, .pinned], laidTests := true, laidLooks := .later }
def FnExactOneShotUptoCardSaid : Prop := Claim7.holds Tryd.pinned (.plain (OpenSpec.upto fnExactOneShotSpec)) fnExactOneShotUptoCard

/-- THE SECOND FORM's CARD OF 'laws.FnExactWindowRange'. -/
def fnExactWindowRangeUptoCard : Claim7 := { stood := { row := fnExactWindowRangeUptoRow, standIns := [], harness := (true, "5f62bbe5278985c60f505c552687820ccb876c388ce612ecdcb3afa30ed6d94a"), looks := false }, kinds := [], alts := [], laidByText := true, laidKinds := [.data, .pinned], laidTests := true, laidLooks := .later }
def FnExactWindowRangeUptoCardSaid : Prop := Claim7.holds Tryd.pinned (.plain (OpenSpec.upto fnExactWindowRangeSpec)) fnExactWindowRangeUptoCard

/-- THE SECOND FORM's CARD OF 'laws.FnExactTimeouts'. -/
def fnExactTimeoutsUptoCard : Claim7 := { stood := { row := fnExactTimeoutsUptoRow, standIns := [], harness := (true, "5f62bbe5278985c60f505c552687820ccb876c388ce612ecdcb3afa30ed6d94a"), looks := false }, kinds := [], alts := [], laidByText := true, laidKinds := [.data, .pinned], laidTests := true, laidLooks := .later }
def FnExactTimeoutsUptoCardSaid : Prop := Claim7.holds Tryd.pinned (.plain (OpenSpec.upto fnExactTimeoutsSpec)) fnExactTimeoutsUptoCard

/-- THE SECOND FORM's CARD OF 'laws.FnExactCountWindows'. -/
def fnExactCountWindowsUptoCard : Claim7 := { stood := { row := fnExactCountWindowsUptoRow, standIns := [], harness := (true, "5f62bbe5278985c60f505c552687820ccb876c388ce612ecdcb3afa30ed6d94a"), looks := false }, kinds := [], alts := [], laidByText := true, laidKinds := [.data, .pinned], laidTests := true, laidLooks := .later }
def FnExactCountWindowsUptoCardSaid : Prop := Claim7.holds Tryd.pinned (.plain (OpenSpec.upto fnExactCountWindowsSpec)) fnExactCountWindowsUptoCard

/-- THE SECOND FORM's CARD OF 'laws.FnExactShortPulses'. -/
def fnExactShortPulsesUptoCard : Claim7 := { stood := { row := fnExactShortPulsesUptoRow, standIns := [], harness := (true, "5f62bbe5278985c60f505c552687820ccb876c388ce612ecdcb3afa30ed6d94a"), looks := false }, kinds := [], alts := [], laidByText := true, laidKinds := [.data, .pinned], laidTests := true, laidLooks := .later }
def FnExactShortPulsesUptoCardSaid : Prop := Claim7.holds Tryd.pinned (.plain (OpenSpec.upto fnExactShortPulsesSpec)) fnExactShortPulsesUptoCard

/-- THE SECOND FORM's CARD OF 'laws.FnShots'. -/
def fnShotsUptoCard : Claim7 := { stood := { row := fnShotsUptoRow, standIns := [], harness := (true, "5f62bbe5278985c60f505c552687820ccb876c388ce612ecdcb3afa30ed6d94a"), looks := false }, kinds := [], alts := [], laidByText := true, laidKinds := [.data, .pinned], laidTests := true, laidLooks := .later }
def FnShotsUptoCardSaid : Prop := Claim7.holds Tryd.pinned (.plain (OpenSpec.upto fnShotsSpec)) fnShotsUptoCard

/-- THE SECOND FORM's CARD OF 'laws.FnExactStretchPulses'. -/
def fnExactStretchPulsesUptoCard : Claim7 := { stood := { row := fnExactStretchPulsesUptoRow, standIns := [], harness := (true, "5f62bbe5278985c60f505c552687820ccb876c388ce612ecdcb3afa30ed6d94a"), looks := false }, kinds := [], alts := [], laidByText := true, laidKinds := [.data, .pinned], laidTests := true, laidLooks := .later }
def FnExactStretchPulsesUptoCardSaid : Prop := Claim7.holds Tryd.pinned (.plain (OpenSpec.upto fnExactStretchPulsesSpec)) fnExactStretchPulsesUptoCard

/-- THE SECOND FORM's CARD OF 'laws.FnExactMajorityWave'. -/
def fnExactMajorityWaveUptoCard : Claim7 := { stood := { row := fnExactMajorityWaveUptoRow, standIns := [], harness := (true, "5f62bbe5278985c60f505c552687820ccb876c388ce612ecdcb3afa30ed6d94a"), looks := false }, kinds := [], alts := [], laidByText := true, laidKinds := [.data, .pinned], laidTests := true, laidLooks := .later }
def FnExactMajorityWaveUptoCardSaid : Prop := Claim7.holds Tryd.pinned (.plain (OpenSpec.upto fnExactMajorityWaveSpec)) fnExactMajorityWaveUptoCard

/-- THE SECOND FORM's CARD OF 'laws.FnExactDebounce'. -/
def fnExactDebounceUptoCard : Claim7 := { stood := { row := fnExactDebounceUptoRow, standIns := [], harness := (true, "5f62bbe5278985c60f505c552687820ccb876c388ce612ecdcb3afa30ed6d94a"), looks := false }, kinds := [], alts := [], laidByText := true, laidKinds := [.data, .pinned], laidTests := true, laidLooks := .later }
def FnExactDebounceUptoCardSaid : Prop := Claim7.holds Tryd.pinned (.plain (OpenSpec.upto fnExactDebounceSpec)) fnExactDebounceUptoCard
end Rows
end Go.Proofs.YtcpfkfaiakpfjaaDoor
