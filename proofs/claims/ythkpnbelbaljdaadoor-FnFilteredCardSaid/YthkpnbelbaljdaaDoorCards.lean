/-
  DERIVED. GIVEN WITH THE SEED: THE CARDS: each row of YthkpnbelbaljdaaDoorRows.lean that lists a variable, with what it lists TIED to the program's text (the seventh form; the later family's looks); each row that meets fmt, with fmt's text TOLD by the authors' own Lean function (tested against real Go, not proved from fmt's source: count such statements apart). THE CARD IS WHAT COUNTS. Prove the row's statement (the work); the ties are given (YthkpnbelbaljdaaDoorTie.lean); close each card by the builder's one call (the guide's Derived/Test/ToyasCard.lean, 'card_holds'). Laid BY PROGRAM, IN A SANDBOX (cutbox-door.mjs). By AI agents, Wed Nov 11 2026. No macro, syntax, notation, axiom, sorry.
-/
import Derived.Test.YthkpnbelbaljdaaDoorRows
import GoSem.ClaimSeven
namespace Go.Proofs.YthkpnbelbaljdaaDoor
namespace Rows

/-- THE TIED CARD OF 'laws.FnExactResetWave'. -/
def fnExactResetWaveCard : Claim7 := { stood := { row := fnExactResetWaveRow, standIns := [], harness := (true, "1e2896a7ba7463a8a7f7be4ccc2c4561c840f26a6032da8aa4e91c2a19a2f7dd"), looks := false }, kinds := [], alts := [], laidByText := true, laidKinds := [.data, .pinned], laidTests := true, laidLooks := .later }
def FnExactResetWaveCardSaid : Prop := Claim7.holds Tryd.pinned (.plain (OpenSpec.ofChange fnExactResetWaveSpec)) fnExactResetWaveCard

/-- THE TIED CARD OF 'laws.FnExactIsClean'. -/
def fnExactIsCleanCard : Claim7 := { stood := { row := fnExactIsCleanRow, standIns := [], harness := (true, "1e2896a7ba7463a8a7f7be4ccc2c4561c840f26a6032da8aa4e91c2a19a2f7dd"), looks := false }, kinds := [], alts := [], laidByText := true, laidKinds := [.data, .pinned], laidTests := true, laidLooks := .later }
def FnExactIsCleanCardSaid : Prop := Claim7.holds Tryd.pinned (.plain (OpenSpec.ofChange fnExactIsCleanSpec)) fnExactIsCleanCard

/-- THE TIED CARD OF 'laws.FnExactEnablesOf'. -/
def fnExactEnablesOfCard : Claim7 := { stood := { row := fnExactEnablesOfRow, standIns := [], harness := (true, "1e2896a7ba7463a8a7f7be4ccc2c4561c840f26a6032da8aa4e91c2a19a2f7dd"), looks := false }, kinds := [], alts := [], laidByText := true, laidKinds := [.data, .pinned], laidTests := true, laidLooks := .later }
def FnExactEnablesOfCardSaid : Prop := Claim7.holds Tryd.pinned (.plain (OpenSpec.ofChange fnExactEnablesOfSpec)) fnExactEnablesOfCard

/-- THE TIED CARD OF 'laws.FnExactSafeSwitch'. -/
def fnExactSafeSwitchCard : Claim7 := { stood := { row := fnExactSafeSwitchRow, standIns := [], harness := (true, "1e2896a7ba7463a8a7f7be4ccc2c4561c840f26a6032da8aa4e91c2a19a2f7dd"), looks := false }, kinds := [], alts := [], laidByText := true, laidKinds := [.data, .pinned], laidTests := true, laidLooks := .later }
def FnExactSafeSwitchCardSaid : Prop := Claim7.holds Tryd.pinned (.plain (OpenSpec.ofChange fnExactSafeSwitchSpec)) fnExactSafeSwitchCard

/-- THE TIED CARD OF 'laws.FnExactSwitchTimes'. -/
def fnExactSwitchTimesCard : Claim7 := { stood := { row := fnExactSwitchTimesRow, standIns := [], harness := (true, "1e2896a7ba7463a8a7f7be4ccc2c4561c840f26a6032da8aa4e91c2a19a2f7dd"), looks := false }, kinds := [], alts := [], laidByText := true, laidKinds := [.data, .pinned], laidTests := true, laidLooks := .later }
def FnExactSwitchTimesCardSaid : Prop := Claim7.holds Tryd.pinned (.plain (OpenSpec.ofChange fnExactSwitchTimesSpec)) fnExactSwitchTimesCard

/-- THE TIED CARD OF 'laws.FnSwitched'. -/
def fnSwitchedCard : Claim7 := { stood := { row := fnSwitchedRow, standIns := [], harness := (true, "1e2896a7ba7463a8a7f7be4ccc2c4561c840f26a6032da8aa4e91c2a19a2f7dd"), looks := false }, kinds := [], alts := [], laidByText := true, laidKinds := [.data, .pinned], laidTests := true, laidLooks := .later }
def FnSwitchedCardSaid : Prop := Claim7.holds Tryd.pinned (.plain (OpenSpec.ofChange fnSwitchedSpec)) fnSwitchedCard

/-- THE TIED CARD OF 'laws.FnGated'. -/
def fnGatedCard : Claim7 := { stood := { row := fnGatedRow, standIns := [], harness := (true, "1e2896a7ba7463a8a7f7be4ccc2c4561c840f26a6032da8aa4e91c2a19a2f7dd"), looks := false }, kinds := [], alts := [], laidByText := true, laidKinds := [.data, .pinned], laidTests := true, laidLooks := .later }
def FnGatedCardSaid : Prop := Claim7.holds Tryd.pinned (.plain (OpenSpec.ofChange fnGatedSpec)) fnGatedCard

/-- THE TIED CARD OF 'laws.FnFiltered'. -/
def fnFilteredCard : Claim7 := { stood := { row := fnFilteredRow, standIns := [], harness := (true, "1e2896a7ba7463a8a7f7be4ccc2c4561c840f26a6032da8aa4e91c2a19a2f7dd"), looks := false }, kinds := [], alts := [], laidByText := true, laidKinds := [.data, .pinned], laidTests := true, laidLooks := .later }
def FnFilteredCardSaid : Prop := Claim7.holds Tryd.pinned (.plain (OpenSpec.ofChange fnFilteredSpec)) fnFilteredCard

/-- THE SECOND FORM's CARD OF 'laws.FnExactResetWave'. -/
def fnExactResetWaveUptoCard : Claim7 := { stood := { row := fnExactResetWaveUptoRow, standIns := [], harness := (true, "1e2896a7ba7463a8a7f7be4ccc2c4561c840f26a6032da8aa4e91c2a19a2f7dd"), looks := false }, kinds := [], alts := [], laidByText := true, laidKinds := [.data, .pinned], laidTests := true, laidLooks := .later }
def FnExactResetWaveUptoCardSaid : Prop := Claim7.holds Tryd.pinned (.plain (OpenSpec.upto fnExactResetWaveSpec)) fnExactResetWaveUptoCard

/-- THE SECOND FORM's CARD OF 'laws.FnExactIsClean'. -/
def fnExactIsCleanUptoCard : Claim7 := { stood := { row := fnExactIsCleanUptoRow, standIns := [], harness := (true, "1e2896a7ba7463a8a7f7be4ccc2c4561c840f26a6032da8aa4e91c2a19a2f7dd"), looks := false }, kinds := [], alts := [], laidByText := true, laidKinds := [.data, .pinned], laidTests := true, laidLooks := .later }
def FnExactIsCleanUptoCardSaid : Prop := Claim7.holds Tryd.pinned (.plain (OpenSpec.upto fnExactIsCleanSpec)) fnExactIsCleanUptoCard

/-- THE SECOND FORM's CARD OF 'laws.FnExactEnablesOf'. -/
def fnExactEnablesOfUptoCard : Claim7 := { stood := { row := fnExactEnablesOfUptoRow, standIns := [], harness := (true, "1e2896a7ba7463a8a7f7be4ccc2c4561c840f26a6032da8aa4e91c2a19a2f7dd"), looks := false }, kinds := [], alts := [], laidByText := true, laidKinds := [.data, .pinned], laidTests := true, laidLooks := .later }
def FnExactEnablesOfUptoCardSaid : Prop := Claim7.holds Tryd.pinned (.plain (OpenSpec.upto fnExactEnablesOfSpec)) fnExactEnablesOfUptoCard

/-- THE SECOND FORM's CARD OF 'laws.FnExactSafeSwitch'. -/
def fnExactSafeSwitchUptoCard : Claim7 := { stood := { row := fnExactSafeSwitchUptoRow, standIns := [], harness := (true, "1e2896a7ba7463a8a7f7be4ccc2c4561c840f26a6032da8aa4e91c2a19a2f7dd"), looks := false }, kinds := [], alts := [], laidByText := true, laidKinds := [.data, .pinned], laidTests := true, laidLooks := .later }
def FnExactSafeSwitchUptoCardSaid : Prop := Claim7.holds Tryd.pinned (.plain (OpenSpec.upto fnExactSafeSwitchSpec)) fnExactSafeSwitchUptoCard

/-- THE SECOND FORM's CARD OF 'laws.FnExactSwitchTimes'. -/
def fnExactSwitchTimesUptoCard : Claim7 := { stood := { row := fnExactSwitchTimesUptoRow, standIns := [], harness := (true, "1e2896a7ba7463a8a7f7be4ccc2c4561c840f26a6032da8aa4e91c2a19a2f7dd"), looks := false }, kinds := [], alts := [], laidByText := true, laidKinds := [.data, .pinned], laidTests := true, laidLooks := .later }
def FnExactSwitchTimesUptoCardSaid : Prop := Claim7.holds Tryd.pinned (.plain (OpenSpec.upto fnExactSwitchTimesSpec)) fnExactSwitchTimesUptoCard

/-- THE SECOND FORM's CARD OF 'laws.FnSwitched'. -/
def fnSwitchedUptoCard : Claim7 := { stood := { row := fnSwitchedUptoRow, standIns := [], harness := (true, "1e2896a7ba7463a8a7f7be4ccc2c4561c840f26a6032da8aa4e91c2a19a2f7dd"), looks := false }, kinds := [], alts := [], laidByText := true, laidKinds := [.data, .pinned], laidTests := true, laidLooks := .later }
def FnSwitchedUptoCardSaid : Prop := Claim7.holds Tryd.pinned (.plain (OpenSpec.upto fnSwitchedSpec)) fnSwitchedUptoCard

/-- THE SECOND FORM's CARD OF 'laws.FnGated'. -/
def fnGatedUptoCard : Claim7 := { stood := { row := fnGatedUptoRow, standIns := [], harness := (true, "1e2896a7ba7463a8a7f7be4ccc2c4561c840f26a6032da8aa4e91c2a19a2f7dd"), looks := false }, kinds := [], alts := [], laidByText := true, laidKinds := [.data, .pinned], laidTests := true, laidLooks := .later }
def FnGatedUptoCardSaid : Prop := Claim7.holds Tryd.pinned (.plain (OpenSpec.upto fnGatedSpec)) fnGatedUptoCard

/-- THE SECOND FORM's CARD OF 'laws.FnFiltered'. -/
def fnFilteredUptoCard : Claim7 := { stood := { row := fnFilteredUptoRow, standIns := [], harness := (true, "1e2896a7ba7463a8a7f7be4ccc2c4561c840f26a6032da8aa4e91c2a19a2f7dd"), looks := false }, kinds := [], alts := [], laidByText := true, laidKinds := [.data, .pinned], laidTests := true, laidLooks := .later }
def FnFilteredUptoCardSaid : Prop := Claim7.holds Tryd.pinned (.plain (OpenSpec.upto fnFilteredSpec)) fnFilteredUptoCard
end Rows
end Go.Proofs.YthkpnbelbaljdaaDoor
