/-
  NARROWER THAN 'FOR EVERY INPUT', by the rows' own cells (each row's printed sentence says how): FnExactResetWave: laid · FnExactIsClean: laid · FnExactEnablesOf: laid · FnExactSafeSwitch: laid · FnExactSwitchTimes: laid · FnSwitched: laid · FnGated: laid · FnFiltered: laid.
  DERIVED. THE GIVEN ROWS OF THIS SEAT. 8 by the template 'for every input the law returns true; each argument reads behind the call as it read before'; 0 by the template 'total and deterministic' (their statements: YthkpnbelbaljdaaDoorTotals.lean).
  GIVEN WITH THE SEED: the statements are not yours to turn. If you find one false, say at which input.
  Laid BY PROGRAM, IN A SANDBOX (cutbox-rows.mjs): the forced cells as the released guide's own fill.sh prints them over the translation 9269c6511cb7ac8e… (all of the seat's roots in one cut). By AI agents, Wed Nov 11 2026. No macro, syntax, notation, axiom, sorry.
-/
import Derived.Test.YthkpnbelbaljdaaDoorChecked
import GoSem.PinnedTables
import GoSem.Claim
import GoSem.ClaimJoined
import GoSem.ClaimMapViews
import Derived.JoinedTies
import Derived.KernelRfl
namespace Go.Proofs.YthkpnbelbaljdaaDoor
/- THE CELL 'sum', in the pinned program and in every row, IS THE sha256 OF THE DUMP (.gsa) THAT YthkpnbelbaljdaaDoorProg.lean LOADS. Nothing in Lean hashes anything: it is a label: what it is worth is what the hold of that sum in a sandbox is worth. -/
noncomputable def Tryd.pinned : Pinned := { name := "ythkpnbelbaljdaadoor", sum := "9269c6511cb7ac8ea378555c37bcd22f03db0d995a39bd50e56cc822c151d1b2", checked := Tryd.checked }
namespace Rows
def none {H : Type} : Left H := { results := [], args := [] }

/- WHAT THE LISTED PACKAGE-LEVEL VARIABLES READ AS WHEN THE CALL BEGINS. Each datum BY PROGRAM (the guide's laid-datum.mjs) off the statement by which the dump's own 'gosem.cut.vars' lays the variable. In a bare row this is a premise. The card (YthkpnbelbaljdaaDoorCards.lean) ties it to the program's text. -/
def laid_unicode_utf8_acceptRanges {H : Type} : DataW H := .agg [.agg [.lit (.int .u8 128), .lit (.int .u8 191)], .agg [.lit (.int .u8 160), .lit (.int .u8 191)], .agg [.lit (.int .u8 128), .lit (.int .u8 159)], .agg [.lit (.int .u8 144), .lit (.int .u8 191)], .agg [.lit (.int .u8 128), .lit (.int .u8 143)], .agg [.lit (.int .u8 0), .lit (.int .u8 0)], .agg [.lit (.int .u8 0), .lit (.int .u8 0)], .agg [.lit (.int .u8 0), .lit (.int .u8 0)], .agg [.lit (.int .u8 0), .lit (.int .u8 0)], .agg [.lit (.int .u8 0), .lit (.int .u8 0)], .agg [.lit (.int .u8 0), .lit (.int .u8 0)], .agg [.lit (.int .u8 0), .lit (.int .u8 0)], .agg [.lit (.int .u8 0), .lit (.int .u8 0)], .agg [.lit (.int .u8 0), .lit (.int .u8 0)], .agg [.lit (.int .u8 0), .lit (.int .u8 0)], .agg [.lit (.int .u8 0), .lit (.int .u8 0)]]
/-- One of Go's own tables, pinned by name: the form's constant. -/
def laid_unicode_utf8_first : DataW Unit := Go.Pinned.utf8First

/-- 'laws.FnExactResetWave': WHATEVER THE INPUT: true; the input reads as it did. -/
def fnExactResetWaveSpec : ChangeSpec := { name := "fnExactResetWave", fn := fun _ => fun
  | [d1, d2, d3] => { results := [.lit (.bool true)], args := [d1, d2, d3] }
  | _ => none }
def fnExactResetWaveRow : OpenClaim := { program := "ythkpnbelbaljdaadoor", sum := "9269c6511cb7ac8ea378555c37bcd22f03db0d995a39bd50e56cc822c151d1b2", func := "loop.example/g01153/laws.FnExactResetWave", spec := "fnExactResetWave", inPlace := ["internal/bytealg.IndexByteString", "internal/bytealg.IndexString"], unfollowed := true, recurses := true, named := ["unicode/utf8.first", "unicode/utf8.acceptRanges", "internal/bytealg.MaxLen"], apart := false, laid := [("unicode/utf8.acceptRanges", laid_unicode_utf8_acceptRanges), ("unicode/utf8.first", laid_unicode_utf8_first)] }
def FnExactResetWaveSaid : Prop := fnExactResetWaveRow.holds Tryd.pinned (OpenSpec.ofChange fnExactResetWaveSpec)

/-- ITS FALSE NEIGHBOUR: 'it returns false'. Refute it at one input. -/
def fnExactResetWaveWrong : ChangeSpec := { name := "fnExactResetWave", fn := fun _ => fun
  | [d1, d2, d3] => { results := [.lit (.bool false)], args := [d1, d2, d3] }
  | _ => none }
def FnExactResetWaveWrongFalsely : Prop := fnExactResetWaveRow.holds Tryd.pinned (OpenSpec.ofChange fnExactResetWaveWrong)

/-- 'laws.FnExactIsClean': WHATEVER THE INPUT: true; the input reads as it did. -/
def fnExactIsCleanSpec : ChangeSpec := { name := "fnExactIsClean", fn := fun _ => fun
  | [d1, d2, d3] => { results := [.lit (.bool true)], args := [d1, d2, d3] }
  | _ => none }
def fnExactIsCleanRow : OpenClaim := { program := "ythkpnbelbaljdaadoor", sum := "9269c6511cb7ac8ea378555c37bcd22f03db0d995a39bd50e56cc822c151d1b2", func := "loop.example/g01153/laws.FnExactIsClean", spec := "fnExactIsClean", inPlace := ["internal/bytealg.IndexByteString", "internal/bytealg.IndexString"], unfollowed := true, recurses := true, named := ["unicode/utf8.first", "unicode/utf8.acceptRanges", "internal/bytealg.MaxLen"], apart := false, laid := [("unicode/utf8.acceptRanges", laid_unicode_utf8_acceptRanges), ("unicode/utf8.first", laid_unicode_utf8_first)] }
def FnExactIsCleanSaid : Prop := fnExactIsCleanRow.holds Tryd.pinned (OpenSpec.ofChange fnExactIsCleanSpec)

/-- ITS FALSE NEIGHBOUR: 'it returns false'. Refute it at one input. -/
def fnExactIsCleanWrong : ChangeSpec := { name := "fnExactIsClean", fn := fun _ => fun
  | [d1, d2, d3] => { results := [.lit (.bool false)], args := [d1, d2, d3] }
  | _ => none }
def FnExactIsCleanWrongFalsely : Prop := fnExactIsCleanRow.holds Tryd.pinned (OpenSpec.ofChange fnExactIsCleanWrong)

/-- 'laws.FnExactEnablesOf': WHATEVER THE INPUT: true; the input reads as it did. -/
def fnExactEnablesOfSpec : ChangeSpec := { name := "fnExactEnablesOf", fn := fun _ => fun
  | [d1, d2, d3, d4] => { results := [.lit (.bool true)], args := [d1, d2, d3, d4] }
  | _ => none }
def fnExactEnablesOfRow : OpenClaim := { program := "ythkpnbelbaljdaadoor", sum := "9269c6511cb7ac8ea378555c37bcd22f03db0d995a39bd50e56cc822c151d1b2", func := "loop.example/g01153/laws.FnExactEnablesOf", spec := "fnExactEnablesOf", inPlace := ["internal/bytealg.IndexByteString", "internal/bytealg.IndexString"], unfollowed := true, recurses := true, named := ["unicode/utf8.first", "unicode/utf8.acceptRanges", "internal/bytealg.MaxLen"], apart := false, laid := [("unicode/utf8.acceptRanges", laid_unicode_utf8_acceptRanges), ("unicode/utf8.first", laid_unicode_utf8_first)] }
def FnExactEnablesOfSaid : Prop := fnExactEnablesOfRow.holds Tryd.pinned (OpenSpec.ofChange fnExactEnablesOfSpec)

/-- ITS FALSE NEIGHBOUR: 'it returns false'. Refute it at one input. -/
def fnExactEnablesOfWrong : ChangeSpec := { name := "fnExactEnablesOf", fn := fun _ => fun
  | [d1, d2, d3, d4] => { results := [.lit (.bool false)], args := [d1, d2, d3, d4] }
  | _ => none }
def FnExactEnablesOfWrongFalsely : Prop := fnExactEnablesOfRow.holds Tryd.pinned (OpenSpec.ofChange fnExactEnablesOfWrong)

/-- 'laws.FnExactSafeSwitch': WHATEVER THE INPUT: true; the input reads as it did. -/
def fnExactSafeSwitchSpec : ChangeSpec := { name := "fnExactSafeSwitch", fn := fun _ => fun
  | [d1, d2, d3, d4] => { results := [.lit (.bool true)], args := [d1, d2, d3, d4] }
  | _ => none }
def fnExactSafeSwitchRow : OpenClaim := { program := "ythkpnbelbaljdaadoor", sum := "9269c6511cb7ac8ea378555c37bcd22f03db0d995a39bd50e56cc822c151d1b2", func := "loop.example/g01153/laws.FnExactSafeSwitch", spec := "fnExactSafeSwitch", inPlace := ["internal/bytealg.IndexByteString", "internal/bytealg.IndexString"], unfollowed := true, recurses := true, named := ["unicode/utf8.first", "unicode/utf8.acceptRanges", "internal/bytealg.MaxLen"], apart := false, laid := [("unicode/utf8.acceptRanges", laid_unicode_utf8_acceptRanges), ("unicode/utf8.first", laid_unicode_utf8_first)] }
def FnExactSafeSwitchSaid : Prop := fnExactSafeSwitchRow.holds Tryd.pinned (OpenSpec.ofChange fnExactSafeSwitchSpec)

/-- ITS FALSE NEIGHBOUR: 'it returns false'. Refute it at one input. -/
def fnExactSafeSwitchWrong : ChangeSpec := { name := "fnExactSafeSwitch", fn := fun _ => fun
  | [d1, d2, d3, d4] => { results := [.lit (.bool false)], args := [d1, d2, d3, d4] }
  | _ => none }
def FnExactSafeSwitchWrongFalsely : Prop := fnExactSafeSwitchRow.holds Tryd.pinned (OpenSpec.ofChange fnExactSafeSwitchWrong)

/-- 'laws.FnExactSwitchTimes': WHATEVER THE INPUT: true; the input reads as it did. -/
def fnExactSwitchTimesSpec : ChangeSpec := { name := "fnExactSwitchTimes", fn := fun _ => fun
  | [d1, d2, d3, d4] => { results := [.lit (.bool true)], args := [d1, d2, d3, d4] }
  | _ => none }
def fnExactSwitchTimesRow : OpenClaim := { program := "ythkpnbelbaljdaadoor", sum := "9269c6511cb7ac8ea378555c37bcd22f03db0d995a39bd50e56cc822c151d1b2", func := "loop.example/g01153/laws.FnExactSwitchTimes", spec := "fnExactSwitchTimes", inPlace := ["internal/bytealg.IndexByteString", "internal/bytealg.IndexString"], unfollowed := true, recurses := true, named := ["unicode/utf8.first", "unicode/utf8.acceptRanges", "internal/bytealg.MaxLen"], apart := false, laid := [("unicode/utf8.acceptRanges", laid_unicode_utf8_acceptRanges), ("unicode/utf8.first", laid_unicode_utf8_first)] }
def FnExactSwitchTimesSaid : Prop := fnExactSwitchTimesRow.holds Tryd.pinned (OpenSpec.ofChange fnExactSwitchTimesSpec)

/-- ITS FALSE NEIGHBOUR: 'it returns false'. Refute it at one input. -/
def fnExactSwitchTimesWrong : ChangeSpec := { name := "fnExactSwitchTimes", fn := fun _ => fun
  | [d1, d2, d3, d4] => { results := [.lit (.bool false)], args := [d1, d2, d3, d4] }
  | _ => none }
def FnExactSwitchTimesWrongFalsely : Prop := fnExactSwitchTimesRow.holds Tryd.pinned (OpenSpec.ofChange fnExactSwitchTimesWrong)

/-- 'laws.FnSwitched': WHATEVER THE INPUT: true; the input reads as it did. -/
def fnSwitchedSpec : ChangeSpec := { name := "fnSwitched", fn := fun _ => fun
  | [d1, d2] => { results := [.lit (.bool true)], args := [d1, d2] }
  | _ => none }
def fnSwitchedRow : OpenClaim := { program := "ythkpnbelbaljdaadoor", sum := "9269c6511cb7ac8ea378555c37bcd22f03db0d995a39bd50e56cc822c151d1b2", func := "loop.example/g01153/laws.FnSwitched", spec := "fnSwitched", inPlace := ["internal/bytealg.IndexByteString", "internal/bytealg.IndexString"], unfollowed := true, recurses := true, named := ["unicode/utf8.first", "unicode/utf8.acceptRanges", "internal/bytealg.MaxLen"], apart := false, laid := [("unicode/utf8.acceptRanges", laid_unicode_utf8_acceptRanges), ("unicode/utf8.first", laid_unicode_utf8_first)] }
def FnSwitchedSaid : Prop := fnSwitchedRow.holds Tryd.pinned (OpenSpec.ofChange fnSwitchedSpec)

/-- ITS FALSE NEIGHBOUR: 'it returns false'. Refute it at one input. -/
def fnSwitchedWrong : ChangeSpec := { name := "fnSwitched", fn := fun _ => fun
  | [d1, d2] => { results := [.lit (.bool false)], args := [d1, d2] }
  | _ => none }
def FnSwitchedWrongFalsely : Prop := fnSwitchedRow.holds Tryd.pinned (OpenSpec.ofChange fnSwitchedWrong)

/-- 'laws.FnGated': WHATEVER THE INPUT: true; the input reads as it did. -/
def fnGatedSpec : ChangeSpec := { name := "fnGated", fn := fun _ => fun
  | [d1, d2] => { results := [.lit (.bool true)], args := [d1, d2] }
  | _ => none }
def fnGatedRow : OpenClaim := { program := "ythkpnbelbaljdaadoor", sum := "9269c6511cb7ac8ea378555c37bcd22f03db0d995a39bd50e56cc822c151d1b2", func := "loop.example/g01153/laws.FnGated", spec := "fnGated", inPlace := ["internal/bytealg.IndexByteString", "internal/bytealg.IndexString", "internal/bytealg.CountString"], unfollowed := true, recurses := true, named := ["unicode/utf8.first", "unicode/utf8.acceptRanges", "internal/bytealg.MaxLen"], apart := false, laid := [("unicode/utf8.acceptRanges", laid_unicode_utf8_acceptRanges), ("unicode/utf8.first", laid_unicode_utf8_first)] }
def FnGatedSaid : Prop := fnGatedRow.holds Tryd.pinned (OpenSpec.ofChange fnGatedSpec)

/-- ITS FALSE NEIGHBOUR: 'it returns false'. Refute it at one input. -/
def fnGatedWrong : ChangeSpec := { name := "fnGated", fn := fun _ => fun
  | [d1, d2] => { results := [.lit (.bool false)], args := [d1, d2] }
  | _ => none }
def FnGatedWrongFalsely : Prop := fnGatedRow.holds Tryd.pinned (OpenSpec.ofChange fnGatedWrong)

/-- 'laws.FnFiltered': WHATEVER THE INPUT: true; the input reads as it did. -/
def fnFilteredSpec : ChangeSpec := { name := "fnFiltered", fn := fun _ => fun
  | [d1, d2] => { results := [.lit (.bool true)], args := [d1, d2] }
  | _ => none }
def fnFilteredRow : OpenClaim := { program := "ythkpnbelbaljdaadoor", sum := "9269c6511cb7ac8ea378555c37bcd22f03db0d995a39bd50e56cc822c151d1b2", func := "loop.example/g01153/laws.FnFiltered", spec := "fnFiltered", inPlace := ["internal/bytealg.IndexByteString", "internal/bytealg.IndexString", "internal/abi.NoEscape", "internal/bytealg.MakeNoZero", "internal/bytealg.CountString"], unfollowed := true, recurses := true, named := ["unicode/utf8.first", "unicode/utf8.acceptRanges", "internal/bytealg.MaxLen"], apart := false, laid := [("unicode/utf8.acceptRanges", laid_unicode_utf8_acceptRanges), ("unicode/utf8.first", laid_unicode_utf8_first)] }
def FnFilteredSaid : Prop := fnFilteredRow.holds Tryd.pinned (OpenSpec.ofChange fnFilteredSpec)

/-- ITS FALSE NEIGHBOUR: 'it returns false'. Refute it at one input. -/
def fnFilteredWrong : ChangeSpec := { name := "fnFiltered", fn := fun _ => fun
  | [d1, d2] => { results := [.lit (.bool false)], args := [d1, d2] }
  | _ => none }
def FnFilteredWrongFalsely : Prop := fnFilteredRow.holds Tryd.pinned (OpenSpec.ofChange fnFilteredWrong)

/- THE SECOND FORM. 'bulk': how many values and letters a reading holds, each counted each time it is reached (what is shared counts as often as it is met; a slice's spare places count too). A statement '..UptoSaid' is the law's where the arguments, and the package variables that the reading takes, are together of bulk at most 1048576: NARROWER than '..Said'. Prove '..Said' where nothing that the law and all that it calls make is longer than what came in: it says more and counts as full. Else prove '..UptoSaid'. A law counts once. -/
mutual
def uptoBulk {H : Type} : DataW H → Nat
  | .lit (.string bytes) => bytes.length + 1
  | .lit _ => 1
  | .nil => 1
  | .ptr d => uptoBulk d + 1
  | .slice elems spare => uptoBulkAll elems + uptoBulkAll spare + 1
  | .agg parts => uptoBulkAll parts + 1
  | .iface _ d => uptoBulk d + 1
  | .map entries => uptoBulkEntries entries + 1
  | .held _ => 1
def uptoBulkAll {H : Type} : List (DataW H) → Nat
  | [] => 0
  | d :: r => uptoBulk d + uptoBulkAll r
def uptoBulkEntries {H : Type} : List (Lit × DataW H) → Nat
  | [] => 0
  | x :: r => uptoBulkEntry x + uptoBulkEntries r
def uptoBulkEntry {H : Type} : Lit × DataW H → Nat
  | (.string bytes, d) => bytes.length + uptoBulk d + 1
  | (_, d) => uptoBulk d + 1
 end
def uptoSmall : (H : Type) → List (DataW H) → Bool := fun _ ds => decide (uptoBulkAll ds ≤ 1048576)
def OpenSpec.upto (s : _root_.Go.ChangeSpec) : _root_.Go.OpenSpec := { _root_.Go.OpenSpec.ofChange s with cond := some uptoSmall }

/-- 'laws.FnExactResetWave', WHERE WHAT IT READS IS OF BULK AT MOST 1048576: true; the input reads as it did. -/
def fnExactResetWaveUptoRow : OpenClaim := { program := "ythkpnbelbaljdaadoor", sum := "9269c6511cb7ac8ea378555c37bcd22f03db0d995a39bd50e56cc822c151d1b2", func := "loop.example/g01153/laws.FnExactResetWave", spec := "fnExactResetWave", inPlace := ["internal/bytealg.IndexByteString", "internal/bytealg.IndexString"], unfollowed := true, recurses := true, named := ["unicode/utf8.first", "unicode/utf8.acceptRanges", "internal/bytealg.MaxLen"], apart := false, laid := [("unicode/utf8.acceptRanges", laid_unicode_utf8_acceptRanges), ("unicode/utf8.first", laid_unicode_utf8_first)], narrowed := true }
def FnExactResetWaveUptoSaid : Prop := fnExactResetWaveUptoRow.holds Tryd.pinned (OpenSpec.upto fnExactResetWaveSpec)

/-- 'laws.FnExactIsClean', WHERE WHAT IT READS IS OF BULK AT MOST 1048576: true; the input reads as it did. -/
def fnExactIsCleanUptoRow : OpenClaim := { program := "ythkpnbelbaljdaadoor", sum := "9269c6511cb7ac8ea378555c37bcd22f03db0d995a39bd50e56cc822c151d1b2", func := "loop.example/g01153/laws.FnExactIsClean", spec := "fnExactIsClean", inPlace := ["internal/bytealg.IndexByteString", "internal/bytealg.IndexString"], unfollowed := true, recurses := true, named := ["unicode/utf8.first", "unicode/utf8.acceptRanges", "internal/bytealg.MaxLen"], apart := false, laid := [("unicode/utf8.acceptRanges", laid_unicode_utf8_acceptRanges), ("unicode/utf8.first", laid_unicode_utf8_first)], narrowed := true }
def FnExactIsCleanUptoSaid : Prop := fnExactIsCleanUptoRow.holds Tryd.pinned (OpenSpec.upto fnExactIsCleanSpec)

/-- 'laws.FnExactEnablesOf', WHERE WHAT IT READS IS OF BULK AT MOST 1048576: true; the input reads as it did. -/
def fnExactEnablesOfUptoRow : OpenClaim := { program := "ythkpnbelbaljdaadoor", sum := "9269c6511cb7ac8ea378555c37bcd22f03db0d995a39bd50e56cc822c151d1b2", func := "loop.example/g01153/laws.FnExactEnablesOf", spec := "fnExactEnablesOf", inPlace := ["internal/bytealg.IndexByteString", "internal/bytealg.IndexString"], unfollowed := true, recurses := true, named := ["unicode/utf8.first", "unicode/utf8.acceptRanges", "internal/bytealg.MaxLen"], apart := false, laid := [("unicode/utf8.acceptRanges", laid_unicode_utf8_acceptRanges), ("unicode/utf8.first", laid_unicode_utf8_first)], narrowed := true }
def FnExactEnablesOfUptoSaid : Prop := fnExactEnablesOfUptoRow.holds Tryd.pinned (OpenSpec.upto fnExactEnablesOfSpec)

/-- 'laws.FnExactSafeSwitch', WHERE WHAT IT READS IS OF BULK AT MOST 1048576: true; the input reads as it did. -/
def fnExactSafeSwitchUptoRow : OpenClaim := { program := "ythkpnbelbaljdaadoor", sum := "9269c6511cb7ac8ea378555c37bcd22f03db0d995a39bd50e56cc822c151d1b2", func := "loop.example/g01153/laws.FnExactSafeSwitch", spec := "fnExactSafeSwitch", inPlace := ["internal/bytealg.IndexByteString", "internal/bytealg.IndexString"], unfollowed := true, recurses := true, named := ["unicode/utf8.first", "unicode/utf8.acceptRanges", "internal/bytealg.MaxLen"], apart := false, laid := [("unicode/utf8.acceptRanges", laid_unicode_utf8_acceptRanges), ("unicode/utf8.first", laid_unicode_utf8_first)], narrowed := true }
def FnExactSafeSwitchUptoSaid : Prop := fnExactSafeSwitchUptoRow.holds Tryd.pinned (OpenSpec.upto fnExactSafeSwitchSpec)

/-- 'laws.FnExactSwitchTimes', WHERE WHAT IT READS IS OF BULK AT MOST 1048576: true; the input reads as it did. -/
def fnExactSwitchTimesUptoRow : OpenClaim := { program := "ythkpnbelbaljdaadoor", sum := "9269c6511cb7ac8ea378555c37bcd22f03db0d995a39bd50e56cc822c151d1b2", func := "loop.example/g01153/laws.FnExactSwitchTimes", spec := "fnExactSwitchTimes", inPlace := ["internal/bytealg.IndexByteString", "internal/bytealg.IndexString"], unfollowed := true, recurses := true, named := ["unicode/utf8.first", "unicode/utf8.acceptRanges", "internal/bytealg.MaxLen"], apart := false, laid := [("unicode/utf8.acceptRanges", laid_unicode_utf8_acceptRanges), ("unicode/utf8.first", laid_unicode_utf8_first)], narrowed := true }
def FnExactSwitchTimesUptoSaid : Prop := fnExactSwitchTimesUptoRow.holds Tryd.pinned (OpenSpec.upto fnExactSwitchTimesSpec)

/-- 'laws.FnSwitched', WHERE WHAT IT READS IS OF BULK AT MOST 1048576: true; the input reads as it did. -/
def fnSwitchedUptoRow : OpenClaim := { program := "ythkpnbelbaljdaadoor", sum := "9269c6511cb7ac8ea378555c37bcd22f03db0d995a39bd50e56cc822c151d1b2", func := "loop.example/g01153/laws.FnSwitched", spec := "fnSwitched", inPlace := ["internal/bytealg.IndexByteString", "internal/bytealg.IndexString"], unfollowed := true, recurses := true, named := ["unicode/utf8.first", "unicode/utf8.acceptRanges", "internal/bytealg.MaxLen"], apart := false, laid := [("unicode/utf8.acceptRanges", laid_unicode_utf8_acceptRanges), ("unicode/utf8.first", laid_unicode_utf8_first)], narrowed := true }
def FnSwitchedUptoSaid : Prop := fnSwitchedUptoRow.holds Tryd.pinned (OpenSpec.upto fnSwitchedSpec)

/-- 'laws.FnGated', WHERE WHAT IT READS IS OF BULK AT MOST 1048576: true; the input reads as it did. -/
def fnGatedUptoRow : OpenClaim := { program := "ythkpnbelbaljdaadoor", sum := "9269c6511cb7ac8ea378555c37bcd22f03db0d995a39bd50e56cc822c151d1b2", func := "loop.example/g01153/laws.FnGated", spec := "fnGated", inPlace := ["internal/bytealg.IndexByteString", "internal/bytealg.IndexString", "internal/bytealg.CountString"], unfollowed := true, recurses := true, named := ["unicode/utf8.first", "unicode/utf8.acceptRanges", "internal/bytealg.MaxLen"], apart := false, laid := [("unicode/utf8.acceptRanges", laid_unicode_utf8_acceptRanges), ("unicode/utf8.first", laid_unicode_utf8_first)], narrowed := true }
def FnGatedUptoSaid : Prop := fnGatedUptoRow.holds Tryd.pinned (OpenSpec.upto fnGatedSpec)

/-- 'laws.FnFiltered', WHERE WHAT IT READS IS OF BULK AT MOST 1048576: true; the input reads as it did. -/
def fnFilteredUptoRow : OpenClaim := { program := "ythkpnbelbaljdaadoor", sum := "9269c6511cb7ac8ea378555c37bcd22f03db0d995a39bd50e56cc822c151d1b2", func := "loop.example/g01153/laws.FnFiltered", spec := "fnFiltered", inPlace := ["internal/bytealg.IndexByteString", "internal/bytealg.IndexString", "internal/abi.NoEscape", "internal/bytealg.MakeNoZero", "internal/bytealg.CountString"], unfollowed := true, recurses := true, named := ["unicode/utf8.first", "unicode/utf8.acceptRanges", "internal/bytealg.MaxLen"], apart := false, laid := [("unicode/utf8.acceptRanges", laid_unicode_utf8_acceptRanges), ("unicode/utf8.first", laid_unicode_utf8_first)], narrowed := true }
def FnFilteredUptoSaid : Prop := fnFilteredUptoRow.holds Tryd.pinned (OpenSpec.upto fnFilteredSpec)

end Rows
end Go.Proofs.YthkpnbelbaljdaaDoor
