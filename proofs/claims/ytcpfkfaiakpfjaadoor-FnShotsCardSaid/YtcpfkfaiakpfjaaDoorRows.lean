/-
  NARROWER THAN 'FOR EVERY INPUT', by the rows' own cells (each row's printed sentence says how): FnExactFillGaps: laid · FnExactDropPulses: laid · FnExactOneShot: laid · FnExactWindowRange: laid · FnExactTimeouts: laid · FnExactCountWindows: laid · FnExactShortPulses: laid · FnShots: laid · FnExactStretchPulses: laid · FnExactMajorityWave: laid · FnExactDebounce: laid.
  DERIVED. THE GIVEN ROWS OF THIS SEAT. 11 by the template 'for every input the law returns true; each argument reads behind the call as it read before'; 0 by the template 'total and deterministic' (their statements: YtcpfkfaiakpfjaaDoorTotals.lean).
  GIVEN WITH THE SEED: the statements are not yours to turn. If you find one false, say at which input.
  Laid BY PROGRAM, IN A SANDBOX (cutbox-rows.mjs): the forced cells as the released guide's own fill.sh prints them over the translation 6f15ebe72ad415cf… (all of the seat's roots in one cut). By AI agents, Wed Nov 11 2026. No macro, syntax, notation, axiom, sorry.
-/
import Derived.Test.YtcpfkfaiakpfjaaDoorChecked
import GoSem.PinnedTables
import GoSem.Claim
import GoSem.ClaimJoined
import GoSem.ClaimMapViews
import Derived.JoinedTies
import Derived.KernelRfl
namespace Go.Proofs.YtcpfkfaiakpfjaaDoor
/- THE CELL 'sum', in the pinned program and in every row, IS THE sha256 OF THE DUMP (.gsa) THAT YtcpfkfaiakpfjaaDoorProg.lean LOADS. Nothing in Lean hashes anything: it is a label: what it is worth is what the hold of that sum in a sandbox is worth. -/
noncomputable def Tryd.pinned : Pinned := { name := "ytcpfkfaiakpfjaadoor", sum := "6f15ebe72ad415cfd2f9d2990df19010429762345dc7840827791c5ac77ba7de", checked := Tryd.checked }
namespace Rows
def none {H : Type} : Left H := { results := [], args := [] }

/- WHAT THE LISTED PACKAGE-LEVEL VARIABLES READ AS WHEN THE CALL BEGINS. Each datum BY PROGRAM (the guide's laid-datum.mjs) off the statement by which the dump's own 'gosem.cut.vars' lays the variable. In a bare row this is a premise. The card (YtcpfkfaiakpfjaaDoorCards.lean) ties it to the program's text. -/
def laid_unicode_utf8_acceptRanges {H : Type} : DataW H := .agg [.agg [.lit (.int .u8 128), .lit (.int .u8 191)], .agg [.lit (.int .u8 160), .lit (.int .u8 191)], .agg [.lit (.int .u8 128), .lit (.int .u8 159)], .agg [.lit (.int .u8 144), .lit (.int .u8 191)], .agg [.lit (.int .u8 128), .lit (.int .u8 143)], .agg [.lit (.int .u8 0), .lit (.int .u8 0)], .agg [.lit (.int .u8 0), .lit (.int .u8 0)], .agg [.lit (.int .u8 0), .lit (.int .u8 0)], .agg [.lit (.int .u8 0), .lit (.int .u8 0)], .agg [.lit (.int .u8 0), .lit (.int .u8 0)], .agg [.lit (.int .u8 0), .lit (.int .u8 0)], .agg [.lit (.int .u8 0), .lit (.int .u8 0)], .agg [.lit (.int .u8 0), .lit (.int .u8 0)], .agg [.lit (.int .u8 0), .lit (.int .u8 0)], .agg [.lit (.int .u8 0), .lit (.int .u8 0)], .agg [.lit (.int .u8 0), .lit (.int .u8 0)]]
/-- One of Go's own tables, pinned by name: the form's constant. -/
def laid_unicode_utf8_first : DataW Unit := Go.Pinned.utf8First

/-- 'laws.FnExactFillGaps': WHATEVER THE INPUT: true; the input reads as it did. -/
def fnExactFillGapsSpec : ChangeSpec := { name := "fnExactFillGaps", fn := fun _ => fun
  | [d1, d2] => { results := [.lit (.bool true)], args := [d1, d2] }
  | _ => none }
def fnExactFillGapsRow : OpenClaim := { program := "ytcpfkfaiakpfjaadoor", sum := "6f15ebe72ad415cfd2f9d2990df19010429762345dc7840827791c5ac77ba7de", func := "loop.example/g01153/laws.FnExactFillGaps", spec := "fnExactFillGaps", inPlace := ["internal/bytealg.IndexByteString", "internal/bytealg.IndexString"], named := ["unicode/utf8.first", "unicode/utf8.acceptRanges", "internal/bytealg.MaxLen"], apart := false, laid := [("unicode/utf8.acceptRanges", laid_unicode_utf8_acceptRanges), ("unicode/utf8.first", laid_unicode_utf8_first)] }
def FnExactFillGapsSaid : Prop := fnExactFillGapsRow.holds Tryd.pinned (OpenSpec.ofChange fnExactFillGapsSpec)

/-- ITS FALSE NEIGHBOUR: 'it returns false'. Refute it at one input. -/
def fnExactFillGapsWrong : ChangeSpec := { name := "fnExactFillGaps", fn := fun _ => fun
  | [d1, d2] => { results := [.lit (.bool false)], args := [d1, d2] }
  | _ => none }
def FnExactFillGapsWrongFalsely : Prop := fnExactFillGapsRow.holds Tryd.pinned (OpenSpec.ofChange fnExactFillGapsWrong)

/-- 'laws.FnExactDropPulses': WHATEVER THE INPUT: true; the input reads as it did. -/
def fnExactDropPulsesSpec : ChangeSpec := { name := "fnExactDropPulses", fn := fun _ => fun
  | [d1, d2] => { results := [.lit (.bool true)], args := [d1, d2] }
  | _ => none }
def fnExactDropPulsesRow : OpenClaim := { program := "ytcpfkfaiakpfjaadoor", sum := "6f15ebe72ad415cfd2f9d2990df19010429762345dc7840827791c5ac77ba7de", func := "loop.example/g01153/laws.FnExactDropPulses", spec := "fnExactDropPulses", inPlace := ["internal/bytealg.IndexByteString", "internal/bytealg.IndexString"], named := ["unicode/utf8.first", "unicode/utf8.acceptRanges", "internal/bytealg.MaxLen"], apart := false, laid := [("unicode/utf8.acceptRanges", laid_unicode_utf8_acceptRanges), ("unicode/utf8.first", laid_unicode_utf8_first)] }
def FnExactDropPulsesSaid : Prop := fnExactDropPulsesRow.holds Tryd.pinned (OpenSpec.ofChange fnExactDropPulsesSpec)

/-- ITS FALSE NEIGHBOUR: 'it returns false'. Refute it at one input. -/
def fnExactDropPulsesWrong : ChangeSpec := { name := "fnExactDropPulses", fn := fun _ => fun
  | [d1, d2] => { results := [.lit (.bool false)], args := [d1, d2] }
  | _ => none }
def FnExactDropPulsesWrongFalsely : Prop := fnExactDropPulsesRow.holds Tryd.pinned (OpenSpec.ofChange fnExactDropPulsesWrong)

/-- 'laws.FnExactOneShot': WHATEVER THE INPUT: true; the input reads as it did. -/
def fnExactOneShotSpec : ChangeSpec := { name := "fnExactOneShot", fn := fun _ => fun
  | [d1, d2, d3] => { results := [.lit (.bool true)], args := [d1, d2, d3] }
  | _ => none }
def fnExactOneShotRow : OpenClaim := { program := "ytcpfkfaiakpfjaadoor", sum := "6f15ebe72ad415cfd2f9d2990df19010429762345dc7840827791c5ac77ba7de", func := "loop.example/g01153/laws.FnExactOneShot", spec := "fnExactOneShot", inPlace := ["internal/bytealg.IndexByteString", "internal/bytealg.IndexString"], unfollowed := true, recurses := true, named := ["unicode/utf8.first", "unicode/utf8.acceptRanges", "internal/bytealg.MaxLen"], apart := false, laid := [("unicode/utf8.acceptRanges", laid_unicode_utf8_acceptRanges), ("unicode/utf8.first", laid_unicode_utf8_first)] }
def FnExactOneShotSaid : Prop := fnExactOneShotRow.holds Tryd.pinned (OpenSpec.ofChange fnExactOneShotSpec)

/-- ITS FALSE NEIGHBOUR: 'it returns false'. Refute it at one input. -/
def fnExactOneShotWrong : ChangeSpec := { name := "fnExactOneShot", fn := fun _ => fun
  | [d1, d2, d3] => { results := [.lit (.bool false)], args := [d1, d2, d3] }
  | _ => none }
def FnExactOneShotWrongFalsely : Prop := fnExactOneShotRow.holds Tryd.pinned (OpenSpec.ofChange fnExactOneShotWrong)

/-- 'laws.FnExactWindowRange': WHATEVER THE INPUT: true; the input reads as it did. -/
def fnExactWindowRangeSpec : ChangeSpec := { name := "fnExactWindowRange", fn := fun _ => fun
  | [d1, d2] => { results := [.lit (.bool true)], args := [d1, d2] }
  | _ => none }
def fnExactWindowRangeRow : OpenClaim := { program := "ytcpfkfaiakpfjaadoor", sum := "6f15ebe72ad415cfd2f9d2990df19010429762345dc7840827791c5ac77ba7de", func := "loop.example/g01153/laws.FnExactWindowRange", spec := "fnExactWindowRange", inPlace := ["internal/bytealg.IndexByteString", "internal/bytealg.IndexString"], named := ["unicode/utf8.first", "unicode/utf8.acceptRanges", "internal/bytealg.MaxLen"], apart := false, laid := [("unicode/utf8.acceptRanges", laid_unicode_utf8_acceptRanges), ("unicode/utf8.first", laid_unicode_utf8_first)] }
def FnExactWindowRangeSaid : Prop := fnExactWindowRangeRow.holds Tryd.pinned (OpenSpec.ofChange fnExactWindowRangeSpec)

/-- ITS FALSE NEIGHBOUR: 'it returns false'. Refute it at one input. -/
def fnExactWindowRangeWrong : ChangeSpec := { name := "fnExactWindowRange", fn := fun _ => fun
  | [d1, d2] => { results := [.lit (.bool false)], args := [d1, d2] }
  | _ => none }
def FnExactWindowRangeWrongFalsely : Prop := fnExactWindowRangeRow.holds Tryd.pinned (OpenSpec.ofChange fnExactWindowRangeWrong)

/-- 'laws.FnExactTimeouts': WHATEVER THE INPUT: true; the input reads as it did. -/
def fnExactTimeoutsSpec : ChangeSpec := { name := "fnExactTimeouts", fn := fun _ => fun
  | [d1, d2] => { results := [.lit (.bool true)], args := [d1, d2] }
  | _ => none }
def fnExactTimeoutsRow : OpenClaim := { program := "ytcpfkfaiakpfjaadoor", sum := "6f15ebe72ad415cfd2f9d2990df19010429762345dc7840827791c5ac77ba7de", func := "loop.example/g01153/laws.FnExactTimeouts", spec := "fnExactTimeouts", inPlace := ["internal/bytealg.IndexByteString", "internal/bytealg.IndexString"], named := ["unicode/utf8.first", "unicode/utf8.acceptRanges", "internal/bytealg.MaxLen"], apart := false, laid := [("unicode/utf8.acceptRanges", laid_unicode_utf8_acceptRanges), ("unicode/utf8.first", laid_unicode_utf8_first)] }
def FnExactTimeoutsSaid : Prop := fnExactTimeoutsRow.holds Tryd.pinned (OpenSpec.ofChange fnExactTimeoutsSpec)

/-- ITS FALSE NEIGHBOUR: 'it returns false'. Refute it at one input. -/
def fnExactTimeoutsWrong : ChangeSpec := { name := "fnExactTimeouts", fn := fun _ => fun
  | [d1, d2] => { results := [.lit (.bool false)], args := [d1, d2] }
  | _ => none }
def FnExactTimeoutsWrongFalsely : Prop := fnExactTimeoutsRow.holds Tryd.pinned (OpenSpec.ofChange fnExactTimeoutsWrong)

/-- 'laws.FnExactCountWindows': WHATEVER THE INPUT: true; the input reads as it did. -/
def fnExactCountWindowsSpec : ChangeSpec := { name := "fnExactCountWindows", fn := fun _ => fun
  | [d1, d2] => { results := [.lit (.bool true)], args := [d1, d2] }
  | _ => none }
def fnExactCountWindowsRow : OpenClaim := { program := "ytcpfkfaiakpfjaadoor", sum := "6f15ebe72ad415cfd2f9d2990df19010429762345dc7840827791c5ac77ba7de", func := "loop.example/g01153/laws.FnExactCountWindows", spec := "fnExactCountWindows", inPlace := ["internal/bytealg.IndexByteString", "internal/bytealg.IndexString"], named := ["unicode/utf8.first", "unicode/utf8.acceptRanges", "internal/bytealg.MaxLen"], apart := false, laid := [("unicode/utf8.acceptRanges", laid_unicode_utf8_acceptRanges), ("unicode/utf8.first", laid_unicode_utf8_first)] }
def FnExactCountWindowsSaid : Prop := fnExactCountWindowsRow.holds Tryd.pinned (OpenSpec.ofChange fnExactCountWindowsSpec)

/-- ITS FALSE NEIGHBOUR: 'it returns false'. Refute it at one input. -/
def fnExactCountWindowsWrong : ChangeSpec := { name := "fnExactCountWindows", fn := fun _ => fun
  | [d1, d2] => { results := [.lit (.bool false)], args := [d1, d2] }
  | _ => none }
def FnExactCountWindowsWrongFalsely : Prop := fnExactCountWindowsRow.holds Tryd.pinned (OpenSpec.ofChange fnExactCountWindowsWrong)

/-- 'laws.FnExactShortPulses': WHATEVER THE INPUT: true; the input reads as it did. -/
def fnExactShortPulsesSpec : ChangeSpec := { name := "fnExactShortPulses", fn := fun _ => fun
  | [d1, d2] => { results := [.lit (.bool true)], args := [d1, d2] }
  | _ => none }
def fnExactShortPulsesRow : OpenClaim := { program := "ytcpfkfaiakpfjaadoor", sum := "6f15ebe72ad415cfd2f9d2990df19010429762345dc7840827791c5ac77ba7de", func := "loop.example/g01153/laws.FnExactShortPulses", spec := "fnExactShortPulses", inPlace := ["internal/bytealg.IndexByteString", "internal/bytealg.IndexString"], named := ["unicode/utf8.first", "unicode/utf8.acceptRanges", "internal/bytealg.MaxLen"], apart := false, laid := [("unicode/utf8.acceptRanges", laid_unicode_utf8_acceptRanges), ("unicode/utf8.first", laid_unicode_utf8_first)] }
def FnExactShortPulsesSaid : Prop := fnExactShortPulsesRow.holds Tryd.pinned (OpenSpec.ofChange fnExactShortPulsesSpec)

/-- ITS FALSE NEIGHBOUR: 'it returns false'. Refute it at one input. -/
def fnExactShortPulsesWrong : ChangeSpec := { name := "fnExactShortPulses", fn := fun _ => fun
  | [d1, d2] => { results := [.lit (.bool false)], args := [d1, d2] }
  | _ => none }
def FnExactShortPulsesWrongFalsely : Prop := fnExactShortPulsesRow.holds Tryd.pinned (OpenSpec.ofChange fnExactShortPulsesWrong)

/-- 'laws.FnShots': WHATEVER THE INPUT: true; the input reads as it did. -/
def fnShotsSpec : ChangeSpec := { name := "fnShots", fn := fun _ => fun
  | [d1, d2] => { results := [.lit (.bool true)], args := [d1, d2] }
  | _ => none }
def fnShotsRow : OpenClaim := { program := "ytcpfkfaiakpfjaadoor", sum := "6f15ebe72ad415cfd2f9d2990df19010429762345dc7840827791c5ac77ba7de", func := "loop.example/g01153/laws.FnShots", spec := "fnShots", inPlace := ["internal/bytealg.IndexByteString", "internal/bytealg.IndexString"], unfollowed := true, recurses := true, named := ["unicode/utf8.first", "unicode/utf8.acceptRanges", "internal/bytealg.MaxLen"], apart := false, laid := [("unicode/utf8.acceptRanges", laid_unicode_utf8_acceptRanges), ("unicode/utf8.first", laid_unicode_utf8_first)] }
def FnShotsSaid : Prop := fnShotsRow.holds Tryd.pinned (OpenSpec.ofChange fnShotsSpec)

/-- ITS FALSE NEIGHBOUR: 'it returns false'. Refute it at one input. -/
def fnShotsWrong : ChangeSpec := { name := "fnShots", fn := fun _ => fun
  | [d1, d2] => { results := [.lit (.bool false)], args := [d1, d2] }
  | _ => none }
def FnShotsWrongFalsely : Prop := fnShotsRow.holds Tryd.pinned (OpenSpec.ofChange fnShotsWrong)

/-- 'laws.FnExactStretchPulses': WHATEVER THE INPUT: true; the input reads as it did. -/
def fnExactStretchPulsesSpec : ChangeSpec := { name := "fnExactStretchPulses", fn := fun _ => fun
  | [d1, d2] => { results := [.lit (.bool true)], args := [d1, d2] }
  | _ => none }
def fnExactStretchPulsesRow : OpenClaim := { program := "ytcpfkfaiakpfjaadoor", sum := "6f15ebe72ad415cfd2f9d2990df19010429762345dc7840827791c5ac77ba7de", func := "loop.example/g01153/laws.FnExactStretchPulses", spec := "fnExactStretchPulses", inPlace := ["internal/bytealg.IndexByteString", "internal/bytealg.IndexString", "internal/abi.NoEscape", "internal/bytealg.MakeNoZero"], unfollowed := true, recurses := true, named := ["unicode/utf8.first", "unicode/utf8.acceptRanges", "internal/bytealg.MaxLen"], apart := false, laid := [("unicode/utf8.acceptRanges", laid_unicode_utf8_acceptRanges), ("unicode/utf8.first", laid_unicode_utf8_first)] }
def FnExactStretchPulsesSaid : Prop := fnExactStretchPulsesRow.holds Tryd.pinned (OpenSpec.ofChange fnExactStretchPulsesSpec)

/-- ITS FALSE NEIGHBOUR: 'it returns false'. Refute it at one input. -/
def fnExactStretchPulsesWrong : ChangeSpec := { name := "fnExactStretchPulses", fn := fun _ => fun
  | [d1, d2] => { results := [.lit (.bool false)], args := [d1, d2] }
  | _ => none }
def FnExactStretchPulsesWrongFalsely : Prop := fnExactStretchPulsesRow.holds Tryd.pinned (OpenSpec.ofChange fnExactStretchPulsesWrong)

/-- 'laws.FnExactMajorityWave': WHATEVER THE INPUT: true; the input reads as it did. -/
def fnExactMajorityWaveSpec : ChangeSpec := { name := "fnExactMajorityWave", fn := fun _ => fun
  | [d1, d2] => { results := [.lit (.bool true)], args := [d1, d2] }
  | _ => none }
def fnExactMajorityWaveRow : OpenClaim := { program := "ytcpfkfaiakpfjaadoor", sum := "6f15ebe72ad415cfd2f9d2990df19010429762345dc7840827791c5ac77ba7de", func := "loop.example/g01153/laws.FnExactMajorityWave", spec := "fnExactMajorityWave", inPlace := ["internal/bytealg.IndexByteString", "internal/bytealg.IndexString", "internal/abi.NoEscape", "internal/bytealg.MakeNoZero", "internal/bytealg.CountString"], unfollowed := true, recurses := true, named := ["unicode/utf8.first", "unicode/utf8.acceptRanges", "internal/bytealg.MaxLen"], apart := false, laid := [("unicode/utf8.acceptRanges", laid_unicode_utf8_acceptRanges), ("unicode/utf8.first", laid_unicode_utf8_first)] }
def FnExactMajorityWaveSaid : Prop := fnExactMajorityWaveRow.holds Tryd.pinned (OpenSpec.ofChange fnExactMajorityWaveSpec)

/-- ITS FALSE NEIGHBOUR: 'it returns false'. Refute it at one input. -/
def fnExactMajorityWaveWrong : ChangeSpec := { name := "fnExactMajorityWave", fn := fun _ => fun
  | [d1, d2] => { results := [.lit (.bool false)], args := [d1, d2] }
  | _ => none }
def FnExactMajorityWaveWrongFalsely : Prop := fnExactMajorityWaveRow.holds Tryd.pinned (OpenSpec.ofChange fnExactMajorityWaveWrong)

/-- 'laws.FnExactDebounce': WHATEVER THE INPUT: true; the input reads as it did. -/
def fnExactDebounceSpec : ChangeSpec := { name := "fnExactDebounce", fn := fun _ => fun
  | [d1, d2] => { results := [.lit (.bool true)], args := [d1, d2] }
  | _ => none }
def fnExactDebounceRow : OpenClaim := { program := "ytcpfkfaiakpfjaadoor", sum := "6f15ebe72ad415cfd2f9d2990df19010429762345dc7840827791c5ac77ba7de", func := "loop.example/g01153/laws.FnExactDebounce", spec := "fnExactDebounce", inPlace := ["internal/bytealg.IndexByteString", "internal/bytealg.IndexString", "internal/abi.NoEscape", "internal/bytealg.MakeNoZero", "internal/bytealg.CountString"], unfollowed := true, recurses := true, named := ["unicode/utf8.first", "unicode/utf8.acceptRanges", "internal/bytealg.MaxLen"], apart := false, laid := [("unicode/utf8.acceptRanges", laid_unicode_utf8_acceptRanges), ("unicode/utf8.first", laid_unicode_utf8_first)] }
def FnExactDebounceSaid : Prop := fnExactDebounceRow.holds Tryd.pinned (OpenSpec.ofChange fnExactDebounceSpec)

/-- ITS FALSE NEIGHBOUR: 'it returns false'. Refute it at one input. -/
def fnExactDebounceWrong : ChangeSpec := { name := "fnExactDebounce", fn := fun _ => fun
  | [d1, d2] => { results := [.lit (.bool false)], args := [d1, d2] }
  | _ => none }
def FnExactDebounceWrongFalsely : Prop := fnExactDebounceRow.holds Tryd.pinned (OpenSpec.ofChange fnExactDebounceWrong)

/- THE SECOND FORM. 'bulk': how many values and letters a reading holds, each counted each time it is reached (what is shared counts as often as it is met; a slice's spare places count too). A statement '..UptoSaid' is the law's where the arguments, and the package variables that the reading takes, are together of bulk at most 1048576: NARROWER than '..Said'. Prove '..Said' where nothing that the law and all that it calls make is longer than what came in: it says more and counts as full. Else prove '..UptoSaid'. A law counts once. -/
mutual
def uptoBulk {H : Type} : DataW H → Nat
  | .lit (.string bytes) => bytes.length + 1
  | .lit _ => 1
  | .nil => 1
  | .ptr d => uptoBulk d + 1
  | .slice elems spare => uptoBulkAll elems + uptoBulkAll spare + 1
  | .agg parts => uptoBulkAll parts + 1
  | .iface _ d => uptoBulk d + 1
  | .map entries => uptoBulkEntries entries + 1
  | .held _ => 1
def uptoBulkAll {H : Type} : List (DataW H) → Nat
  | [] => 0
  | d :: r => uptoBulk d + uptoBulkAll r
def uptoBulkEntries {H : Type} : List (Lit × DataW H) → Nat
  | [] => 0
  | x :: r => uptoBulkEntry x + uptoBulkEntries r
def uptoBulkEntry {H : Type} : Lit × DataW H → Nat
  | (.string bytes, d) => bytes.length + uptoBulk d + 1
  | (_, d) => uptoBulk d + 1
 end
def uptoSmall : (H : Type) → List (DataW H) → Bool := fun _ ds => decide (uptoBulkAll ds ≤ 1048576)
def OpenSpec.upto (s : _root_.Go.ChangeSpec) : _root_.Go.OpenSpec := { _root_.Go.OpenSpec.ofChange s with cond := some uptoSmall }

/-- 'laws.FnExactFillGaps', WHERE WHAT IT READS IS OF BULK AT MOST 1048576: true; the input reads as it did. -/
def fnExactFillGapsUptoRow : OpenClaim := { program := "ytcpfkfaiakpfjaadoor", sum := "6f15ebe72ad415cfd2f9d2990df19010429762345dc7840827791c5ac77ba7de", func := "loop.example/g01153/laws.FnExactFillGaps", spec := "fnExactFillGaps", inPlace := ["internal/bytealg.IndexByteString", "internal/bytealg.IndexString"], named := ["unicode/utf8.first", "unicode/utf8.acceptRanges", "internal/bytealg.MaxLen"], apart := false, laid := [("unicode/utf8.acceptRanges", laid_unicode_utf8_acceptRanges), ("unicode/utf8.first", laid_unicode_utf8_first)], narrowed := true }
def FnExactFillGapsUptoSaid : Prop := fnExactFillGapsUptoRow.holds Tryd.pinned (OpenSpec.upto fnExactFillGapsSpec)

/-- 'laws.FnExactDropPulses', WHERE WHAT IT READS IS OF BULK AT MOST 1048576: true; the input reads as it did. -/
def fnExactDropPulsesUptoRow : OpenClaim := { program := "ytcpfkfaiakpfjaadoor", sum := "6f15ebe72ad415cfd2f9d2990df19010429762345dc7840827791c5ac77ba7de", func := "loop.example/g01153/laws.FnExactDropPulses", spec := "fnExactDropPulses", inPlace := ["internal/bytealg.IndexByteString", "internal/bytealg.IndexString"], named := ["unicode/utf8.first", "unicode/utf8.acceptRanges", "internal/bytealg.MaxLen"], apart := false, laid := [("unicode/utf8.acceptRanges", laid_unicode_utf8_acceptRanges), ("unicode/utf8.first", laid_unicode_utf8_first)], narrowed := true }
def FnExactDropPulsesUptoSaid : Prop := fnExactDropPulsesUptoRow.holds Tryd.pinned (OpenSpec.upto fnExactDropPulsesSpec)

/-- 'laws.FnExactOneShot', WHERE WHAT IT READS IS OF BULK AT MOST 1048576: true; the input reads as it did. -/
def fnExactOneShotUptoRow : OpenClaim := { program := "ytcpfkfaiakpfjaadoor", sum := "6f15ebe72ad415cfd2f9d2990df19010429762345dc7840827791c5ac77ba7de", func := "loop.example/g01153/laws.FnExactOneShot", spec := "fnExactOneShot", inPlace := ["internal/bytealg.IndexByteString", "internal/bytealg.IndexString"], unfollowed := true, recurses := true, named := ["unicode/utf8.first", "unicode/utf8.acceptRanges", "internal/bytealg.MaxLen"], apart := false, laid := [("unicode/utf8.acceptRanges", laid_unicode_utf8_acceptRanges), ("unicode/utf8.first", laid_unicode_utf8_first)], narrowed := true }
def FnExactOneShotUptoSaid : Prop := fnExactOneShotUptoRow.holds Tryd.pinned (OpenSpec.upto fnExactOneShotSpec)

/-- 'laws.FnExactWindowRange', WHERE WHAT IT READS IS OF BULK AT MOST 1048576: true; the input reads as it did. -/
def fnExactWindowRangeUptoRow : OpenClaim := { program := "ytcpfkfaiakpfjaadoor", sum := "6f15ebe72ad415cfd2f9d2990df19010429762345dc7840827791c5ac77ba7de", func := "loop.example/g01153/laws.FnExactWindowRange", spec := "fnExactWindowRange", inPlace := ["internal/bytealg.IndexByteString", "internal/bytealg.IndexString"], named := ["unicode/utf8.first", "unicode/utf8.acceptRanges", "internal/bytealg.MaxLen"], apart := false, laid := [("unicode/utf8.acceptRanges", laid_unicode_utf8_acceptRanges), ("unicode/utf8.first", laid_unicode_utf8_first)], narrowed := true }
def FnExactWindowRangeUptoSaid : Prop := fnExactWindowRangeUptoRow.holds Tryd.pinned (OpenSpec.upto fnExactWindowRangeSpec)

/-- 'laws.FnExactTimeouts', WHERE WHAT IT READS IS OF BULK AT MOST 1048576: true; the input reads as it did. -/
def fnExactTimeoutsUptoRow : OpenClaim := { program := "ytcpfkfaiakpfjaadoor", sum := "6f15ebe72ad415cfd2f9d2990df19010429762345dc7840827791c5ac77ba7de", func := "loop.example/g01153/laws.FnExactTimeouts", spec := "fnExactTimeouts", inPlace := ["internal/bytealg.IndexByteString", "internal/bytealg.IndexString"], named := ["unicode/utf8.first", "unicode/utf8.acceptRanges", "internal/bytealg.MaxLen"], apart := false, laid := [("unicode/utf8.acceptRanges", laid_unicode_utf8_acceptRanges), ("unicode/utf8.first", laid_unicode_utf8_first)], narrowed := true }
def FnExactTimeoutsUptoSaid : Prop := fnExactTimeoutsUptoRow.holds Tryd.pinned (OpenSpec.upto fnExactTimeoutsSpec)

/-- 'laws.FnExactCountWindows', WHERE WHAT IT READS IS OF BULK AT MOST 1048576: true; the input reads as it did. -/
def fnExactCountWindowsUptoRow : OpenClaim := { program := "ytcpfkfaiakpfjaadoor", sum := "6f15ebe72ad415cfd2f9d2990df19010429762345dc7840827791c5ac77ba7de", func := "loop.example/g01153/laws.FnExactCountWindows", spec := "fnExactCountWindows", inPlace := ["internal/bytealg.IndexByteString", "internal/bytealg.IndexString"], named := ["unicode/utf8.first", "unicode/utf8.acceptRanges", "internal/bytealg.MaxLen"], apart := false, laid := [("unicode/utf8.acceptRanges", laid_unicode_utf8_acceptRanges), ("unicode/utf8.first", laid_unicode_utf8_first)], narrowed := true }
def FnExactCountWindowsUptoSaid : Prop := fnExactCountWindowsUptoRow.holds Tryd.pinned (OpenSpec.upto fnExactCountWindowsSpec)

/-- 'laws.FnExactShortPulses', WHERE WHAT IT READS IS OF BULK AT MOST 1048576: true; the input reads as it did. -/
def fnExactShortPulsesUptoRow : OpenClaim := { program := "ytcpfkfaiakpfjaadoor", sum := "6f15ebe72ad415cfd2f9d2990df19010429762345dc7840827791c5ac77ba7de", func := "loop.example/g01153/laws.FnExactShortPulses", spec := "fnExactShortPulses", inPlace := ["internal/bytealg.IndexByteString", "internal/bytealg.IndexString"], named := ["unicode/utf8.first", "unicode/utf8.acceptRanges", "internal/bytealg.MaxLen"], apart := false, laid := [("unicode/utf8.acceptRanges", laid_unicode_utf8_acceptRanges), ("unicode/utf8.first", laid_unicode_utf8_first)], narrowed := true }
def FnExactShortPulsesUptoSaid : Prop := fnExactShortPulsesUptoRow.holds Tryd.pinned (OpenSpec.upto fnExactShortPulsesSpec)

/-- 'laws.FnShots', WHERE WHAT IT READS IS OF BULK AT MOST 1048576: true; the input reads as it did. -/
def fnShotsUptoRow : OpenClaim := { program := "ytcpfkfaiakpfjaadoor", sum := "6f15ebe72ad415cfd2f9d2990df19010429762345dc7840827791c5ac77ba7de", func := "loop.example/g01153/laws.FnShots", spec := "fnShots", inPlace := ["internal/bytealg.IndexByteString", "internal/bytealg.IndexString"], unfollowed := true, recurses := true, named := ["unicode/utf8.first", "unicode/utf8.acceptRanges", "internal/bytealg.MaxLen"], apart := false, laid := [("unicode/utf8.acceptRanges", laid_unicode_utf8_acceptRanges), ("unicode/utf8.first", laid_unicode_utf8_first)], narrowed := true }
def FnShotsUptoSaid : Prop := fnShotsUptoRow.holds Tryd.pinned (OpenSpec.upto fnShotsSpec)

/-- 'laws.FnExactStretchPulses', WHERE WHAT IT READS IS OF BULK AT MOST 1048576: true; the input reads as it did. -/
def fnExactStretchPulsesUptoRow : OpenClaim := { program := "ytcpfkfaiakpfjaadoor", sum := "6f15ebe72ad415cfd2f9d2990df19010429762345dc7840827791c5ac77ba7de", func := "loop.example/g01153/laws.FnExactStretchPulses", spec := "fnExactStretchPulses", inPlace := ["internal/bytealg.IndexByteString", "internal/bytealg.IndexString", "internal/abi.NoEscape", "internal/bytealg.MakeNoZero"], unfollowed := true, recurses := true, named := ["unicode/utf8.first", "unicode/utf8.acceptRanges", "internal/bytealg.MaxLen"], apart := false, laid := [("unicode/utf8.acceptRanges", laid_unicode_utf8_acceptRanges), ("unicode/utf8.first", laid_unicode_utf8_first)], narrowed := true }
def FnExactStretchPulsesUptoSaid : Prop := fnExactStretchPulsesUptoRow.holds Tryd.pinned (OpenSpec.upto fnExactStretchPulsesSpec)

/-- 'laws.FnExactMajorityWave', WHERE WHAT IT READS IS OF BULK AT MOST 1048576: true; the input reads as it did. -/
def fnExactMajorityWaveUptoRow : OpenClaim := { program := "ytcpfkfaiakpfjaadoor", sum := "6f15ebe72ad415cfd2f9d2990df19010429762345dc7840827791c5ac77ba7de", func := "loop.example/g01153/laws.FnExactMajorityWave", spec := "fnExactMajorityWave", inPlace := ["internal/bytealg.IndexByteString", "internal/bytealg.IndexString", "internal/abi.NoEscape", "internal/bytealg.MakeNoZero", "internal/bytealg.CountString"], unfollowed := true, recurses := true, named := ["unicode/utf8.first", "unicode/utf8.acceptRanges", "internal/bytealg.MaxLen"], apart := false, laid := [("unicode/utf8.acceptRanges", laid_unicode_utf8_acceptRanges), ("unicode/utf8.first", laid_unicode_utf8_first)], narrowed := true }
def FnExactMajorityWaveUptoSaid : Prop := fnExactMajorityWaveUptoRow.holds Tryd.pinned (OpenSpec.upto fnExactMajorityWaveSpec)

/-- 'laws.FnExactDebounce', WHERE WHAT IT READS IS OF BULK AT MOST 1048576: true; the input reads as it did. -/
def fnExactDebounceUptoRow : OpenClaim := { program := "ytcpfkfaiakpfjaadoor", sum := "6f15ebe72ad415cfd2f9d2990df19010429762345dc7840827791c5ac77ba7de", func := "loop.example/g01153/laws.FnExactDebounce", spec := "fnExactDebounce", inPlace := ["internal/bytealg.IndexByteString", "internal/bytealg.IndexString", "internal/abi.NoEscape", "internal/bytealg.MakeNoZero", "internal/bytealg.CountString"], unfollowed := true, recurses := true, named := ["unicode/utf8.first", "unicode/utf8.acceptRanges", "internal/bytealg.MaxLen"], apart := false, laid := [("unicode/utf8.acceptRanges", laid_unicode_utf8_acceptRanges), ("unicode/utf8.first", laid_unicode_utf8_first)], narrowed := true }
def FnExactDebounceUptoSaid : Prop := fnExactDebounceUptoRow.holds Tryd.pinned (OpenSpec.upto fnExactDebounceSpec)

end Rows
end Go.Proofs.YtcpfkfaiakpfjaaDoor
