/-
  No cell of these rows narrows 'for every input' (looked for: loops, veiled, ifaces, maps, wideKeys, modest, calm, conditions, laid).
  DERIVED. THE GIVEN ROWS OF THIS SEAT. 11 by the template 'for every input the law returns true; each argument reads behind the call as it read before'; 0 by the template 'total and deterministic' (their statements: YtojpibpjieanhaaTotals.lean).
  GIVEN WITH THE SEED: the statements are not yours to turn. If you find one false, say at which input.
  Laid BY PROGRAM, IN A SANDBOX (cutbox-rows.mjs): the forced cells as the released guide's own fill.sh prints them over the translation 150db86bc996a7b1… (all of the seat's roots in one cut). By AI agents, Wed Nov 11 2026. No macro, syntax, notation, axiom, sorry.
-/
import Derived.Test.YtojpibpjieanhaaChecked
import GoSem.Claim
import GoSem.ClaimJoined
import GoSem.ClaimMapViews
import Derived.JoinedTies
import Derived.KernelRfl
namespace Go.Proofs.Ytojpibpjieanhaa
/- THE CELL 'sum', in the pinned program and in every row, IS THE sha256 OF THE DUMP (.gsa) THAT YtojpibpjieanhaaProg.lean LOADS. Nothing in Lean hashes anything: it is a label: what it is worth is what the hold of that sum in a sandbox is worth. -/
noncomputable def Try.pinned : Pinned := { name := "ytojpibpjieanhaa", sum := "150db86bc996a7b13cb72666e5097991c94fca19b46324294170afc02bbfcffe", checked := Try.checked }
namespace Rows
def none {H : Type} : Left H := { results := [], args := [] }

/-- 'laws.FnExactShiftMoves': WHATEVER THE INPUT: true; the input reads as it did. -/
def fnExactShiftMovesSpec : ChangeSpec := { name := "fnExactShiftMoves", fn := fun _ => fun
  | [d1, d2] => { results := [.lit (.bool true)], args := [d1, d2] }
  | _ => none }
def fnExactShiftMovesRow : OpenClaim := { program := "ytojpibpjieanhaa", sum := "150db86bc996a7b13cb72666e5097991c94fca19b46324294170afc02bbfcffe", func := "loop.example/g01153/laws.FnExactShiftMoves", spec := "fnExactShiftMoves", unfollowed := true, recurses := true, apart := false }
def FnExactShiftMovesSaid : Prop := fnExactShiftMovesRow.holds Try.pinned (OpenSpec.ofChange fnExactShiftMovesSpec)

/-- ITS FALSE NEIGHBOUR: 'it returns false'. Refute it at one input. -/
def fnExactShiftMovesWrong : ChangeSpec := { name := "fnExactShiftMoves", fn := fun _ => fun
  | [d1, d2] => { results := [.lit (.bool false)], args := [d1, d2] }
  | _ => none }
def FnExactShiftMovesWrongFalsely : Prop := fnExactShiftMovesRow.holds Try.pinned (OpenSpec.ofChange fnExactShiftMovesWrong)

/-- 'laws.FnExactValidFlow': WHATEVER THE INPUT: true; the input reads as it did. -/
def fnExactValidFlowSpec : ChangeSpec := { name := "fnExactValidFlow", fn := fun _ => fun
  | [d] => { results := [.lit (.bool true)], args := [d] }
  | _ => none }
def fnExactValidFlowRow : OpenClaim := { program := "ytojpibpjieanhaa", sum := "150db86bc996a7b13cb72666e5097991c94fca19b46324294170afc02bbfcffe", func := "loop.example/g01153/laws.FnExactValidFlow", spec := "fnExactValidFlow", unfollowed := true, recurses := true, apart := false }
def FnExactValidFlowSaid : Prop := fnExactValidFlowRow.holds Try.pinned (OpenSpec.ofChange fnExactValidFlowSpec)

/-- ITS FALSE NEIGHBOUR: 'it returns false'. Refute it at one input. -/
def fnExactValidFlowWrong : ChangeSpec := { name := "fnExactValidFlow", fn := fun _ => fun
  | [d] => { results := [.lit (.bool false)], args := [d] }
  | _ => none }
def FnExactValidFlowWrongFalsely : Prop := fnExactValidFlowRow.holds Try.pinned (OpenSpec.ofChange fnExactValidFlowWrong)

/-- 'laws.FnExactRegistersOf': WHATEVER THE INPUT: true; the input reads as it did. -/
def fnExactRegistersOfSpec : ChangeSpec := { name := "fnExactRegistersOf", fn := fun _ => fun
  | [d] => { results := [.lit (.bool true)], args := [d] }
  | _ => none }
def fnExactRegistersOfRow : OpenClaim := { program := "ytojpibpjieanhaa", sum := "150db86bc996a7b13cb72666e5097991c94fca19b46324294170afc02bbfcffe", func := "loop.example/g01153/laws.FnExactRegistersOf", spec := "fnExactRegistersOf", unfollowed := true, recurses := true, apart := false }
def FnExactRegistersOfSaid : Prop := fnExactRegistersOfRow.holds Try.pinned (OpenSpec.ofChange fnExactRegistersOfSpec)

/-- ITS FALSE NEIGHBOUR: 'it returns false'. Refute it at one input. -/
def fnExactRegistersOfWrong : ChangeSpec := { name := "fnExactRegistersOf", fn := fun _ => fun
  | [d] => { results := [.lit (.bool false)], args := [d] }
  | _ => none }
def FnExactRegistersOfWrongFalsely : Prop := fnExactRegistersOfRow.holds Try.pinned (OpenSpec.ofChange fnExactRegistersOfWrong)

/-- 'laws.FnExactIsMove': WHATEVER THE INPUT: true; the input reads as it did. -/
def fnExactIsMoveSpec : ChangeSpec := { name := "fnExactIsMove", fn := fun _ => fun
  | [d1, d2] => { results := [.lit (.bool true)], args := [d1, d2] }
  | _ => none }
def fnExactIsMoveRow : OpenClaim := { program := "ytojpibpjieanhaa", sum := "150db86bc996a7b13cb72666e5097991c94fca19b46324294170afc02bbfcffe", func := "loop.example/g01153/laws.FnExactIsMove", spec := "fnExactIsMove", unfollowed := true, recurses := true, apart := false }
def FnExactIsMoveSaid : Prop := fnExactIsMoveRow.holds Try.pinned (OpenSpec.ofChange fnExactIsMoveSpec)

/-- ITS FALSE NEIGHBOUR: 'it returns false'. Refute it at one input. -/
def fnExactIsMoveWrong : ChangeSpec := { name := "fnExactIsMove", fn := fun _ => fun
  | [d1, d2] => { results := [.lit (.bool false)], args := [d1, d2] }
  | _ => none }
def FnExactIsMoveWrongFalsely : Prop := fnExactIsMoveRow.holds Try.pinned (OpenSpec.ofChange fnExactIsMoveWrong)

/-- 'laws.FnExactFlowPeriod': WHATEVER THE INPUT: true; the input reads as it did. -/
def fnExactFlowPeriodSpec : ChangeSpec := { name := "fnExactFlowPeriod", fn := fun _ => fun
  | [d] => { results := [.lit (.bool true)], args := [d] }
  | _ => none }
def fnExactFlowPeriodRow : OpenClaim := { program := "ytojpibpjieanhaa", sum := "150db86bc996a7b13cb72666e5097991c94fca19b46324294170afc02bbfcffe", func := "loop.example/g01153/laws.FnExactFlowPeriod", spec := "fnExactFlowPeriod", unfollowed := true, recurses := true, apart := false }
def FnExactFlowPeriodSaid : Prop := fnExactFlowPeriodRow.holds Try.pinned (OpenSpec.ofChange fnExactFlowPeriodSpec)

/-- ITS FALSE NEIGHBOUR: 'it returns false'. Refute it at one input. -/
def fnExactFlowPeriodWrong : ChangeSpec := { name := "fnExactFlowPeriod", fn := fun _ => fun
  | [d] => { results := [.lit (.bool false)], args := [d] }
  | _ => none }
def FnExactFlowPeriodWrongFalsely : Prop := fnExactFlowPeriodRow.holds Try.pinned (OpenSpec.ofChange fnExactFlowPeriodWrong)

/-- 'laws.FnExactFewestBetween': WHATEVER THE INPUT: true; the input reads as it did. -/
def fnExactFewestBetweenSpec : ChangeSpec := { name := "fnExactFewestBetween", fn := fun _ => fun
  | [d1, d2, d3] => { results := [.lit (.bool true)], args := [d1, d2, d3] }
  | _ => none }
def fnExactFewestBetweenRow : OpenClaim := { program := "ytojpibpjieanhaa", sum := "150db86bc996a7b13cb72666e5097991c94fca19b46324294170afc02bbfcffe", func := "loop.example/g01153/laws.FnExactFewestBetween", spec := "fnExactFewestBetween", unfollowed := true, recurses := true, apart := false }
def FnExactFewestBetweenSaid : Prop := fnExactFewestBetweenRow.holds Try.pinned (OpenSpec.ofChange fnExactFewestBetweenSpec)

/-- ITS FALSE NEIGHBOUR: 'it returns false'. Refute it at one input. -/
def fnExactFewestBetweenWrong : ChangeSpec := { name := "fnExactFewestBetween", fn := fun _ => fun
  | [d1, d2, d3] => { results := [.lit (.bool false)], args := [d1, d2, d3] }
  | _ => none }
def FnExactFewestBetweenWrongFalsely : Prop := fnExactFewestBetweenRow.holds Try.pinned (OpenSpec.ofChange fnExactFewestBetweenWrong)

/-- 'laws.FnExactMoveFlow': WHATEVER THE INPUT: true; the input reads as it did. -/
def fnExactMoveFlowSpec : ChangeSpec := { name := "fnExactMoveFlow", fn := fun _ => fun
  | [d1, d2] => { results := [.lit (.bool true)], args := [d1, d2] }
  | _ => none }
def fnExactMoveFlowRow : OpenClaim := { program := "ytojpibpjieanhaa", sum := "150db86bc996a7b13cb72666e5097991c94fca19b46324294170afc02bbfcffe", func := "loop.example/g01153/laws.FnExactMoveFlow", spec := "fnExactMoveFlow", unfollowed := true, recurses := true, apart := false }
def FnExactMoveFlowSaid : Prop := fnExactMoveFlowRow.holds Try.pinned (OpenSpec.ofChange fnExactMoveFlowSpec)

/-- ITS FALSE NEIGHBOUR: 'it returns false'. Refute it at one input. -/
def fnExactMoveFlowWrong : ChangeSpec := { name := "fnExactMoveFlow", fn := fun _ => fun
  | [d1, d2] => { results := [.lit (.bool false)], args := [d1, d2] }
  | _ => none }
def FnExactMoveFlowWrongFalsely : Prop := fnExactMoveFlowRow.holds Try.pinned (OpenSpec.ofChange fnExactMoveFlowWrong)

/-- 'laws.FnExactSlowestPath': WHATEVER THE INPUT: true; the input reads as it did. -/
def fnExactSlowestPathSpec : ChangeSpec := { name := "fnExactSlowestPath", fn := fun _ => fun
  | [d] => { results := [.lit (.bool true)], args := [d] }
  | _ => none }
def fnExactSlowestPathRow : OpenClaim := { program := "ytojpibpjieanhaa", sum := "150db86bc996a7b13cb72666e5097991c94fca19b46324294170afc02bbfcffe", func := "loop.example/g01153/laws.FnExactSlowestPath", spec := "fnExactSlowestPath", unfollowed := true, recurses := true, apart := false }
def FnExactSlowestPathSaid : Prop := fnExactSlowestPathRow.holds Try.pinned (OpenSpec.ofChange fnExactSlowestPathSpec)

/-- ITS FALSE NEIGHBOUR: 'it returns false'. Refute it at one input. -/
def fnExactSlowestPathWrong : ChangeSpec := { name := "fnExactSlowestPath", fn := fun _ => fun
  | [d] => { results := [.lit (.bool false)], args := [d] }
  | _ => none }
def FnExactSlowestPathWrongFalsely : Prop := fnExactSlowestPathRow.holds Try.pinned (OpenSpec.ofChange fnExactSlowestPathWrong)

/-- 'laws.FnSlowest': WHATEVER THE INPUT: true; the input reads as it did. -/
def fnSlowestSpec : ChangeSpec := { name := "fnSlowest", fn := fun _ => fun
  | [d1, d2] => { results := [.lit (.bool true)], args := [d1, d2] }
  | _ => none }
def fnSlowestRow : OpenClaim := { program := "ytojpibpjieanhaa", sum := "150db86bc996a7b13cb72666e5097991c94fca19b46324294170afc02bbfcffe", func := "loop.example/g01153/laws.FnSlowest", spec := "fnSlowest", unfollowed := true, recurses := true, apart := false }
def FnSlowestSaid : Prop := fnSlowestRow.holds Try.pinned (OpenSpec.ofChange fnSlowestSpec)

/-- ITS FALSE NEIGHBOUR: 'it returns false'. Refute it at one input. -/
def fnSlowestWrong : ChangeSpec := { name := "fnSlowest", fn := fun _ => fun
  | [d1, d2] => { results := [.lit (.bool false)], args := [d1, d2] }
  | _ => none }
def FnSlowestWrongFalsely : Prop := fnSlowestRow.holds Try.pinned (OpenSpec.ofChange fnSlowestWrong)

/-- 'laws.FnExactMovesFor': WHATEVER THE INPUT: true; the input reads as it did. -/
def fnExactMovesForSpec : ChangeSpec := { name := "fnExactMovesFor", fn := fun _ => fun
  | [d1, d2] => { results := [.lit (.bool true)], args := [d1, d2] }
  | _ => none }
def fnExactMovesForRow : OpenClaim := { program := "ytojpibpjieanhaa", sum := "150db86bc996a7b13cb72666e5097991c94fca19b46324294170afc02bbfcffe", func := "loop.example/g01153/laws.FnExactMovesFor", spec := "fnExactMovesFor", unfollowed := true, recurses := true, apart := false }
def FnExactMovesForSaid : Prop := fnExactMovesForRow.holds Try.pinned (OpenSpec.ofChange fnExactMovesForSpec)

/-- ITS FALSE NEIGHBOUR: 'it returns false'. Refute it at one input. -/
def fnExactMovesForWrong : ChangeSpec := { name := "fnExactMovesFor", fn := fun _ => fun
  | [d1, d2] => { results := [.lit (.bool false)], args := [d1, d2] }
  | _ => none }
def FnExactMovesForWrongFalsely : Prop := fnExactMovesForRow.holds Try.pinned (OpenSpec.ofChange fnExactMovesForWrong)

/-- 'laws.FnExactLeastMovedPeriod': WHATEVER THE INPUT: true; the input reads as it did. -/
def fnExactLeastMovedPeriodSpec : ChangeSpec := { name := "fnExactLeastMovedPeriod", fn := fun _ => fun
  | [d] => { results := [.lit (.bool true)], args := [d] }
  | _ => none }
def fnExactLeastMovedPeriodRow : OpenClaim := { program := "ytojpibpjieanhaa", sum := "150db86bc996a7b13cb72666e5097991c94fca19b46324294170afc02bbfcffe", func := "loop.example/g01153/laws.FnExactLeastMovedPeriod", spec := "fnExactLeastMovedPeriod", unfollowed := true, recurses := true, apart := false }
def FnExactLeastMovedPeriodSaid : Prop := fnExactLeastMovedPeriodRow.holds Try.pinned (OpenSpec.ofChange fnExactLeastMovedPeriodSpec)

/-- ITS FALSE NEIGHBOUR: 'it returns false'. Refute it at one input. -/
def fnExactLeastMovedPeriodWrong : ChangeSpec := { name := "fnExactLeastMovedPeriod", fn := fun _ => fun
  | [d] => { results := [.lit (.bool false)], args := [d] }
  | _ => none }
def FnExactLeastMovedPeriodWrongFalsely : Prop := fnExactLeastMovedPeriodRow.holds Try.pinned (OpenSpec.ofChange fnExactLeastMovedPeriodWrong)

/- THE SECOND FORM. 'bulk': how many values and letters a reading holds, each counted each time it is reached (what is shared counts as often as it is met; a slice's spare places count too). A statement '..UptoSaid' is the law's where the arguments, and the package variables that the reading takes, are together of bulk at most 1048576: NARROWER than '..Said'. Prove '..Said' where nothing that the law and all that it calls make is longer than what came in: it says more and counts as full. Else prove '..UptoSaid'. A law counts once. -/
mutual
def uptoBulk {H : Type} : DataW H → Nat
  | .lit (.string bytes) => bytes.length + 1
  | .lit _ => 1
  | .nil => 1
  | .ptr d => uptoBulk d + 1
  | .slice elems spare => uptoBulkAll elems + uptoBulkAll spare + 1
  | .agg parts => uptoBulkAll parts + 1
  | .iface _ d => uptoBulk d + 1
  | .map entries => uptoBulkEntries entries + 1
  | .held _ => 1
def uptoBulkAll {H : Type} : List (DataW H) → Nat
  | [] => 0
  | d :: r => uptoBulk d + uptoBulkAll r
def uptoBulkEntries {H : Type} : List (Lit × DataW H) → Nat
  | [] => 0
  | x :: r => uptoBulkEntry x + uptoBulkEntries r
def uptoBulkEntry {H : Type} : Lit × DataW H → Nat
  | (.string bytes, d) => bytes.length + uptoBulk d + 1
  | (_, d) => uptoBulk d + 1
 end
def uptoSmall : (H : Type) → List (DataW H) → Bool := fun _ ds => decide (uptoBulkAll ds ≤ 1048576)
def OpenSpec.upto (s : _root_.Go.ChangeSpec) : _root_.Go.OpenSpec := { _root_.Go.OpenSpec.ofChange s with cond := some uptoSmall }

/-- 'laws.FnExactShiftMoves', WHERE WHAT IT READS IS OF BULK AT MOST 1048576: true; the input reads as it did. -/
def fnExactShiftMovesUptoRow : OpenClaim := { program := "ytojpibpjieanhaa", sum := "150db86bc996a7b13cb72666e5097991c94fca19b46324294170afc02bbfcffe", func := "loop.example/g01153/laws.FnExactShiftMoves", spec := "fnExactShiftMoves", unfollowed := true, recurses := true, apart := false, narrowed := true }
def FnExactShiftMovesUptoSaid : Prop := fnExactShiftMovesUptoRow.holds Try.pinned (OpenSpec.upto fnExactShiftMovesSpec)

/-- 'laws.FnExactValidFlow', WHERE WHAT IT READS IS OF BULK AT MOST 1048576: true; the input reads as it did. -/
def fnExactValidFlowUptoRow : OpenClaim := { program := "ytojpibpjieanhaa", sum := "150db86bc996a7b13cb72666e5097991c94fca19b46324294170afc02bbfcffe", func := "loop.example/g01153/laws.FnExactValidFlow", spec := "fnExactValidFlow", unfollowed := true, recurses := true, apart := false, narrowed := true }
def FnExactValidFlowUptoSaid : Prop := fnExactValidFlowUptoRow.holds Try.pinned (OpenSpec.upto fnExactValidFlowSpec)

/-- 'laws.FnExactRegistersOf', WHERE WHAT IT READS IS OF BULK AT MOST 1048576: true; the input reads as it did. -/
def fnExactRegistersOfUptoRow : OpenClaim := { program := "ytojpibpjieanhaa", sum := "150db86bc996a7b13cb72666e5097991c94fca19b46324294170afc02bbfcffe", func := "loop.example/g01153/laws.FnExactRegistersOf", spec := "fnExactRegistersOf", unfollowed := true, recurses := true, apart := false, narrowed := true }
def FnExactRegistersOfUptoSaid : Prop := fnExactRegistersOfUptoRow.holds Try.pinned (OpenSpec.upto fnExactRegistersOfSpec)

/-- 'laws.FnExactIsMove', WHERE WHAT IT READS IS OF BULK AT MOST 1048576: true; the input reads as it did. -/
def fnExactIsMoveUptoRow : OpenClaim := { program := "ytojpibpjieanhaa", sum := "150db86bc996a7b13cb72666e5097991c94fca19b46324294170afc02bbfcffe", func := "loop.example/g01153/laws.FnExactIsMove", spec := "fnExactIsMove", unfollowed := true, recurses := true, apart := false, narrowed := true }
def FnExactIsMoveUptoSaid : Prop := fnExactIsMoveUptoRow.holds Try.pinned (OpenSpec.upto fnExactIsMoveSpec)

/-- 'laws.FnExactFlowPeriod', WHERE WHAT IT READS IS OF BULK AT MOST 1048576: true; the input reads as it did. -/
def fnExactFlowPeriodUptoRow : OpenClaim := { program := "ytojpibpjieanhaa", sum := "150db86bc996a7b13cb72666e5097991c94fca19b46324294170afc02bbfcffe", func := "loop.example/g01153/laws.FnExactFlowPeriod", spec := "fnExactFlowPeriod", unfollowed := true, recurses := true, apart := false, narrowed := true }
def FnExactFlowPeriodUptoSaid : Prop := fnExactFlowPeriodUptoRow.holds Try.pinned (OpenSpec.upto fnExactFlowPeriodSpec)

/-- 'laws.FnExactFewestBetween', WHERE WHAT IT READS IS OF BULK AT MOST 1048576: true; the input reads as it did. -/
def fnExactFewestBetweenUptoRow : OpenClaim := { program := "ytojpibpjieanhaa", sum := "150db86bc996a7b13cb72666e5097991c94fca19b46324294170afc02bbfcffe", func := "loop.example/g01153/laws.FnExactFewestBetween", spec := "fnExactFewestBetween", unfollowed := true, recurses := true, apart := false, narrowed := true }
def FnExactFewestBetweenUptoSaid : Prop := fnExactFewestBetweenUptoRow.holds Try.pinned (OpenSpec.upto fnExactFewestBetweenSpec)

/-- 'laws.FnExactMoveFlow', WHERE WHAT IT READS IS OF BULK AT MOST 1048576: true; the input reads as it did. -/
def fnExactMoveFlowUptoRow : OpenClaim := { program := "ytojpibpjieanhaa", sum := "150db86bc996a7b13cb72666e5097991c94fca19b46324294170afc02bbfcffe", func := "loop.example/g01153/laws.FnExactMoveFlow", spec := "fnExactMoveFlow", unfollowed := true, recurses := true, apart := false, narrowed := true }
def FnExactMoveFlowUptoSaid : Prop := fnExactMoveFlowUptoRow.holds Try.pinned (OpenSpec.upto fnExactMoveFlowSpec)

/-- 'laws.FnExactSlowestPath', WHERE WHAT IT READS IS OF BULK AT MOST 1048576: true; the input reads as it did. -/
def fnExactSlowestPathUptoRow : OpenClaim := { program := "ytojpibpjieanhaa", sum := "150db86bc996a7b13cb72666e5097991c94fca19b46324294170afc02bbfcffe", func := "loop.example/g01153/laws.FnExactSlowestPath", spec := "fnExactSlowestPath", unfollowed := true, recurses := true, apart := false, narrowed := true }
def FnExactSlowestPathUptoSaid : Prop := fnExactSlowestPathUptoRow.holds Try.pinned (OpenSpec.upto fnExactSlowestPathSpec)

/-- 'laws.FnSlowest', WHERE WHAT IT READS IS OF BULK AT MOST 1048576: true; the input reads as it did. -/
def fnSlowestUptoRow : OpenClaim := { program := "ytojpibpjieanhaa", sum := "150db86bc996a7b13cb72666e5097991c94fca19b46324294170afc02bbfcffe", func := "loop.example/g01153/laws.FnSlowest", spec := "fnSlowest", unfollowed := true, recurses := true, apart := false, narrowed := true }
def FnSlowestUptoSaid : Prop := fnSlowestUptoRow.holds Try.pinned (OpenSpec.upto fnSlowestSpec)

/-- 'laws.FnExactMovesFor', WHERE WHAT IT READS IS OF BULK AT MOST 1048576: true; the input reads as it did. -/
def fnExactMovesForUptoRow : OpenClaim := { program := "ytojpibpjieanhaa", sum := "150db86bc996a7b13cb72666e5097991c94fca19b46324294170afc02bbfcffe", func := "loop.example/g01153/laws.FnExactMovesFor", spec := "fnExactMovesFor", unfollowed := true, recurses := true, apart := false, narrowed := true }
def FnExactMovesForUptoSaid : Prop := fnExactMovesForUptoRow.holds Try.pinned (OpenSpec.upto fnExactMovesForSpec)

/-- 'laws.FnExactLeastMovedPeriod', WHERE WHAT IT READS IS OF BULK AT MOST 1048576: true; the input reads as it did. -/
def fnExactLeastMovedPeriodUptoRow : OpenClaim := { program := "ytojpibpjieanhaa", sum := "150db86bc996a7b13cb72666e5097991c94fca19b46324294170afc02bbfcffe", func := "loop.example/g01153/laws.FnExactLeastMovedPeriod", spec := "fnExactLeastMovedPeriod", unfollowed := true, recurses := true, apart := false, narrowed := true }
def FnExactLeastMovedPeriodUptoSaid : Prop := fnExactLeastMovedPeriodUptoRow.holds Try.pinned (OpenSpec.upto fnExactLeastMovedPeriodSpec)

end Rows
end Go.Proofs.Ytojpibpjieanhaa
