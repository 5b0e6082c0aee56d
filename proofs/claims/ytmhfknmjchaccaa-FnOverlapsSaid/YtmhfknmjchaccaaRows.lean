/-
  No cell of these rows narrows 'for every input' (looked for: loops, veiled, ifaces, maps, wideKeys, modest, calm, conditions, laid).
  DERIVED. THE GIVEN ROWS OF THIS SEAT. 10 by the template 'for every input the law returns true; each argument reads behind the call as it read before'; 0 by the template 'total and deterministic' (their statements: YtmhfknmjchaccaaTotals.lean).
  GIVEN WITH THE SEED: the statements are not yours to turn. If you find one false, say at which input.
  Laid BY PROGRAM, IN A SANDBOX (cutbox-rows.mjs): the forced cells as the released guide's own fill.sh prints them over the translation d49c60e62a4f71f6… (all of the seat's roots in one cut). By AI agents, Wed Nov 11 2026. No macro, syntax, notation, axiom, sorry.
-/
import Derived.Test.YtmhfknmjchaccaaChecked
import GoSem.Claim
import GoSem.ClaimJoined
import GoSem.ClaimMapViews
import Derived.JoinedTies
import Derived.KernelRfl
namespace Go.Proofs.Ytmhfknmjchaccaa
/- THE CELL 'sum', in the pinned program and in every row, IS THE sha256 OF THE DUMP (.gsa) THAT YtmhfknmjchaccaaProg.lean LOADS. Nothing in Lean hashes anything: it is a label: what it is worth is what the hold of that sum in a sandbox is worth. -/
noncomputable def Try.pinned : Pinned := { name := "ytmhfknmjchaccaa", sum := "d49c60e62a4f71f601313c71ac8c84e5e4d83f4debffb3faabcdeda72c60d2f2", checked := Try.checked }
namespace Rows
def none {H : Type} : Left H := { results := [], args := [] }

/-- 'laws.FnExactValidClock': WHATEVER THE INPUT: true; the input reads as it did. -/
def fnExactValidClockSpec : ChangeSpec := { name := "fnExactValidClock", fn := fun _ => fun
  | [d] => { results := [.lit (.bool true)], args := [d] }
  | _ => none }
def fnExactValidClockRow : OpenClaim := { program := "ytmhfknmjchaccaa", sum := "d49c60e62a4f71f601313c71ac8c84e5e4d83f4debffb3faabcdeda72c60d2f2", func := "loop.example/g01153/laws.FnExactValidClock", spec := "fnExactValidClock", apart := false }
def FnExactValidClockSaid : Prop := fnExactValidClockRow.holds Try.pinned (OpenSpec.ofChange fnExactValidClockSpec)

/-- ITS FALSE NEIGHBOUR: 'it returns false'. Refute it at one input. -/
def fnExactValidClockWrong : ChangeSpec := { name := "fnExactValidClock", fn := fun _ => fun
  | [d] => { results := [.lit (.bool false)], args := [d] }
  | _ => none }
def FnExactValidClockWrongFalsely : Prop := fnExactValidClockRow.holds Try.pinned (OpenSpec.ofChange fnExactValidClockWrong)

/-- 'laws.FnOverlaps': WHATEVER THE INPUT: true; the input reads as it did. -/
def fnOverlapsSpec : ChangeSpec := { name := "fnOverlaps", fn := fun _ => fun
  | [d1, d2] => { results := [.lit (.bool true)], args := [d1, d2] }
  | _ => none }
def fnOverlapsRow : OpenClaim := { program := "ytmhfknmjchaccaa", sum := "d49c60e62a4f71f601313c71ac8c84e5e4d83f4debffb3faabcdeda72c60d2f2", func := "loop.example/g01153/laws.FnOverlaps", spec := "fnOverlaps", apart := false }
def FnOverlapsSaid : Prop := fnOverlapsRow.holds Try.pinned (OpenSpec.ofChange fnOverlapsSpec)

/-- ITS FALSE NEIGHBOUR: 'it returns false'. Refute it at one input. -/
def fnOverlapsWrong : ChangeSpec := { name := "fnOverlaps", fn := fun _ => fun
  | [d1, d2] => { results := [.lit (.bool false)], args := [d1, d2] }
  | _ => none }
def FnOverlapsWrongFalsely : Prop := fnOverlapsRow.holds Try.pinned (OpenSpec.ofChange fnOverlapsWrong)

/-- 'laws.FnExactEdgeAt': WHATEVER THE INPUT: true; the input reads as it did. -/
def fnExactEdgeAtSpec : ChangeSpec := { name := "fnExactEdgeAt", fn := fun _ => fun
  | [d1, d2] => { results := [.lit (.bool true)], args := [d1, d2] }
  | _ => none }
def fnExactEdgeAtRow : OpenClaim := { program := "ytmhfknmjchaccaa", sum := "d49c60e62a4f71f601313c71ac8c84e5e4d83f4debffb3faabcdeda72c60d2f2", func := "loop.example/g01153/laws.FnExactEdgeAt", spec := "fnExactEdgeAt", apart := false }
def FnExactEdgeAtSaid : Prop := fnExactEdgeAtRow.holds Try.pinned (OpenSpec.ofChange fnExactEdgeAtSpec)

/-- ITS FALSE NEIGHBOUR: 'it returns false'. Refute it at one input. -/
def fnExactEdgeAtWrong : ChangeSpec := { name := "fnExactEdgeAt", fn := fun _ => fun
  | [d1, d2] => { results := [.lit (.bool false)], args := [d1, d2] }
  | _ => none }
def FnExactEdgeAtWrongFalsely : Prop := fnExactEdgeAtRow.holds Try.pinned (OpenSpec.ofChange fnExactEdgeAtWrong)

/-- 'laws.FnExactCountEdgesIn': WHATEVER THE INPUT: true; the input reads as it did. -/
def fnExactCountEdgesInSpec : ChangeSpec := { name := "fnExactCountEdgesIn", fn := fun _ => fun
  | [d1, d2, d3] => { results := [.lit (.bool true)], args := [d1, d2, d3] }
  | _ => none }
def fnExactCountEdgesInRow : OpenClaim := { program := "ytmhfknmjchaccaa", sum := "d49c60e62a4f71f601313c71ac8c84e5e4d83f4debffb3faabcdeda72c60d2f2", func := "loop.example/g01153/laws.FnExactCountEdgesIn", spec := "fnExactCountEdgesIn", apart := false }
def FnExactCountEdgesInSaid : Prop := fnExactCountEdgesInRow.holds Try.pinned (OpenSpec.ofChange fnExactCountEdgesInSpec)

/-- ITS FALSE NEIGHBOUR: 'it returns false'. Refute it at one input. -/
def fnExactCountEdgesInWrong : ChangeSpec := { name := "fnExactCountEdgesIn", fn := fun _ => fun
  | [d1, d2, d3] => { results := [.lit (.bool false)], args := [d1, d2, d3] }
  | _ => none }
def FnExactCountEdgesInWrongFalsely : Prop := fnExactCountEdgesInRow.holds Try.pinned (OpenSpec.ofChange fnExactCountEdgesInWrong)

/-- 'laws.FnExactNextEdge': WHATEVER THE INPUT: true; the input reads as it did. -/
def fnExactNextEdgeSpec : ChangeSpec := { name := "fnExactNextEdge", fn := fun _ => fun
  | [d1, d2] => { results := [.lit (.bool true)], args := [d1, d2] }
  | _ => none }
def fnExactNextEdgeRow : OpenClaim := { program := "ytmhfknmjchaccaa", sum := "d49c60e62a4f71f601313c71ac8c84e5e4d83f4debffb3faabcdeda72c60d2f2", func := "loop.example/g01153/laws.FnExactNextEdge", spec := "fnExactNextEdge", apart := false }
def FnExactNextEdgeSaid : Prop := fnExactNextEdgeRow.holds Try.pinned (OpenSpec.ofChange fnExactNextEdgeSpec)

/-- ITS FALSE NEIGHBOUR: 'it returns false'. Refute it at one input. -/
def fnExactNextEdgeWrong : ChangeSpec := { name := "fnExactNextEdge", fn := fun _ => fun
  | [d1, d2] => { results := [.lit (.bool false)], args := [d1, d2] }
  | _ => none }
def FnExactNextEdgeWrongFalsely : Prop := fnExactNextEdgeRow.holds Try.pinned (OpenSpec.ofChange fnExactNextEdgeWrong)

/-- 'laws.FnExactOverlapOf': WHATEVER THE INPUT: true; the input reads as it did. -/
def fnExactOverlapOfSpec : ChangeSpec := { name := "fnExactOverlapOf", fn := fun _ => fun
  | [d1, d2, d3, d4, d5] => { results := [.lit (.bool true)], args := [d1, d2, d3, d4, d5] }
  | _ => none }
def fnExactOverlapOfRow : OpenClaim := { program := "ytmhfknmjchaccaa", sum := "d49c60e62a4f71f601313c71ac8c84e5e4d83f4debffb3faabcdeda72c60d2f2", func := "loop.example/g01153/laws.FnExactOverlapOf", spec := "fnExactOverlapOf", apart := false }
def FnExactOverlapOfSaid : Prop := fnExactOverlapOfRow.holds Try.pinned (OpenSpec.ofChange fnExactOverlapOfSpec)

/-- ITS FALSE NEIGHBOUR: 'it returns false'. Refute it at one input. -/
def fnExactOverlapOfWrong : ChangeSpec := { name := "fnExactOverlapOf", fn := fun _ => fun
  | [d1, d2, d3, d4, d5] => { results := [.lit (.bool false)], args := [d1, d2, d3, d4, d5] }
  | _ => none }
def FnExactOverlapOfWrongFalsely : Prop := fnExactOverlapOfRow.holds Try.pinned (OpenSpec.ofChange fnExactOverlapOfWrong)

/-- 'laws.FnExactWaveOf': WHATEVER THE INPUT: true; the input reads as it did. -/
def fnExactWaveOfSpec : ChangeSpec := { name := "fnExactWaveOf", fn := fun _ => fun
  | [d1, d2, d3] => { results := [.lit (.bool true)], args := [d1, d2, d3] }
  | _ => none }
def fnExactWaveOfRow : OpenClaim := { program := "ytmhfknmjchaccaa", sum := "d49c60e62a4f71f601313c71ac8c84e5e4d83f4debffb3faabcdeda72c60d2f2", func := "loop.example/g01153/laws.FnExactWaveOf", spec := "fnExactWaveOf", unfollowed := true, recurses := true, apart := false }
def FnExactWaveOfSaid : Prop := fnExactWaveOfRow.holds Try.pinned (OpenSpec.ofChange fnExactWaveOfSpec)

/-- ITS FALSE NEIGHBOUR: 'it returns false'. Refute it at one input. -/
def fnExactWaveOfWrong : ChangeSpec := { name := "fnExactWaveOf", fn := fun _ => fun
  | [d1, d2, d3] => { results := [.lit (.bool false)], args := [d1, d2, d3] }
  | _ => none }
def FnExactWaveOfWrongFalsely : Prop := fnExactWaveOfRow.holds Try.pinned (OpenSpec.ofChange fnExactWaveOfWrong)

/-- 'laws.FnExactLongestWait': WHATEVER THE INPUT: true; the input reads as it did. -/
def fnExactLongestWaitSpec : ChangeSpec := { name := "fnExactLongestWait", fn := fun _ => fun
  | [d1, d2] => { results := [.lit (.bool true)], args := [d1, d2] }
  | _ => none }
def fnExactLongestWaitRow : OpenClaim := { program := "ytmhfknmjchaccaa", sum := "d49c60e62a4f71f601313c71ac8c84e5e4d83f4debffb3faabcdeda72c60d2f2", func := "loop.example/g01153/laws.FnExactLongestWait", spec := "fnExactLongestWait", apart := false }
def FnExactLongestWaitSaid : Prop := fnExactLongestWaitRow.holds Try.pinned (OpenSpec.ofChange fnExactLongestWaitSpec)

/-- ITS FALSE NEIGHBOUR: 'it returns false'. Refute it at one input. -/
def fnExactLongestWaitWrong : ChangeSpec := { name := "fnExactLongestWait", fn := fun _ => fun
  | [d1, d2] => { results := [.lit (.bool false)], args := [d1, d2] }
  | _ => none }
def FnExactLongestWaitWrongFalsely : Prop := fnExactLongestWaitRow.holds Try.pinned (OpenSpec.ofChange fnExactLongestWaitWrong)

/-- 'laws.FnExactLeastGap': WHATEVER THE INPUT: true; the input reads as it did. -/
def fnExactLeastGapSpec : ChangeSpec := { name := "fnExactLeastGap", fn := fun _ => fun
  | [d1, d2] => { results := [.lit (.bool true)], args := [d1, d2] }
  | _ => none }
def fnExactLeastGapRow : OpenClaim := { program := "ytmhfknmjchaccaa", sum := "d49c60e62a4f71f601313c71ac8c84e5e4d83f4debffb3faabcdeda72c60d2f2", func := "loop.example/g01153/laws.FnExactLeastGap", spec := "fnExactLeastGap", apart := false }
def FnExactLeastGapSaid : Prop := fnExactLeastGapRow.holds Try.pinned (OpenSpec.ofChange fnExactLeastGapSpec)

/-- ITS FALSE NEIGHBOUR: 'it returns false'. Refute it at one input. -/
def fnExactLeastGapWrong : ChangeSpec := { name := "fnExactLeastGap", fn := fun _ => fun
  | [d1, d2] => { results := [.lit (.bool false)], args := [d1, d2] }
  | _ => none }
def FnExactLeastGapWrongFalsely : Prop := fnExactLeastGapRow.holds Try.pinned (OpenSpec.ofChange fnExactLeastGapWrong)

/-- 'laws.FnExactNearEdges': WHATEVER THE INPUT: true; the input reads as it did. -/
def fnExactNearEdgesSpec : ChangeSpec := { name := "fnExactNearEdges", fn := fun _ => fun
  | [d1, d2, d3, d4] => { results := [.lit (.bool true)], args := [d1, d2, d3, d4] }
  | _ => none }
def fnExactNearEdgesRow : OpenClaim := { program := "ytmhfknmjchaccaa", sum := "d49c60e62a4f71f601313c71ac8c84e5e4d83f4debffb3faabcdeda72c60d2f2", func := "loop.example/g01153/laws.FnExactNearEdges", spec := "fnExactNearEdges", apart := false }
def FnExactNearEdgesSaid : Prop := fnExactNearEdgesRow.holds Try.pinned (OpenSpec.ofChange fnExactNearEdgesSpec)

/-- ITS FALSE NEIGHBOUR: 'it returns false'. Refute it at one input. -/
def fnExactNearEdgesWrong : ChangeSpec := { name := "fnExactNearEdges", fn := fun _ => fun
  | [d1, d2, d3, d4] => { results := [.lit (.bool false)], args := [d1, d2, d3, d4] }
  | _ => none }
def FnExactNearEdgesWrongFalsely : Prop := fnExactNearEdgesRow.holds Try.pinned (OpenSpec.ofChange fnExactNearEdgesWrong)

/- THE SECOND FORM. 'bulk': how many values and letters a reading holds, each counted each time it is reached (what is shared counts as often as it is met; a slice's spare places count too). A statement '..UptoSaid' is the law's where the arguments, and the package variables that the reading takes, are together of bulk at most 1048576: NARROWER than '..Said'. Prove '..Said' where nothing that the law and all that it calls make is longer than what came in: it says more and counts as full. Else prove '..UptoSaid'. A law counts once. -/
mutual
def uptoBulk {H : Type} : DataW H → Nat
  | .lit (.string bytes) => bytes.length + 1
  | .lit _ => 1
  | .nil => 1
  | .ptr d => uptoBulk d + 1
  | .slice elems spare => uptoBulkAll elems + uptoBulkAll spare + 1
  | .agg parts => uptoBulkAll parts + 1
  | .iface _ d => uptoBulk d + 1
  | .map entries => uptoBulkEntries entries + 1
  | .held _ => 1
def uptoBulkAll {H : Type} : List (DataW H) → Nat
  | [] => 0
  | d :: r => uptoBulk d + uptoBulkAll r
def uptoBulkEntries {H : Type} : List (Lit × DataW H) → Nat
  | [] => 0
  | x :: r => uptoBulkEntry x + uptoBulkEntries r
def uptoBulkEntry {H : Type} : Lit × DataW H → Nat
  | (.string bytes, d) => bytes.length + uptoBulk d + 1
  | (_, d) => uptoBulk d + 1
 end
def uptoSmall : (H : Type) → List (DataW H) → Bool := fun _ ds => decide (uptoBulkAll ds ≤ 1048576)
def OpenSpec.upto (s : _root_.Go.ChangeSpec) : _root_.Go.OpenSpec := { _root_.Go.OpenSpec.ofChange s with cond := some uptoSmall }

/-- 'laws.FnExactValidClock', WHERE WHAT IT READS IS OF BULK AT MOST 1048576: true; the input reads as it did. -/
def fnExactValidClockUptoRow : OpenClaim := { program := "ytmhfknmjchaccaa", sum := "d49c60e62a4f71f601313c71ac8c84e5e4d83f4debffb3faabcdeda72c60d2f2", func := "loop.example/g01153/laws.FnExactValidClock", spec := "fnExactValidClock", apart := false, narrowed := true }
def FnExactValidClockUptoSaid : Prop := fnExactValidClockUptoRow.holds Try.pinned (OpenSpec.upto fnExactValidClockSpec)

/-- 'laws.FnOverlaps', WHERE WHAT IT READS IS OF BULK AT MOST 1048576: true; the input reads as it did. -/
def fnOverlapsUptoRow : OpenClaim := { program := "ytmhfknmjchaccaa", sum := "d49c60e62a4f71f601313c71ac8c84e5e4d83f4debffb3faabcdeda72c60d2f2", func := "loop.example/g01153/laws.FnOverlaps", spec := "fnOverlaps", apart := false, narrowed := true }
def FnOverlapsUptoSaid : Prop := fnOverlapsUptoRow.holds Try.pinned (OpenSpec.upto fnOverlapsSpec)

/-- 'laws.FnExactEdgeAt', WHERE WHAT IT READS IS OF BULK AT MOST 1048576: true; the input reads as it did. -/
def fnExactEdgeAtUptoRow : OpenClaim := { program := "ytmhfknmjchaccaa", sum := "d49c60e62a4f71f601313c71ac8c84e5e4d83f4debffb3faabcdeda72c60d2f2", func := "loop.example/g01153/laws.FnExactEdgeAt", spec := "fnExactEdgeAt", apart := false, narrowed := true }
def FnExactEdgeAtUptoSaid : Prop := fnExactEdgeAtUptoRow.holds Try.pinned (OpenSpec.upto fnExactEdgeAtSpec)

/-- 'laws.FnExactCountEdgesIn', WHERE WHAT IT READS IS OF BULK AT MOST 1048576: true; the input reads as it did. -/
def fnExactCountEdgesInUptoRow : OpenClaim := { program := "ytmhfknmjchaccaa", sum := "d49c60e62a4f71f601313c71ac8c84e5e4d83f4debffb3faabcdeda72c60d2f2", func := "loop.example/g01153/laws.FnExactCountEdgesIn", spec := "fnExactCountEdgesIn", apart := false, narrowed := true }
def FnExactCountEdgesInUptoSaid : Prop := fnExactCountEdgesInUptoRow.holds Try.pinned (OpenSpec.upto fnExactCountEdgesInSpec)

/-- 'laws.FnExactNextEdge', WHERE WHAT IT READS IS OF BULK AT MOST 1048576: true; the input reads as it did. -/
def fnExactNextEdgeUptoRow : OpenClaim := { program := "ytmhfknmjchaccaa", sum := "d49c60e62a4f71f601313c71ac8c84e5e4d83f4debffb3faabcdeda72c60d2f2", func := "loop.example/g01153/laws.FnExactNextEdge", spec := "fnExactNextEdge", apart := false, narrowed := true }
def FnExactNextEdgeUptoSaid : Prop := fnExactNextEdgeUptoRow.holds Try.pinned (OpenSpec.upto fnExactNextEdgeSpec)

/-- 'laws.FnExactOverlapOf', WHERE WHAT IT READS IS OF BULK AT MOST 1048576: true; the input reads as it did. -/
def fnExactOverlapOfUptoRow : OpenClaim := { program := "ytmhfknmjchaccaa", sum := "d49c60e62a4f71f601313c71ac8c84e5e4d83f4debffb3faabcdeda72c60d2f2", func := "loop.example/g01153/laws.FnExactOverlapOf", spec := "fnExactOverlapOf", apart := false, narrowed := true }
def FnExactOverlapOfUptoSaid : Prop := fnExactOverlapOfUptoRow.holds Try.pinned (OpenSpec.upto fnExactOverlapOfSpec)

/-- 'laws.FnExactWaveOf', WHERE WHAT IT READS IS OF BULK AT MOST 1048576: true; the input reads as it did. -/
def fnExactWaveOfUptoRow : OpenClaim := { program := "ytmhfknmjchaccaa", sum := "d49c60e62a4f71f601313c71ac8c84e5e4d83f4debffb3faabcdeda72c60d2f2", func := "loop.example/g01153/laws.FnExactWaveOf", spec := "fnExactWaveOf", unfollowed := true, recurses := true, apart := false, narrowed := true }
def FnExactWaveOfUptoSaid : Prop := fnExactWaveOfUptoRow.holds Try.pinned (OpenSpec.upto fnExactWaveOfSpec)

/-- 'laws.FnExactLongestWait', WHERE WHAT IT READS IS OF BULK AT MOST 1048576: true; the input reads as it did. -/
def fnExactLongestWaitUptoRow : OpenClaim := { program := "ytmhfknmjchaccaa", sum := "d49c60e62a4f71f601313c71ac8c84e5e4d83f4debffb3faabcdeda72c60d2f2", func := "loop.example/g01153/laws.FnExactLongestWait", spec := "fnExactLongestWait", apart := false, narrowed := true }
def FnExactLongestWaitUptoSaid : Prop := fnExactLongestWaitUptoRow.holds Try.pinned (OpenSpec.upto fnExactLongestWaitSpec)

/-- 'laws.FnExactLeastGap', WHERE WHAT IT READS IS OF BULK AT MOST 1048576: true; the input reads as it did. -/
def fnExactLeastGapUptoRow : OpenClaim := { program := "ytmhfknmjchaccaa", sum := "d49c60e62a4f71f601313c71ac8c84e5e4d83f4debffb3faabcdeda72c60d2f2", func := "loop.example/g01153/laws.FnExactLeastGap", spec := "fnExactLeastGap", apart := false, narrowed := true }
def FnExactLeastGapUptoSaid : Prop := fnExactLeastGapUptoRow.holds Try.pinned (OpenSpec.upto fnExactLeastGapSpec)

/-- 'laws.FnExactNearEdges', WHERE WHAT IT READS IS OF BULK AT MOST 1048576: true; the input reads as it did. -/
def fnExactNearEdgesUptoRow : OpenClaim := { program := "ytmhfknmjchaccaa", sum := "d49c60e62a4f71f601313c71ac8c84e5e4d83f4debffb3faabcdeda72c60d2f2", func := "loop.example/g01153/laws.FnExactNearEdges", spec := "fnExactNearEdges", apart := false, narrowed := true }
def FnExactNearEdgesUptoSaid : Prop := fnExactNearEdgesUptoRow.holds Try.pinned (OpenSpec.upto fnExactNearEdgesSpec)

end Rows
end Go.Proofs.Ytmhfknmjchaccaa
