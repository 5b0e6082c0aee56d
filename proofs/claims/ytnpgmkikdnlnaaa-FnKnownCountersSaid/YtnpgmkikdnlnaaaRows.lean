/-
  No cell of these rows narrows 'for every input' (looked for: loops, veiled, ifaces, maps, wideKeys, modest, calm, conditions, laid).
  DERIVED. THE GIVEN ROWS OF THIS SEAT. 5 by the template 'for every input the law returns true; each argument reads behind the call as it read before'; 0 by the template 'total and deterministic' (their statements: YtnpgmkikdnlnaaaTotals.lean).
  GIVEN WITH THE SEED: the statements are not yours to turn. If you find one false, say at which input.
  Laid BY PROGRAM, IN A SANDBOX (cutbox-rows.mjs): the forced cells as the released guide's own fill.sh prints them over the translation da3f60897ac01a65… (all of the seat's roots in one cut). By AI agents, Wed Nov 11 2026. No macro, syntax, notation, axiom, sorry.
-/
import Derived.Test.YtnpgmkikdnlnaaaChecked
import GoSem.Claim
import GoSem.ClaimJoined
import GoSem.ClaimMapViews
import Derived.JoinedTies
import Derived.KernelRfl
namespace Go.Proofs.Ytnpgmkikdnlnaaa
/- THE CELL 'sum', in the pinned program and in every row, IS THE sha256 OF THE DUMP (.gsa) THAT YtnpgmkikdnlnaaaProg.lean LOADS. Nothing in Lean hashes anything: it is a label: what it is worth is what the hold of that sum in a sandbox is worth. -/
noncomputable def Try.pinned : Pinned := { name := "ytnpgmkikdnlnaaa", sum := "da3f60897ac01a650b50579c1a881eafd45c3d5dbf0b544fadb8553a35c96309", checked := Try.checked }
namespace Rows
def none {H : Type} : Left H := { results := [], args := [] }

/-- 'laws.FnTaps': WHATEVER THE INPUT: true; the input reads as it did. -/
def fnTapsSpec : ChangeSpec := { name := "fnTaps", fn := fun _ => fun
  | [d1, d2] => { results := [.lit (.bool true)], args := [d1, d2] }
  | _ => none }
def fnTapsRow : OpenClaim := { program := "ytnpgmkikdnlnaaa", sum := "da3f60897ac01a650b50579c1a881eafd45c3d5dbf0b544fadb8553a35c96309", func := "loop.example/g01153/laws.FnTaps", spec := "fnTaps", unfollowed := true, recurses := true, apart := false }
def FnTapsSaid : Prop := fnTapsRow.holds Try.pinned (OpenSpec.ofChange fnTapsSpec)

/-- ITS FALSE NEIGHBOUR: 'it returns false'. Refute it at one input. -/
def fnTapsWrong : ChangeSpec := { name := "fnTaps", fn := fun _ => fun
  | [d1, d2] => { results := [.lit (.bool false)], args := [d1, d2] }
  | _ => none }
def FnTapsWrongFalsely : Prop := fnTapsRow.holds Try.pinned (OpenSpec.ofChange fnTapsWrong)

/-- 'laws.FnExactRingCounter': WHATEVER THE INPUT: true; the input reads as it did. -/
def fnExactRingCounterSpec : ChangeSpec := { name := "fnExactRingCounter", fn := fun _ => fun
  | [d] => { results := [.lit (.bool true)], args := [d] }
  | _ => none }
def fnExactRingCounterRow : OpenClaim := { program := "ytnpgmkikdnlnaaa", sum := "da3f60897ac01a650b50579c1a881eafd45c3d5dbf0b544fadb8553a35c96309", func := "loop.example/g01153/laws.FnExactRingCounter", spec := "fnExactRingCounter", unfollowed := true, recurses := true, apart := false }
def FnExactRingCounterSaid : Prop := fnExactRingCounterRow.holds Try.pinned (OpenSpec.ofChange fnExactRingCounterSpec)

/-- ITS FALSE NEIGHBOUR: 'it returns false'. Refute it at one input. -/
def fnExactRingCounterWrong : ChangeSpec := { name := "fnExactRingCounter", fn := fun _ => fun
  | [d] => { results := [.lit (.bool false)], args := [d] }
  | _ => none }
def FnExactRingCounterWrongFalsely : Prop := fnExactRingCounterRow.holds Try.pinned (OpenSpec.ofChange fnExactRingCounterWrong)

/-- 'laws.FnExactTwistedCounter': WHATEVER THE INPUT: true; the input reads as it did. -/
def fnExactTwistedCounterSpec : ChangeSpec := { name := "fnExactTwistedCounter", fn := fun _ => fun
  | [d] => { results := [.lit (.bool true)], args := [d] }
  | _ => none }
def fnExactTwistedCounterRow : OpenClaim := { program := "ytnpgmkikdnlnaaa", sum := "da3f60897ac01a650b50579c1a881eafd45c3d5dbf0b544fadb8553a35c96309", func := "loop.example/g01153/laws.FnExactTwistedCounter", spec := "fnExactTwistedCounter", unfollowed := true, recurses := true, apart := false }
def FnExactTwistedCounterSaid : Prop := fnExactTwistedCounterRow.holds Try.pinned (OpenSpec.ofChange fnExactTwistedCounterSpec)

/-- ITS FALSE NEIGHBOUR: 'it returns false'. Refute it at one input. -/
def fnExactTwistedCounterWrong : ChangeSpec := { name := "fnExactTwistedCounter", fn := fun _ => fun
  | [d] => { results := [.lit (.bool false)], args := [d] }
  | _ => none }
def FnExactTwistedCounterWrongFalsely : Prop := fnExactTwistedCounterRow.holds Try.pinned (OpenSpec.ofChange fnExactTwistedCounterWrong)

/-- 'laws.FnExactTapCounter': WHATEVER THE INPUT: true; the input reads as it did. -/
def fnExactTapCounterSpec : ChangeSpec := { name := "fnExactTapCounter", fn := fun _ => fun
  | [d1, d2] => { results := [.lit (.bool true)], args := [d1, d2] }
  | _ => none }
def fnExactTapCounterRow : OpenClaim := { program := "ytnpgmkikdnlnaaa", sum := "da3f60897ac01a650b50579c1a881eafd45c3d5dbf0b544fadb8553a35c96309", func := "loop.example/g01153/laws.FnExactTapCounter", spec := "fnExactTapCounter", unfollowed := true, recurses := true, apart := false }
def FnExactTapCounterSaid : Prop := fnExactTapCounterRow.holds Try.pinned (OpenSpec.ofChange fnExactTapCounterSpec)

/-- ITS FALSE NEIGHBOUR: 'it returns false'. Refute it at one input. -/
def fnExactTapCounterWrong : ChangeSpec := { name := "fnExactTapCounter", fn := fun _ => fun
  | [d1, d2] => { results := [.lit (.bool false)], args := [d1, d2] }
  | _ => none }
def FnExactTapCounterWrongFalsely : Prop := fnExactTapCounterRow.holds Try.pinned (OpenSpec.ofChange fnExactTapCounterWrong)

/-- 'laws.FnKnownCounters': WHATEVER THE INPUT: true; the input reads as it did. -/
def fnKnownCountersSpec : ChangeSpec := { name := "fnKnownCounters", fn := fun _ => fun
  | [d1, d2] => { results := [.lit (.bool true)], args := [d1, d2] }
  | _ => none }
def fnKnownCountersRow : OpenClaim := { program := "ytnpgmkikdnlnaaa", sum := "da3f60897ac01a650b50579c1a881eafd45c3d5dbf0b544fadb8553a35c96309", func := "loop.example/g01153/laws.FnKnownCounters", spec := "fnKnownCounters", unfollowed := true, recurses := true, apart := false }
def FnKnownCountersSaid : Prop := fnKnownCountersRow.holds Try.pinned (OpenSpec.ofChange fnKnownCountersSpec)

/-- ITS FALSE NEIGHBOUR: 'it returns false'. Refute it at one input. -/
def fnKnownCountersWrong : ChangeSpec := { name := "fnKnownCounters", fn := fun _ => fun
  | [d1, d2] => { results := [.lit (.bool false)], args := [d1, d2] }
  | _ => none }
def FnKnownCountersWrongFalsely : Prop := fnKnownCountersRow.holds Try.pinned (OpenSpec.ofChange fnKnownCountersWrong)

/- THE SECOND FORM. 'bulk': how many values and letters a reading holds, each counted each time it is reached (what is shared counts as often as it is met; a slice's spare places count too). A statement '..UptoSaid' is the law's where the arguments, and the package variables that the reading takes, are together of bulk at most 1048576: NARROWER than '..Said'. Prove '..Said' where nothing that the law and all that it calls make is longer than what came in: it says more and counts as full. Else prove '..UptoSaid'. A law counts once. -/
mutual
def uptoBulk {H : Type} : DataW H → Nat
  | .lit (.string bytes) => bytes.length + 1
  | .lit _ => 1
  | .nil => 1
  | .ptr d => uptoBulk d + 1
  | .slice elems spare => uptoBulkAll elems + uptoBulkAll spare + 1
  | .agg parts => uptoBulkAll parts + 1
  | .iface _ d => uptoBulk d + 1
  | .map entries => uptoBulkEntries entries + 1
  | .held _ => 1
def uptoBulkAll {H : Type} : List (DataW H) → Nat
  | [] => 0
  | d :: r => uptoBulk d + uptoBulkAll r
def uptoBulkEntries {H : Type} : List (Lit × DataW H) → Nat
  | [] => 0
  | x :: r => uptoBulkEntry x + uptoBulkEntries r
def uptoBulkEntry {H : Type} : Lit × DataW H → Nat
  | (.string bytes, d) => bytes.length + uptoBulk d + 1
  | (_, d) => uptoBulk d + 1
 end
def uptoSmall : (H : Type) → List (DataW H) → Bool := fun _ ds => decide (uptoBulkAll ds ≤ 1048576)
def OpenSpec.upto (s : _root_.Go.ChangeSpec) : _root_.Go.OpenSpec := { _root_.Go.OpenSpec.ofChange s with cond := some uptoSmall }

/-- 'laws.FnTaps', WHERE WHAT IT READS IS OF BULK AT MOST 1048576: true; the input reads as it did. -/
def fnTapsUptoRow : OpenClaim := { program := "ytnpgmkikdnlnaaa", sum := "da3f60897ac01a650b50579c1a881eafd45c3d5dbf0b544fadb8553a35c96309", func := "loop.example/g01153/laws.FnTaps", spec := "fnTaps", unfollowed := true, recurses := true, apart := false, narrowed := true }
def FnTapsUptoSaid : Prop := fnTapsUptoRow.holds Try.pinned (OpenSpec.upto fnTapsSpec)

/-- 'laws.FnExactRingCounter', WHERE WHAT IT READS IS OF BULK AT MOST 1048576: true; the input reads as it did. -/
def fnExactRingCounterUptoRow : OpenClaim := { program := "ytnpgmkikdnlnaaa", sum := "da3f60897ac01a650b50579c1a881eafd45c3d5dbf0b544fadb8553a35c96309", func := "loop.example/g01153/laws.FnExactRingCounter", spec := "fnExactRingCounter", unfollowed := true, recurses := true, apart := false, narrowed := true }
def FnExactRingCounterUptoSaid : Prop := fnExactRingCounterUptoRow.holds Try.pinned (OpenSpec.upto fnExactRingCounterSpec)

/-- 'laws.FnExactTwistedCounter', WHERE WHAT IT READS IS OF BULK AT MOST 1048576: true; the input reads as it did. -/
def fnExactTwistedCounterUptoRow : OpenClaim := { program := "ytnpgmkikdnlnaaa", sum := "da3f60897ac01a650b50579c1a881eafd45c3d5dbf0b544fadb8553a35c96309", func := "loop.example/g01153/laws.FnExactTwistedCounter", spec := "fnExactTwistedCounter", unfollowed := true, recurses := true, apart := false, narrowed := true }
def FnExactTwistedCounterUptoSaid : Prop := fnExactTwistedCounterUptoRow.holds Try.pinned (OpenSpec.upto fnExactTwistedCounterSpec)

/-- 'laws.FnExactTapCounter', WHERE WHAT IT READS IS OF BULK AT MOST 1048576: true; the input reads as it did. -/
def fnExactTapCounterUptoRow : OpenClaim := { program := "ytnpgmkikdnlnaaa", sum := "da3f60897ac01a650b50579c1a881eafd45c3d5dbf0b544fadb8553a35c96309", func := "loop.example/g01153/laws.FnExactTapCounter", spec := "fnExactTapCounter", unfollowed := true, recurses := true, apart := false, narrowed := true }
def FnExactTapCounterUptoSaid : Prop := fnExactTapCounterUptoRow.holds Try.pinned (OpenSpec.upto fnExactTapCounterSpec)

/-- 'laws.FnKnownCounters', WHERE WHAT IT READS IS OF BULK AT MOST 1048576: true; the input reads as it did. -/
def fnKnownCountersUptoRow : OpenClaim := { program := "ytnpgmkikdnlnaaa", sum := "da3f60897ac01a650b50579c1a881eafd45c3d5dbf0b544fadb8553a35c96309", func := "loop.example/g01153/laws.FnKnownCounters", spec := "fnKnownCounters", unfollowed := true, recurses := true, apart := false, narrowed := true }
def FnKnownCountersUptoSaid : Prop := fnKnownCountersUptoRow.holds Try.pinned (OpenSpec.upto fnKnownCountersSpec)

end Rows
end Go.Proofs.Ytnpgmkikdnlnaaa
