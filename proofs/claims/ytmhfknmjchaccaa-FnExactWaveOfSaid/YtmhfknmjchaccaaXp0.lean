-- Written by a program of this session out of the kit's print of the loaded functions: a plain function of a Go function, and its contract.
import Derived.Test.YtmhfknmjchaccaaProg
import Derived.Below
import Derived.Deep.Draws
import Derived.Deep.AppendLies
import Derived.Maps.AppendAt
import Derived.OwnWalk
import Derived.Laws.BytesArg
import Derived.Laws.MakeOwn
import Derived.Laws.OwnMore
import Derived.Deep.OwnRows
import Derived.Tactics
import Derived.Lib.ConvBytes
import Derived.Laws.Slices
import Derived.WalkKit
import Derived.KernelRfl
import Derived.RowKit3
import Derived.Deep.LoopGhost
import Derived.Deep.QuietTactic
import Derived.BigQuiet
import Derived.WideLaws
import Derived.Deep.DeepCutAuto
import Derived.Deep.CutBlock
import Derived.Deep.RegionHeld3
import Derived.Laws.Rows
import Derived.Lib.AppendStr
import Derived.ArgAppend
import Derived.Laws.IdiomCopy
import Derived.OrdersHeld
import Derived.Laws.BitsLemmas
import Derived.RowKit
import Derived.Test.YtmhfknmjchaccaaWWords
import Derived.Test.YtmhfknmjchaccaaWLast
import Derived.Test.YtmhfknmjchaccaaWTab
import Derived.Test.YtmhfknmjchaccaaWFour
import Derived.Test.YtmhfknmjchaccaaWQPut
import Derived.Test.YtmhfknmjchaccaaWApart
import Derived.Test.YtmhfknmjchaccaaWArr
import Derived.Test.YtmhfknmjchaccaaWZeros
import Derived.Test.YtmhfknmjchaccaaWFoot
import Derived.Test.YtmhfknmjchaccaaWKept
import Derived.Test.YtmhfknmjchaccaaWShare
import Derived.Test.YtmhfknmjchaccaaWN
import Derived.Test.YtmhfknmjchaccaaWFootNe
import Derived.Test.YtmhfknmjchaccaaWAt
import Derived.Test.YtmhfknmjchaccaaWEqStruct
import Derived.Test.YtmhfknmjchaccaaWRepsOne
import Derived.Test.YtmhfknmjchaccaaWInv
import Derived.Test.YtmhfknmjchaccaaWInvWords
import Derived.Test.YtmhfknmjchaccaaWGuard
import Derived.Test.YtmhfknmjchaccaaWNEv
import Derived.Test.YtmhfknmjchaccaaWMore
namespace Go.Proofs.Ytmhfknmjchaccaa.X
open Go.RowKit Go.Proofs.YtmhfknmjchaccaaW.PrintWords Go.Proofs.YtmhfknmjchaccaaW.PrintLast Go.Proofs.YtmhfknmjchaccaaW.PrintMore
attribute [local go_sem] max2_int min2_int max_two min_two max_three min_three max_four min_four   -- for this text's walks alone
set_option linter.unusedVariables false
set_option linter.unusedSimpArgs false



def errW : Option Int → Value
  | none => .nilIface
  | some c => .iface 0 (.int .i64 c)
theorem errW_none : errW none = .nilIface := rfl
theorem errW_some (c : Int) : errW (some c) = .iface 0 (.int .i64 c) := rfl

theorem info5 : (Try.prog.info? 5).map (fun i => (i.zero, i.size, i.bytes)) = some (some (.int .u8 0), 1, 1) := by kernel_rfl
-- the values' own types

end Go.Proofs.Ytmhfknmjchaccaa.X
