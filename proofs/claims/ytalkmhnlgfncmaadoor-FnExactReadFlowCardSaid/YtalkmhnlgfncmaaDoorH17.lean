/- My own texts of this seat and its words, merged: WInvWords. Conditions: as each lemma says. -/
import Derived.Test.YtalkmhnlgfncmaaDoorH16
import Derived.Test.YtalkmhnlgfncmaaDoorH12
section
-- PRINTED BY print.sh 35421559b90ae4d0a3588c463048766b98c2df88dd9212a6774a882060cdf62d: not written by this session
namespace Go.Proofs.YtalkmhnlgfncmaaDoorW.PrintWords
open Go.RowKit
end Go.Proofs.YtalkmhnlgfncmaaDoorW.PrintWords
namespace Go.Proofs.YtalkmhnlgfncmaaDoorW.PrintLast
section
variable {ops : Array Oper} {a : Act} {o og : Oper} {g : Nat} {t : Tmp} {u : Bool}
end
end Go.Proofs.YtalkmhnlgfncmaaDoorW.PrintLast
end
