/- My own texts of this seat and its words, merged: WInvWords. Conditions: as each lemma says. -/
import Derived.Test.YthkpnbelbaljdaaDoorN18
import Derived.Test.YthkpnbelbaljdaaDoorN14
section
-- PRINTED BY print.sh 35421559b90ae4d0a3588c463048766b98c2df88dd9212a6774a882060cdf62d: not written by this session
namespace Go.Proofs.YthkpnbelbaljdaaDoorW.PrintWords
open Go.RowKit
end Go.Proofs.YthkpnbelbaljdaaDoorW.PrintWords
namespace Go.Proofs.YthkpnbelbaljdaaDoorW.PrintLast
section
variable {ops : Array Oper} {a : Act} {o og : Oper} {g : Nat} {t : Tmp} {u : Bool}
end
end Go.Proofs.YthkpnbelbaljdaaDoorW.PrintLast
end
