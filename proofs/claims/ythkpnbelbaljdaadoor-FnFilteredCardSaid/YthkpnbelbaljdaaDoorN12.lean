/- My own texts of this seat and its words, merged: WTab. Conditions: as each lemma says. -/
import Derived.Test.YthkpnbelbaljdaaDoorN1
import Derived.Test.YthkpnbelbaljdaaDoorN0
section
-- PRINTED BY print.sh 35421559b90ae4d0a3588c463048766b98c2df88dd9212a6774a882060cdf62d: not written by this session
namespace Go.Proofs.YthkpnbelbaljdaaDoorW.PrintLast
open Go.Proofs.YthkpnbelbaljdaaDoorW.PrintWords (Aside0)
section
variable {md : Region.Mode} {ops : Array Oper} {T : Bool × List (List Nat × List Nat)} {l l' li lj lk : Array Bool} {ds : List Nat} {i j k : Nat}
end
end Go.Proofs.YthkpnbelbaljdaaDoorW.PrintLast
end
