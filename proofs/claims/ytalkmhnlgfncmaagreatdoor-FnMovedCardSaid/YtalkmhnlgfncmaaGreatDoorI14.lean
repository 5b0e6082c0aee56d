/- My own texts of this seat and its words, merged: WFootNe. Conditions: as each lemma says. -/
import Derived.Test.YtalkmhnlgfncmaaGreatDoorI9
set_option linter.unusedVariables false
set_option linter.unusedSimpArgs false
section
/-! ### 52. A row that stays read whatever happens to a block (a set of blocks) doesn't lie there -/
namespace Go.Proofs.YtalkmhnlgfncmaaGreatDoorW.aC
open Go.RowKit
namespace Kd
section
variable {α:Type} {d:Kd α} {W:World} {g n:Nat} {S ok:Nat→Prop} {A:Option Addr} {ad:Addr} {xs:List α}
end
end Kd
end Go.Proofs.YtalkmhnlgfncmaaGreatDoorW.aC
end
