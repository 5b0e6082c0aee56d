/- My own texts of this seat and its words, merged: WFour. Conditions: as each lemma says. -/
import Derived.Test.YtalkmhnlgfncmaaGreatDoorI12
set_option linter.unusedVariables false
set_option linter.unusedSimpArgs false
section
/-! ### 56. Four, five, six operations that may come up next, in any order -/
namespace Go.Proofs.YtalkmhnlgfncmaaGreatDoorW.aN
section
variable {P:Program} {ops:Array Oper} {Q:Exit→Act→World→Prop} {md:Region.Mode} {S:World→Prop} {ds:List Nat} {T:Bool×List (List Nat×List Nat)}
end
end Go.Proofs.YtalkmhnlgfncmaaGreatDoorW.aN
end
