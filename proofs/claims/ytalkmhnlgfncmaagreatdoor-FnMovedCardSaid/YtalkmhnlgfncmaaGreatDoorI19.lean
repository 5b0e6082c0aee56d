/- My own texts of this seat and its words, merged: WInvWords. Conditions: as each lemma says. -/
import Derived.Test.YtalkmhnlgfncmaaGreatDoorI18
import Derived.Test.YtalkmhnlgfncmaaGreatDoorI14
set_option linter.unusedVariables false
set_option linter.unusedSimpArgs false
section
namespace Go.Proofs.YtalkmhnlgfncmaaGreatDoorW.aC
open Go.RowKit
/-- Two rows, one made behind the other's standing. -/
theorem Gc {v1 v2:Value} {n:Nat} (hlt:∀ k,v1.ownBlock=some k→k<n) (hge:∀ k,v2.ownBlock=some k→n≤k):v1.ownBlock=none∨v1.ownBlock≠v2.ownBlock:=by
 cases h:v1.ownBlock with
 |none=>exact .inl rfl
 |some k=>exact .inr (fun e=>by have:=hlt k h;have:=hge k e.symm;omega)
end Go.Proofs.YtalkmhnlgfncmaaGreatDoorW.aC
namespace Go.Proofs.YtalkmhnlgfncmaaGreatDoorW.aN
section
variable {ops:Array Oper} {a:Act} {o og:Oper} {g:Nat} {t:Tmp} {u:Bool}
end
end Go.Proofs.YtalkmhnlgfncmaaGreatDoorW.aN
end
