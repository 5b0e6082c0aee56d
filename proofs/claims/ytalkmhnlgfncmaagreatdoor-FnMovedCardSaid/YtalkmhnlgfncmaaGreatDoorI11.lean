/- My own texts of this seat and its words, merged: WMore. Conditions: as each lemma says. -/
import Derived.Test.YtalkmhnlgfncmaaGreatDoorI0
import Derived.Test.YtalkmhnlgfncmaaGreatDoorI1
import Derived.Test.YtalkmhnlgfncmaaGreatDoorI6
import Derived.Test.YtalkmhnlgfncmaaGreatDoorI2
import Derived.Test.YtalkmhnlgfncmaaGreatDoorI7
import Derived.Test.YtalkmhnlgfncmaaGreatDoorI4
import Derived.Test.YtalkmhnlgfncmaaGreatDoorI5
import Derived.Test.YtalkmhnlgfncmaaGreatDoorI10
set_option linter.unusedVariables false
set_option linter.unusedSimpArgs false
section
namespace Go.Proofs.YtalkmhnlgfncmaaGreatDoorW.aT
open Go.RowKit Go.Proofs.YtalkmhnlgfncmaaGreatDoorW.aC
namespace Kd
open Go.Proofs.YtalkmhnlgfncmaaGreatDoorW.aC.Kd
end Kd
namespace Kd
open Go.Proofs.YtalkmhnlgfncmaaGreatDoorW.aC.Kd
section
variable {α:Type} {d:Kd α} {e base g N:Nat} {ok:Nat→Prop} {W w1:World} {u v:Value} {xs:List α}
end
end Kd
/-- 'max' and 'min' of two whole numbers. -/
theorem fq (k k':IntKind) (x y:Int):Builtin.max2 (.int k x) (.int k' y)=pure (.int k (if x<y then y else x)):=by simp only[Builtin.max2,gt_iff_lt]
theorem fu (k k':IntKind) (x y:Int):Builtin.min2 (.int k x) (.int k' y)=pure (.int k (if y<x then y else x)):=by simp only[Builtin.min2]
theorem gJ (ats:Array TypeId) (ty:TypeId) (a b:Value):Builtin.max_ ats ty #[a,b]=(Builtin.max2 a b>>=fun s=>pure s):=by simp only[Builtin.max_,List.foldlM_cons,List.foldlM_nil]
theorem gK (ats:Array TypeId) (ty:TypeId) (a b:Value):Builtin.min_ ats ty #[a,b]=(Builtin.min2 a b>>=fun s=>pure s):=by simp only[Builtin.min_,List.foldlM_cons,List.foldlM_nil]
theorem dN (ats:Array TypeId) (ty:TypeId) (a b c:Value):Builtin.max_ ats ty #[a,b,c]=(Builtin.max2 a b>>=fun s=>Builtin.max2 s c>>=fun s=>pure s):=by simp only[Builtin.max_,List.foldlM_cons,List.foldlM_nil]
theorem dO (ats:Array TypeId) (ty:TypeId) (a b c:Value):Builtin.min_ ats ty #[a,b,c]=(Builtin.min2 a b>>=fun s=>Builtin.min2 s c>>=fun s=>pure s):=by simp only[Builtin.min_,List.foldlM_cons,List.foldlM_nil]
theorem fA (ats:Array TypeId) (ty:TypeId) (a b c d:Value):Builtin.max_ ats ty #[a,b,c,d]=(Builtin.max2 a b>>=fun s=>Builtin.max2 s c>>=fun s=>Builtin.max2 s d>>=fun s=>pure s):=by simp only[Builtin.max_,List.foldlM_cons,List.foldlM_nil]
theorem fB (ats:Array TypeId) (ty:TypeId) (a b c d:Value):Builtin.min_ ats ty #[a,b,c,d]=(Builtin.min2 a b>>=fun s=>Builtin.min2 s c>>=fun s=>Builtin.min2 s d>>=fun s=>pure s):=by simp only[Builtin.min_,List.foldlM_cons,List.foldlM_nil]
end Go.Proofs.YtalkmhnlgfncmaaGreatDoorW.aT
namespace Go.Proofs.YtalkmhnlgfncmaaGreatDoorW.aC
open Go.RowKit
section
variable {P:Program} {ops:Array Oper} {rest:List Oper} {o:Oper} {a:Act} {Q:Exit→Act→World→Prop} {W:World}
/-- The operation is a call of this function (a cheap look ahead of a dear step). -/
theorem aK {f:FuncId} {as:Array Operand} {ts:Array TypeId} (_ho:o.op= .call { callee:=.value (.func f),args:=as,argTypes:=ts }) (h:wpList P ops Q (o::rest) a W):wpList P ops Q (o::rest) a W:=h
/-- The operation is a builtin over these places. -/
theorem gI {b:Builtin} {xs:Array Operand} {ts:Array TypeId} (_ho:o.op= .call { callee:=.builtin b,args:=xs,argTypes:=ts }) (h:wpList P ops Q (o::rest) a W):wpList P ops Q (o::rest) a W:=h
end
/-- The greater of two whole numbers, as Go's max tells it. -/
def mx (a b:Int):Int:=if a<b then b else a
namespace Kd
section
variable {α:Type} {d:Kd α} {e base:Nat} {ok:Nat→Prop} {W w1:World} {v:Value} {xs:List α}
/-- The same, told: its block is not that one. -/
theorem VL (h:d.R e W base ok v xs) (hE:d.E=[]) {g:Nat} (hne:some g≠v.ownBlock):d.R e W base (fun k=>ok k∧k≠g) v xs:=
 bS (Nv hE h) (fun k hk=>⟨h.1 k hk.symm,fun e_=>hne (by rw[← e_];exact hk)⟩)
/-- The same, where the row that was written may be none. -/
theorem TG (h:d.R e W base ok v xs) (hE:d.E=[]) {row:Option Nat} (hg:W.grownBy w1 row) (hne:∀ k,row=some k→some k≠v.ownBlock):d.R e w1 base ok v xs:=
 bS (Xx (Nv hE h) hg (fun k hk e_=>hne k e_.symm hk)) (fun k hk=>h.1 k hk.symm)
end
section
variable {α:Type} {d:Kd α} {e base g n cap:Nat} {ok oki okp:Nat→Prop} {W:World} {xs:List α} {i:Int} {c:List Value}
end
section
variable {α:Type} {d:Kd α} {e base b b' g N:Nat} {ok ok1:Nat→Prop} {W W2 w1:World} {u v:Value} {xs ys:List α} {S:Nat→Prop}
end
end Kd
end Go.Proofs.YtalkmhnlgfncmaaGreatDoorW.aC
namespace Go.Proofs.YtalkmhnlgfncmaaGreatDoorW.aC
open Go.RowKit
namespace Kd
/-- A row that is only read, told by its value: its form, its length, what it leads to (in ok). e and base say nothing; they make it as the others are. -/
def V {α:Type} (d:Kd α) (_e:Nat) (W:World) (_base:Nat) (ok:Nat→Prop) (v:Value) (xs:List α):Prop:=∃ A c,v= .slice A xs.length c∧xs.length≤c∧F d W ok A xs.length xs
section
variable {α β:Type} {d:Kd α} {e base base' n m c g N' lo hi:Nat} {ok ok' S:Nat→Prop} {w W w1:World} {A:Option Addr} {ad:Addr} {u v v1:Value} {xs:List α}
theorem ahA (d:Kd α) (e:Nat) (W:World) (base:Nat) (ok:Nat→Prop):V d e W base ok (.slice none 0 0) []:=⟨none,0,rfl,Nat.le_refl _,ahB d W ok⟩
end
end Kd
end Go.Proofs.YtalkmhnlgfncmaaGreatDoorW.aC
end
