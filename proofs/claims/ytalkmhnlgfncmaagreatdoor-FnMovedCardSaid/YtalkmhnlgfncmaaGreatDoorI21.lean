/- My own texts of this seat and its words, merged: XFun, CGraph, CCons, Xp0, XClone, XMarks, Xp38, XMat, CWay, XPut, XWireIn, XAll, XAllBetween. Conditions: as each lemma says. -/
import Derived.Test.YtalkmhnlgfncmaaGreatDoorProg
import Derived.Below
import Derived.Deep.Draws
import Derived.Deep.AppendLies
import Derived.OwnWalk
import Derived.Laws.OwnMore
import Derived.Deep.OwnRows
import Derived.Tactics
import Derived.Lib.ConvBytes
import Derived.Laws.Slices
import Derived.WalkKit
import Derived.KernelRfl
import Derived.RowKit3
import Derived.Deep.LoopGhost
import Derived.Deep.QuietTactic
import Derived.BigQuiet
import Derived.Deep.DeepCutAuto
import Derived.Deep.CutBlock
import Derived.OrdersHeld
import Derived.RowKit
import Derived.Test.YtalkmhnlgfncmaaGreatDoorI0
import Derived.Test.YtalkmhnlgfncmaaGreatDoorI1
import Derived.Test.YtalkmhnlgfncmaaGreatDoorI5
import Derived.Test.YtalkmhnlgfncmaaGreatDoorI11
import Derived.Maps.AppendAt
import Derived.Laws.BytesArg
import Derived.Laws.MakeOwn
import Derived.WideLaws
import Derived.Deep.RegionHeld3
import Derived.Laws.Rows
import Derived.Lib.AppendStr
import Derived.ArgAppend
import Derived.Laws.IdiomCopy
import Derived.Laws.BitsLemmas
import Derived.Test.YtalkmhnlgfncmaaGreatDoorI12
import Derived.Test.YtalkmhnlgfncmaaGreatDoorI13
import Derived.Test.YtalkmhnlgfncmaaGreatDoorI6
import Derived.Test.YtalkmhnlgfncmaaGreatDoorI2
import Derived.Test.YtalkmhnlgfncmaaGreatDoorI3
import Derived.Test.YtalkmhnlgfncmaaGreatDoorI7
import Derived.Test.YtalkmhnlgfncmaaGreatDoorI4
import Derived.Test.YtalkmhnlgfncmaaGreatDoorI8
import Derived.Test.YtalkmhnlgfncmaaGreatDoorI9
import Derived.Test.YtalkmhnlgfncmaaGreatDoorI14
import Derived.Test.YtalkmhnlgfncmaaGreatDoorI15
import Derived.Test.YtalkmhnlgfncmaaGreatDoorI16
import Derived.Test.YtalkmhnlgfncmaaGreatDoorI17
import Derived.Test.YtalkmhnlgfncmaaGreatDoorI18
import Derived.Test.YtalkmhnlgfncmaaGreatDoorI19
import Derived.Test.YtalkmhnlgfncmaaGreatDoorI20
import Derived.Test.YtalkmhnlgfncmaaGreatDoorI10
import Derived.WalkSpells
import Derived.RegionTactic
import Derived.BigRegion
import Derived.Deep.RegionLaw
import Derived.StillTailTactics
import Derived.Test.YtalkmhnlgfncmaaGreatDoorXSlim
set_option linter.unusedVariables false
set_option linter.unusedSimpArgs false
section
/- Calls through a function value, as rules of the walk; small facts. Conditions: as each lemma says. -/
namespace Go.Proofs.YtalkmhnlgfncmaaGreatDoor.X
open Go.RowKit Go.Proofs.YtalkmhnlgfncmaaGreatDoorW.aC Go.Proofs.YtalkmhnlgfncmaaGreatDoorW.aN Go.Proofs.YtalkmhnlgfncmaaGreatDoorW.aT
theorem jH {w w':World} (h:gQ w w'):Below w.heap.size w w':=h.below
theorem uL {w w':World} (h:Below w.heap.size w w'):Below w.heap.size w w':=h
section
variable {P:Program} {ops:Array Oper} {Q:Exit→Act→World→Prop}
/-- A call of a function value in a plain region, as an arm of go_wp2_with. -/
theorem xY {rest:List Oper} {oi:Oper} {a:Act} {w:World} (N:Option Tmp) (hd:oi.dst=N) (hg:oi.guard=none) {f:FuncId} {fn:Func} {caps:Array Value} {x:Operand} {zs:Array Operand} {ts:Array TypeId} (hf:P.funcs[f]?=some fn) (hname:(fn.name== "runtime.NumGoroutine")=false) (hb:fn.body.isSome=true) (args:Array Value)
  (hop:oi.op= .call { callee:=.value x,args:=zs,argTypes:=ts }) (hx:a.eval x= .func (.func f) #[] caps) (hargs:zs.map a.eval=args)
  (h:Calls P f (args++caps) w fun e w'=>∃ v,e= .returned v∧wpList P ops Q rest (a.put N v) w'):wpList P ops Q (oi::rest) a w:=by
 refine wpList_plain hg fun K hK=>?_
 have he:=DK hf hname hb (args++caps) w
 have hrun:(execOp a.eval oi).run P w= .ok (.enter f (args++caps)) w:=by
  unfold execOp
  simp[hop,resolve,Deferred.ofValue,invoke,hx,hargs,he]
 unfold Oper.wp
 rw[hrun,Oper.upon_enter]
 refine h.mono fun e w'' hh=>?_
 obtain⟨v,rfl,hk⟩:=hh
 subst hd
 exact hK _ _ hk
end
/-- What a closure's number, text and captured variables are. -/
structure TJ (P:Program) (f:Nat) (fn:Func):Prop where
 hf:P.funcs[f]?=some fn
 hname:(fn.name== "runtime.NumGoroutine")=false
 hb:fn.body.isSome=true
end Go.Proofs.YtalkmhnlgfncmaaGreatDoor.X
end
section
/- Graphs: rings, rounds that take vertices away, greatest delays. Plain; conditions: as each lemma says. -/
namespace Go.Proofs.YtalkmhnlgfncmaaGreatDoor.iP
theorem NG:∀ (n:Nat) (f:Nat→Nat),(∀ i,i≤n→f i<n)→∃ i j,i<j∧j≤n∧f i=f j:=by
 intro n
 induction n with
 |zero=>intro f h;exact absurd (h 0 (Nat.le_refl _)) (Nat.not_lt_zero _)
 |succ n ih=>
  intro f h
  by_cases hex:∃ i,i≤n∧f i=f (n+1)
  ·obtain⟨i,hi,e⟩:=hex
   exact⟨i,n+1,by omega,Nat.le_refl _,e⟩
  ·have hne:∀ i,i≤n→f i≠f (n+1):=fun i hi e=>hex ⟨i,hi,e⟩
   have hc:=h (n+1) (Nat.le_refl _)
   obtain⟨i,j,hij,hj,e⟩:=ih (fun i=>if f i=n then f (n+1)else f i) (by
    intro i hi
    have h1:=h i (by omega)
    have h2:=hne i hi
    show (if f i=n then f (n+1)else f i)<n
    split<;>omega)
   refine⟨i,j,hij,by omega,?_⟩
   have h1:=hne i (by omega)
   have h2:=hne j hj
   have e':(if f i=n then f (n+1)else f i)=(if f j=n then f (n+1)else f j):=e
   split at e'<;>split at e'<;>omega
inductive Plus (E:Nat→Nat→Prop):Nat→Nat→Prop
 |one {a b}:E a b→Plus E a b
 |step {a b c}:E a b→Plus E b c→Plus E a c
theorem Plus.trans {E:Nat→Nat→Prop} {a b c:Nat} (h:Plus E a b) (k:Plus E b c):Plus E a c:=by
 induction h with
 |one e=>exact .step e k
 |step e _ ih=>exact .step e (ih k)
theorem Plus.snoc {E:Nat→Nat→Prop} {a b c:Nat} (h:Plus E a b) (k:E b c):Plus E a c:=h.trans (.one k)
/-- A set of vertices of which each has one of the set ahead of it holds a vertex that comes back to itself. -/
theorem DR (E:Nat→Nat→Prop) (n:Nat) (S:Nat→Prop) (hS:∀ v,S v→v<n∧∃ u,S u∧E u v) (v0:Nat) (h0:S v0):∃ v,S v∧Plus E v v:=by
 classical
 let p:{v // S v}→{v // S v}:=fun v=>⟨Classical.choose (hS v.1 v.2).2,(Classical.choose_spec (hS v.1 v.2).2).1⟩
 have hp:∀ v,E (p v).1 v.1:=fun v=>(Classical.choose_spec (hS v.1 v.2).2).2
 let s:Nat→{v // S v}:=fun k=>Nat.rec ⟨v0,h0⟩ (fun _ x=>p x) k
 have hs:∀ k,E (s (k+1)).1 (s k).1:=fun k=>hp (s k)
 have ahI:∀ d i,Plus E (s (i+d+1)).1 (s i).1:=by
  intro d
  induction d with
  |zero=>intro i;exact .one (hs i)
  |succ d ih=>intro i;exact .step (hs (i+d+1)) (ih i)
 obtain⟨i,j,hij,_,e⟩:=NG n (fun k=>(s k).1) (fun i _=>(hS _ (s i).2).1)
 refine⟨(s i).1,(s i).2,?_⟩
 have h:=ahI (j - i - 1) i
 rw[show i+(j - i - 1)+1=j by omega]at h
 have e':(s i).1=(s j).1:=e
 rw[← e']at h
 exact h
/-- How many of the first n numbers are in a set. -/
noncomputable def cnt (p:Nat→Prop):Nat→Nat
 |0=>0
 |n+1=>open Classical in cnt p n+if p n then 1 else 0
theorem VQ (p:Nat→Prop) (n:Nat):cnt p n≤n:=by
 induction n with
 |zero=>exact Nat.le_refl _
 |succ n ih=>unfold cnt;split<;>omega
theorem cnt_mono {p q:Nat→Prop} (n:Nat) (h:∀ i,i<n→p i→q i):cnt p n≤cnt q n:=by
 induction n with
 |zero=>exact Nat.le_refl _
 |succ n ih=>
  have:=ih (fun i hi=>h i (by omega))
  unfold cnt
  by_cases hp:p n
  ·rw[if_pos hp,if_pos (h n (by omega) hp)];omega
  ·rw[if_neg hp];omega
theorem cnt_lt {p q:Nat→Prop} (n:Nat) (h:∀ i,i<n→p i→q i) (v:Nat) (hv:v<n) (hq:q v) (hp:¬p v):cnt p n<cnt q n:=by
 induction n with
 |zero=>omega
 |succ n ih=>
  unfold cnt
  by_cases e:v=n
  ·subst e
   have:=cnt_mono (p:=p) (q:=q) v (fun i hi=>h i (by omega))
   rw[if_neg hp,if_pos hq];omega
  ·have:=ih (fun i hi=>h i (by omega)) (by omega)
   by_cases hp':p n
   ·rw[if_pos hp',if_pos (h n (by omega) hp')];omega
   rw[if_neg hp'];omega
theorem Plus.last {E:Nat→Nat→Prop} {a c:Nat} (h:Plus E a c):∃ b,E b c∧(b=a∨Plus E a b):=by
 induction h with
 |one e=>exact⟨_,e,.inl rfl⟩
 |step e k ih=>
  obtain⟨b,hb,hh⟩:=ih
  refine⟨b,hb,.inr ?_⟩
  rcases hh with rfl|hh
  ·exact .one e
  ·exact .step e hh
theorem zJ {E:Nat→Nat→Prop} {v:Nat} (h:Plus E v v):∃ u,Plus E u u∧E u v:=by
 obtain⟨b,hb,hh⟩:=h.last
 rcases hh with rfl|hh
 ·exact⟨b,h,hb⟩
 exact⟨b,.step hb hh,hb⟩
/-- Rounds that take vertices away to which no edge leads from one that is left. -/
theorem aqu (E:Nat→Nat→Prop) (n:Nat) (hE:∀ a b,E a b→a<n∧b<n) (L:Nat→Nat→Prop) (h0:∀ v,v<n→L 0 v) (hlt:∀ k v,L k v→v<n)
  (hsub:∀ k v,L (k+1) v→L k v) (aqv:∀ k v,L (k+1) v→∃ u,L k u∧E u v) (hkeep:∀ k (C:Nat→Prop),(∀ v,C v→L k v)→(∀ v,C v→∃ u,C u∧E u v)→∀ v,C v→L (k+1) v):
  (∃ v,L n v)↔∃ v,Plus E v v:=by
 constructor
 ·rintro⟨v,hv⟩
  by_cases hst:∃ k,k<n∧∀ v,L k v→L (k+1) v
  ·obtain⟨k,hk,hs⟩:=hst
   have ahJ:∀ d,L (k+d) v→L k v:=by
    intro d
    induction d with
    |zero=>exact id
    |succ d ih=>exact fun h=>ih (hsub _ _ h)
   have hkv:L k v:=ahJ (n - k) (by rw[show k+(n - k)=n by omega];exact hv)
   obtain⟨u,_,hu⟩:=DR E n (L k) (fun x hx=>⟨hlt k x hx,aqv k x (hs x hx)⟩) v hkv
   exact⟨u,hu⟩
  have hlow:∀ k,k≤n→cnt (L k) n+k≤n:=by
   intro k
   induction k with
   |zero=>intro _;have:=VQ (L 0) n;omega
   |succ k ih=>
    intro hk
    have h1:=ih (by omega)
    have hns:¬ ∀ v,L k v→L (k+1) v:=fun h=>hst ⟨k,by omega,h⟩
    obtain⟨x,hx⟩:=Classical.not_forall.mp hns
    obtain⟨hx1,hx2⟩:=Classical.not_imp.mp hx
    have:=cnt_lt n (fun i _ h=>hsub k i h) x (hlt k x hx1) hx1 hx2
    omega
  have h1:=hlow n (Nat.le_refl _)
  have h2:=cnt_lt (p:=fun _=>False) (q:=L n) n (fun _ _ h=>h.elim) v (hlt n v hv) hv (fun h=>h)
  omega
 ·rintro⟨v,hv⟩
  have hall:∀ k v,Plus E v v→L k v:=by
   intro k
   induction k with
   |zero=>intro v hv;obtain⟨u,_,hu⟩:=zJ hv;exact h0 v (hE _ _ hu).2
   |succ k ih=>exact fun v hv=>hkeep k (fun x=>Plus E x x) ih (fun x hx=>zJ hx) v hv
  exact⟨v,hall n v hv⟩
/-- The greatest delay of a path that begins at a vertex. -/
structure anq (d:Nat→Int) (es:List (Nat×Nat)) (D:Nat→Int):Prop where
 own:∀ v,d v≤D v
 far:∀ e,e∈es→d e.1+D e.2≤D e.1
 att:∀ v,D v=d v∨∃ b,(v,b)∈es∧D v=d v+D b
end Go.Proofs.YtalkmhnlgfncmaaGreatDoor.iP
end
section
/- Constraints m v >= m u + x: sums along ways; short ways suffice where a solution exists. Plain; conditions: as each lemma says. -/
namespace Go.Proofs.YtalkmhnlgfncmaaGreatDoor.lU
open Go.Proofs.YtalkmhnlgfncmaaGreatDoor.iP
inductive Cw (C:Nat→Nat→Int→Prop) (n:Nat):Nat→Nat→Int→Prop
 |start {v}:v<n→Cw C n 0 v 0
 |step {m u v s x}:Cw C n m u s→C u v x→Cw C n (m+1) v (s+x)
structure Sol (C:Nat→Nat→Int→Prop) (n:Nat) (L:Nat→Int):Prop where
 pos:∀ v,v<n→0≤L v
 far:∀ u v x,C u v x→L u+x≤L v
variable {C:Nat→Nat→Int→Prop} {n:Nat} {L:Nat→Int}
theorem Sol.ge (h:Sol C n L) {m v:Nat} {s:Int} (hw:Cw C n m v s):s≤L v:=by
 induction hw with
 |start hv=>exact h.pos _ hv
 |step _ hc ih=>have:=h.far _ _ _ hc;omega
theorem Cw.lt (hC:∀ u v x,C u v x→u<n∧v<n) {m v:Nat} {s:Int} (hw:Cw C n m v s):v<n:=by
 cases hw with
 |start hv=>exact hv
 |step _ hc=>exact(hC _ _ _ hc).2
theorem Cw.eqv {m v:Nat} {s t:Int} (h:Cw C n m v s) (e:s=t):Cw C n m v t:=e ▸ h
theorem chain {m v:Nat} {s:Int} (h:Cw C n m v s):∃ (p:Nat→Nat) (q:Nat→Int),p m=v∧q m=s∧(∀ i,i≤m→Cw C n i (p i) (q i))∧∀ i,i<m→∃ x,C (p i) (p (i+1)) x∧q (i+1)=q i+x:=by
 induction h with
 |@start v hv=>
  refine⟨fun _=>v,fun _=>0,rfl,rfl,fun i hi=>?_,fun i hi=>by omega⟩
  have:i=0:=by omega
  subst this
  exact .start hv
 |@step m u v s x h hc ih=>
  obtain⟨p,q,e1,e2,h3,h4⟩:=ih
  refine⟨fun i=>if i=m+1 then v else p i,fun i=>if i=m+1 then s+x else q i,by simp,by simp,fun i hi=>?_,fun i hi=>?_⟩
  ·by_cases e:i=m+1
   ·subst e;simp only[if_true];exact h.step hc
   simp only[if_neg e];exact h3 i (by omega)
  ·by_cases e:i=m
   ·subst e
    refine⟨x,?_,?_⟩
    ·simp only[if_neg (show ¬i=i+1 by omega),if_true];rw[e1];exact hc
    simp only[if_neg (show ¬i=i+1 by omega),if_true];rw[e2]
   obtain⟨y,g1,g2⟩:=h4 i (by omega)
   refine⟨y,?_,?_⟩
   ·simp only[if_neg (show ¬i=m+1 by omega),if_neg (show ¬i+1=m+1 by omega)];exact g1
   simp only[if_neg (show ¬i=m+1 by omega),if_neg (show ¬i+1=m+1 by omega)];exact g2
theorem short (hC:∀ u v x,C u v x→u<n∧v<n) (hL:Sol C n L):∀ (m v:Nat) (s:Int),Cw C n m v s→∃ m' s',m'<n∧s≤s'∧Cw C n m' v s':=by
 intro m
 induction m using Nat.strongRecOn with
 |_ m ih=>
  intro v s h
  by_cases hm:m<n
  ·exact⟨m,s,hm,Int.le_refl _,h⟩
  ·obtain⟨p,q,e1,e2,h3,h4⟩:=chain h
   obtain⟨i,j,hij,hj,he⟩:=NG n p (fun i hi=>(h3 i (by omega)).lt hC)
   have hseg:∀ e,i+e≤m→L (p i)+(q (i+e) - q i)≤L (p (i+e)):=by
    intro e
    induction e with
    |zero=>intro _;simp
    |succ e ihe=>
     intro hle
     obtain⟨x,g1,g2⟩:=h4 (i+e) (by omega)
     have a1:=ihe (by omega)
     have a2:=hL.far _ _ _ g1
     rw[← Nat.add_assoc,g2]
     omega
   have hle:=hseg (j - i) (by omega)
   rw[show i+(j - i)=j by omega, ← he]at hle
   have hk:∀ k,j+k≤m→Cw C n (i+k) (p (j+k)) (q (j+k) - (q j - q i)):=by
    intro k
    induction k with
    |zero=>intro _;have:=h3 i (by omega);rw[he]at this;exact this.eqv (by simp only[Nat.add_zero];omega)
    |succ k ihk=>
     intro hk
     obtain⟨x,g1,g2⟩:=h4 (j+k) (by omega)
     exact((ihk (by omega)).step g1).eqv (by rw[show j+(k+1)=j+k+1 by omega,g2];omega)
   have:=hk (m - j) (by omega)
   rw[show j+(m - j)=m by omega,e1,e2]at this
   obtain⟨m',s',r1,r2,r3⟩:=ih _ (by omega) v _ this
   exact⟨m',s',r1,by omega,r3⟩
/-! ### Rounds that raise -/
abbrev Ed:Type:=Nat×Nat×Int
abbrev Mv:Type:=(Nat→Int)×Bool
def up (s:Mv) (e:Ed):Mv:=if s.1 e.2.1<s.1 e.1+e.2.2 then(fun v=>if v=e.2.1 then s.1 e.1+e.2.2 else s.1 v,true)else s
def ups (es:List Ed) (s:Mv):Mv:=es.foldl up s
theorem acY (s:Mv) (e:Ed) (v:Nat):s.1 v≤(up s e).1 v:=by
 unfold up
 split
 ·show s.1 v≤if v=e.2.1 then s.1 e.1+e.2.2 else s.1 v
  split
  ·subst_vars;omega
  exact Int.le_refl _
 exact Int.le_refl _
theorem VR (s:Mv) (e:Ed):s.1 e.1+e.2.2≤(up s e).1 e.2.1:=by
 unfold up
 split
 ·show _≤if e.2.1=e.2.1 then _ else _
  rw[if_pos rfl];exact Int.le_refl _
 omega
theorem Gd:∀ (es:List Ed) (s:Mv) (v:Nat),s.1 v≤(ups es s).1 v
 |[],_,_=>Int.le_refl _
 |e::es,s,v=>Int.le_trans (acY s e v) (Gd es (up s e) v)
theorem NH:∀ (es:List Ed) (s:Mv) (e:Ed),e∈es→s.1 e.1+e.2.2≤(ups es s).1 e.2.1
 |[],_,_,h=>by cases h
 |d::es,s,e,h=>by
  rcases List.mem_cons.1 h with rfl|h
  ·exact Int.le_trans (VR s e) (Gd es (up s e) _)
  ·have h1:=NH es (up s d) e h
   have h2:=acY s d e.1
   show _≤(ups es (up s d)).1 e.2.1
   omega
theorem DT:∀ (es:List Ed) (s:Mv),(ups es s).2=false→s.2=false∧ups es s=s∧∀ e,e∈es→s.1 e.1+e.2.2≤s.1 e.2.1
 |[],s,h=>⟨h,rfl,fun e he=>by cases he⟩
 |d::es,s,h=>by
  obtain⟨h1,h2,h3⟩:=DT es (up s d) h
  by_cases hc:s.1 d.2.1<s.1 d.1+d.2.2
  ·unfold up at h1;rw[if_pos hc]at h1;cases h1
  ·have e:up s d=s:=by unfold up;rw[if_neg hc]
   rw[e]at h1 h2 h3
   refine⟨h1,(show ups es (up s d)=s by rw[e];exact h2),fun x hx=>?_⟩
   rcases List.mem_cons.1 hx with rfl|hx
   ·omega
   exact h3 x hx
theorem Gf:∀ (es:List Ed) (s:Mv),(∀ e,e∈es→s.1 e.1+e.2.2≤s.1 e.2.1)→ups es s=s
 |[],_,_=>rfl
 |d::es,s,h=>by
  have h0:=h d (List.mem_cons_self ..)
  have e:up s d=s:=by unfold up;rw[if_neg (by omega)]
  show ups es (up s d)=s
  rw[e]
  exact Gf es s fun x hx=>h x (List.mem_cons_of_mem _ hx)
def Snd (C:Nat→Nat→Int→Prop) (n:Nat) (f:Nat→Int):Prop:=∀ v,v<n→∃ m,Cw C n m v (f v)
def Far (C:Nat→Nat→Int→Prop) (n k:Nat) (f:Nat→Int):Prop:=∀ m v s,m≤k→Cw C n m v s→s≤f v
theorem Iz (hC:∀ u v x,C u v x→u<n∧v<n):∀ (es:List Ed) (s:Mv),(∀ e,e∈es→C e.1 e.2.1 e.2.2)→Snd C n s.1→Snd C n (ups es s).1
 |[],_,_,h=>h
 |e::es,s,he,h=>by
  refine Iz hC es (up s e) (fun x hx=>he x (List.mem_cons_of_mem _ hx)) fun v hv=>?_
  have hc:=he e (List.mem_cons_self ..)
  unfold up
  split
  ·show ∃ m,Cw C n m v (if v=e.2.1 then s.1 e.1+e.2.2 else s.1 v)
   split
   ·obtain⟨m,hm⟩:=h e.1 (hC _ _ _ hc).1
    subst_vars
    exact⟨m+1,hm.step hc⟩
   exact h v hv
  ·exact h v hv
theorem KQ {es:List Ed} (hs:∀ u v x,C u v x→(u,v,x)∈es) {k:Nat} {s:Mv} (h:Far C n k s.1):Far C n (k+1) (ups es s).1:=by
 intro m v t hm hw
 cases hw with
 |start hv=>exact Int.le_trans (h 0 v 0 (Nat.zero_le _) (.start hv)) (Gd es s v)
 |step h1 hc=>
  have a1:=h _ _ _ (by omega) h1
  have a2:=NH es s _ (hs _ _ _ hc)
  simp only at a2
  omega
theorem NI (hC:∀ u v x,C u v x→u<n∧v<n) (hL:Sol C n L) {es:List Ed} (he:∀ e,e∈es→C e.1 e.2.1 e.2.2) {s:Mv} (hs:Snd C n s.1) (h:Far C n (n - 1) s.1):ups es s=s:=by
 refine Gf es s fun e hm=>?_
 have hc:=he e hm
 obtain⟨m,hw⟩:=hs e.1 (hC _ _ _ hc).1
 obtain⟨m',s',g1,g2,g3⟩:=short hC hL _ _ _ (hw.step hc)
 have:=h m' e.2.1 s' (by omega) g3
 omega
end Go.Proofs.YtalkmhnlgfncmaaGreatDoor.lU
end
section
namespace Go.Proofs.YtalkmhnlgfncmaaGreatDoor.X
open Go.RowKit Go.Proofs.YtalkmhnlgfncmaaGreatDoorW.aC Go.Proofs.YtalkmhnlgfncmaaGreatDoorW.aN Go.Proofs.YtalkmhnlgfncmaaGreatDoorW.aT
attribute [local go_sem] fq fu gJ gK dN dO fA fB
def anr:Option Int→Value
 |none=> .nilIface
 |some c=> .iface 138 (.int .i64 c)
theorem Gg:anr none= .nilIface:=rfl
theorem Gh (c:Int):anr (some c)= .iface 138 (.int .i64 c):=rfl
theorem sS:(Tryz.prog.info? 2).map (fun i=>(i.zero,i.size,i.bytes))=some (some (.int .i64 0),1,8):=by kernel_rfl
theorem acZ:(Tryz.prog.info? 9).map (fun i=>(i.zero,i.size,i.bytes))=some (some (.string ⟨#[]⟩),1,16):=by kernel_rfl
theorem CZ:(Tryz.prog.info? 40).map (fun i=>(i.zero,i.size,i.bytes))=some (some (.agg #[(.int .i64 0),(.int .i64 0),(.int .i64 0)]),3,24):=by kernel_rfl
/-! #### struct type 40 -/
structure S40 where
 f0:Int
 f1:Int
 f2:Int
def z40:S40:=⟨(0:Int),(0:Int),(0:Int)⟩
def k40:Kd S40:=Kd.iso (Kd.pair (Kd.int .i64) (Kd.pair (Kd.int .i64) (Kd.int .i64))) (fun x:S40=>(x.f0,x.f1,x.f2))
theorem KR {w:World} {x:S40} {cs:List Value} (h:k40.K w x cs):cs=[.int .i64 x.f0,.int .i64 x.f1,.int .i64 x.f2]:=by
 obtain⟨_,_,rfl,rfl,⟨_,_,rfl,rfl,rfl⟩⟩:=h
 exact rfl
theorem ac0 (w:World) (x:S40):k40.K w x [.int .i64 x.f0,.int .i64 x.f1,.int .i64 x.f2]:=⟨[.int .i64 x.f0],[.int .i64 x.f1,.int .i64 x.f2],rfl,rfl,⟨[.int .i64 x.f1],[.int .i64 x.f2],rfl,rfl,rfl⟩⟩
theorem zK (w:World) (base:Nat) (ok:Nat→Prop) (x:S40):k40.M w base ok x [.int .i64 x.f0,.int .i64 x.f1,.int .i64 x.f2]:=⟨[.int .i64 x.f0],[.int .i64 x.f1,.int .i64 x.f2],rfl,rfl,⟨[.int .i64 x.f1],[.int .i64 x.f2],rfl,rfl,rfl⟩⟩
def au (xs:List S40) (i:Int):S40:=xs.getD i.toNat z40
theorem kH {w:World} {A:Option Addr} {n:Nat} {xs:List S40} (h:Kd.C k40 w A n xs) (i:Int) (h0:0≤i) (h1:i<n):∃ ad,A=some ad∧w.cell? (ad.add (i.toNat*3))=some (.int .i64 (au xs i).f0)∧w.cell? ⟨(ad.add (i.toNat*3)).block,(ad.add (i.toNat*3)).off+1,none⟩=some (.int .i64 (au xs i).f1)∧w.cell? ⟨(ad.add (i.toNat*3)).block,(ad.add (i.toNat*3)).off+2,none⟩=some (.int .i64 (au xs i).f2):=by
 obtain⟨ad,c,e,_,hK,hc0⟩:=Kd.Xy h z40 i h0 h1
 have hc:∀ j u,c[j]?=some u→w.cell? (ad.add (i.toNat*3+j))=some u:=hc0
 obtain rfl:=KR hK
 exact⟨ad,e,hc 0 _ rfl,by rw[← vO _ _ 1 (by omega)];exact hc 1 _ rfl,by rw[← vO _ _ 2 (by omega)];exact hc 2 _ rfl⟩
/-! #### struct type 68 -/
structure S68 where
 f0:Int
 f1:Int
 f2:Bool
def z68:S68:=⟨(0:Int),(0:Int),false⟩
def k68:Kd S68:=Kd.iso (Kd.pair (Kd.int .i64) (Kd.pair (Kd.int .i64) Kd.bool)) (fun x:S68=>(x.f0,x.f1,x.f2))
theorem TK {w:World} {x:S68} {cs:List Value} (h:k68.K w x cs):cs=[.int .i64 x.f0,.int .i64 x.f1,.bool x.f2]:=by
 obtain⟨_,_,rfl,rfl,⟨_,_,rfl,rfl,rfl⟩⟩:=h
 exact rfl
theorem XL (w:World) (base:Nat) (ok:Nat→Prop) (x:S68):k68.M w base ok x [.int .i64 x.f0,.int .i64 x.f1,.bool x.f2]:=⟨[.int .i64 x.f0],[.int .i64 x.f1,.bool x.f2],rfl,rfl,⟨[.int .i64 x.f1],[.bool x.f2],rfl,rfl,rfl⟩⟩
def pU (xs:List S68) (i:Int):S68:=xs.getD i.toNat z68
theorem KS {w:World} {A:Option Addr} {n:Nat} {xs:List S68} (h:Kd.C k68 w A n xs) (i:Int) (h0:0≤i) (h1:i<n):∃ ad,A=some ad∧w.cell? (ad.add (i.toNat*3))=some (.int .i64 (pU xs i).f0)∧w.cell? ⟨(ad.add (i.toNat*3)).block,(ad.add (i.toNat*3)).off+1,none⟩=some (.int .i64 (pU xs i).f1)∧w.cell? ⟨(ad.add (i.toNat*3)).block,(ad.add (i.toNat*3)).off+2,none⟩=some (.bool (pU xs i).f2):=by
 obtain⟨ad,c,e,_,hK,hc0⟩:=Kd.Xy h z68 i h0 h1
 have hc:∀ j u,c[j]?=some u→w.cell? (ad.add (i.toNat*3+j))=some u:=hc0
 obtain rfl:=TK hK
 exact⟨ad,e,hc 0 _ rfl,by rw[← vO _ _ 1 (by omega)];exact hc 1 _ rfl,by rw[← vO _ _ 2 (by omega)];exact hc 2 _ rfl⟩
def nT (xs:List (List S68)) (i:Int):(List S68):=xs.getD i.toNat ([]:List S68)
theorem TL {w:World} {A:Option Addr} {n:Nat} {xs:List (List S68)} (h:Kd.C (Kd.slice 68 k68) w A n xs) (i:Int) (h0:0≤i) (h1:i<n):∃ ad A0 c0,A=some ad∧w.cell? (ad.add i.toNat)=some (.slice A0 (nT xs i).length c0)∧(nT xs i).length≤c0∧k68.C w A0 (nT xs i).length (nT xs i):=by
 obtain⟨ad,c,e,_,hK,hc0⟩:=Kd.Xy h ([]:List S68) i h0 h1
 have hc:∀ j u,c[j]?=some u→w.cell? (ad.add (i.toNat*1+j))=some u:=hc0
 obtain⟨A0,c0,rfl,l0,g0⟩:=hK
 exact⟨ad,A0,c0,e,by have hq:=hc 0 _ rfl;rwa [Nat.mul_one,Nat.add_zero]at hq,l0,g0⟩
end Go.Proofs.YtalkmhnlgfncmaaGreatDoor.X
end
section
/- The library's Clone of a slice of whole numbers. Conditions: none. -/
namespace Go.Proofs.YtalkmhnlgfncmaaGreatDoor.X
open Go.RowKit Go.Proofs.YtalkmhnlgfncmaaGreatDoorW.aC Go.Proofs.YtalkmhnlgfncmaaGreatDoorW.aN Go.Proofs.YtalkmhnlgfncmaaGreatDoorW.aT
def fZ.f (l0:List Int):Option (List Int):=if l0.length<17592186044416 then some l0 else none
set_option maxHeartbeats 8000000 in
set_option maxRecDepth 100000 in
theorem LZ (ad:Addr) (c0:Nat) (l0 r:List Int) (w:World) (hr0:Kd.C (Kd.int .i64) w (some ad) l0.length l0) (hlen:l0.length<17592186044416) (hr:r=l0):
  Calls Tryz.prog 58 #[.slice (some ad) l0.length c0] w fun e w'=>∃ v0_:Value,e= .returned (v0_)∧Kd.R (Kd.int .i64) 2 w' w.heap.size (fun _=>True) v0_ r∧Below w.heap.size w w':=by
 have HR0:=ah.mk hr0
 clear hr0
 have HB:=ah.mk (Below.refl w.heap.size w)
 obtain⟨ahK,TM⟩:∃ y_:List Int,y_=(([]:List Int)):=⟨_,rfl⟩
 have ac1:=ah.mk TM
 have ahL:ah (ahK.length+l0.length<17592186044416):=⟨by rw[TM];simpa using hlen⟩
 obtain⟨aqw,XM⟩:∃ y_:List Int,y_=(ahK++l0):=⟨_,rfl⟩
 have ahM:=ah.mk XM
 have HE:ah (aqw=r):=⟨by rw[XM,TM,hr];rfl⟩
 clear TM XM hr hlen
 have e1:=fun(W:World)=>Lib.run_eql_slice_nil (P:=Tryz.prog) W 24 2 (some ad) l0.length c0 0 0 Tryz.underlying24
 go_enter Tryz.func58,Tryz.ntmps58
 go_wp2_with (first|((with_reducible refine aH (N:=5) rfl ?_);refine Kd.vR (Kd.int .i64) _ 2 ?hg (N:=5) ?hd (xs:=([]:List Int)) (inner:=[]) (ok:=fun _=>True) (okp:=fun _=>True) ?hr ?hp (fun _ hk=>hk) trivial (Below.refl _ _) (Nat.le_refl _) (by simp) ?_;(case hd=>rfl);(case hg=>rfl);(case hr=>exact qz1);(case hp=>exact(jO.none _ _));intro aqx w3 ho4 hb hg_ lF;clear hg_ lF;(first|rw[← ac1.out]at ho4|(simp only[Int.reduceToNat]at ho4;rw[← ac1.out]at ho4));have ac2:=ah.mk (Kd.dV ho4 (aG (qz0 HB)));replace HB:=ah.mk (av (qz0 HB) hb);clear hb ho4)|((with_reducible refine gI (b:=.append) (xs:=#[.tmp 5,.tmp 6]) rfl ?_);at_builtin;refine Kd.vS (Kd.int .i64) (w0:=w) w.heap.size rfl (.tmp 5) (.tmp 6) 24 2 (.int .i64 0) 8 rfl Tryz.underlying24 sS rfl (by decide) (by omega) aqx ahK l0 _ _ _ (fun _=>True) (fun _=>False) rfl rfl ?aO ?aR (fun _ _ h=>h) (fun _ h=>h.elim) ?aF ?aB ?aS ?aL ?_;(case aR=>exact qz2 HR0 HB);(case aB=>exact(qz0 HB));(case aF=>exact(fun _ _=>trivial));(case aO=>exact(cK ac2));(case aS=>exact(aG (qz0 HB)));(case aL=>exact qz3 ahL);intro auC w5 ho hb hg hat;rw[← ahM.out]at ho;replace HB:=ah.mk (hb);have ahN:=ah.mk (ho);clear ac2;clear ho hb hg hat))
 go_ret
 exact⟨_,rfl,by refine qpr ?_;rw[← HE.out];exact ahN.out,qz0 HB⟩
set_option maxHeartbeats 8000000 in
set_option maxRecDepth 100000 in
theorem Ma (c0:Nat) (w:World):
  Calls Tryz.prog 58 #[.slice none 0 c0] w fun e w'=>∃ v0_:Value,e= .returned (v0_)∧Kd.R (Kd.int .i64) 2 w' w.heap.size (fun _=>True) v0_ []∧Below w.heap.size w w':=by
 have e1:=fun(W:World)=>Lib.run_eql_slice_nil (P:=Tryz.prog) W 24 2 none 0 c0 0 0 Tryz.underlying24
 go_enter Tryz.func58,Tryz.ntmps58
 go_wp2
 go_ret
 exact⟨_,rfl,Kd.Cq _ _ _ _ _,Below.refl _ _⟩
theorem fZ.calls (A0:Option Addr) (c0:Nat) (l0:List Int) (r:List Int) (w:World) (hr0:Kd.C (Kd.int .i64) w A0 l0.length l0) (hc0:True) (h:fZ.f l0=some r):
  Calls Tryz.prog 58 #[.slice A0 l0.length c0] w fun e w'=>∃ v0_:Value,e= .returned (v0_)∧Kd.R (Kd.int .i64) 2 w' w.heap.size (fun _=>True) v0_ r∧Below w.heap.size w w':=by
 unfold fZ.f at h
 by_cases hl:l0.length<17592186044416
 ·rw[if_pos hl]at h
  have hr:=(Option.some.inj h).symm
  cases A0 with
  |some ad=>exact LZ ad c0 l0 r w hr0 hl hr
  |none=>
   have e:l0=[]:=by
    rcases l0 with _|⟨x,l⟩
    ·rfl
    obtain⟨ad,h1,_⟩:=hr0.2.2 (by simp)
    cases h1
   subst e
   subst hr
   exact Ma c0 w
 ·rw[if_neg hl]at h
  exact absurd h (by simp)
end Go.Proofs.YtalkmhnlgfncmaaGreatDoor.X
end
section
/- Lists that are held against each other, marked, and held against their marks: what the laws' own functions tell. Conditions: as each lemma says. -/
namespace Go.Proofs.YtalkmhnlgfncmaaGreatDoor.X
open Go.RowKit Go.Proofs.YtalkmhnlgfncmaaGreatDoorW.aC Go.Proofs.YtalkmhnlgfncmaaGreatDoorW.aN Go.Proofs.YtalkmhnlgfncmaaGreatDoorW.aT
theorem w64 {n:Int} (h0: -9223372036854775808≤n) (h1:n≤9223372036854775807):wrap64 n=n:=by unfold wrap64;omega
theorem ahO (a b:Int):mx a b=max a b:=by unfold mx;split<;>omega
theorem XO {a b:Int} (h:0≤a):Int.tmod a b=a % b:=Int.tmod_eq_emod_of_nonneg h
theorem qQ (l:List Int) (i:Nat) (h:i<l.length):rd l (i:Int)=l[i]:=by
 unfold rd
 simp[h]
end Go.Proofs.YtalkmhnlgfncmaaGreatDoor.X
end
section
namespace Go.Proofs.YtalkmhnlgfncmaaGreatDoor.X
open Go.RowKit Go.Proofs.YtalkmhnlgfncmaaGreatDoorW.aC Go.Proofs.YtalkmhnlgfncmaaGreatDoorW.aN Go.Proofs.YtalkmhnlgfncmaaGreatDoorW.aT
attribute [local go_sem] fq fu gJ gK dN dO fA fB
/-! ### impl_between_isBetter: function 38 -/
def gF.f (uM:Int) (yO:Int) (Tc:Bool) (yP:Int) (KT:Int) (XP:Bool):Option (Bool):=if Tc=true then(if XP=true then(if uM<yP then(some true)else(if uM=yP then(some (decide (yO>KT)))else(some false)))else(some Tc))else(some Tc)
set_option maxHeartbeats 8000000 in
set_option maxRecDepth 100000 in
theorem gF.calls (uM:Int) (yO:Int) (Tc:Bool) (yP:Int) (KT:Int) (XP:Bool) (r:Bool) (w:World) (h:gF.f uM yO Tc yP KT XP=some r):
  Calls Tryz.prog 38 #[.agg #[.int .i64 uM,.int .i64 yO,.bool Tc],.agg #[.int .i64 yP,.int .i64 KT,.bool XP]] w fun e w'=>e= .returned (.bool r)∧Below w.heap.size w w':=by
 have aqy:=Tryz.underlying68
 have HB:=ah.mk (Below.refl w.heap.size w)
 have H:(if Tc=true then(if XP=true then(if uM<yP then(some true)else(if uM=yP then(some (decide (yO>KT)))else(some false)))else(some Tc))else(some Tc))=some r:=h
 clear h
 by_cases c3:Tc=true
 ·subst c3
  rw[if_pos rfl]at H
  by_cases c4:XP=true
  ·subst c4
   rw[if_pos rfl]at H
   by_cases c5:uM<yP
   ·rw[if_pos c5]at H
    have Cx:decide (uM<yP)=true:=decide_eq_true c5
    clear c5
    obtain rfl:=Option.some.inj H
    go_enter Tryz.func38,Tryz.ntmps38
    go_wp2_with (first|((with_reducible refine aH (N:=2) rfl ?_);refine qbx (N:=2) (cs:=#[.int .i64 uM,.int .i64 yO,.bool true]) (t:=68) ?_;intro jk hg w6 bR hb;have jl:=ah.mk (bR);have TN:=ah.mk ((mK HB:w.heap.size≤jk));have oZ:=ah.mk ((mK HB:w.heap.size≤jk));replace HB:=ah.mk (av (qz0 HB) hb);clear hb bR hg)|((with_reducible refine aH (N:=3) rfl ?_);refine qbx (N:=3) (cs:=#[.int .i64 yP,.int .i64 KT,.bool true]) (t:=68) ?_;intro kZ hg w7 bR hb;have nU:=ah.mk (bR);have TP:=ah.mk ((wU HB oZ:w.heap.size≤kZ));have DU:=ah.mk ((wU HB oZ:w.heap.size≤kZ));replace HB:=ah.mk (av (qz4 HB oZ) hb);have nH:=ah.mk ((qz5:jk≠kZ));have nI:=ah.mk ((qz6:kZ≠jk));replace jl:=ah.mk (aA (g:=jk) (o:=.cells #[.int .i64 uM,.int .i64 yO,.bool true] 68 (0,0)) (dP jl) hb);clear hb bR hg;have aqz:=nH.out;have aqA:=nI.out;have VT:w7.cell? ⟨jk,0,none⟩=some (.int .i64 uM):=(aj jl.out 0).trans rfl;have VU:w7.cell? ⟨jk,1,none⟩=some (.int .i64 yO):=(aj jl.out 1).trans rfl;have ac3:w7.cell? ⟨jk,2,none⟩=some (.bool true):=(aj jl.out 2).trans rfl;have ac4:=ak jl.out 0;have VW:=ak jl.out 1;have ac5:=ak jl.out 2;have IB:w7.cell? ⟨kZ,0,none⟩=some (.int .i64 yP):=(aj nU.out 0).trans rfl;have IC:w7.cell? ⟨kZ,1,none⟩=some (.int .i64 KT):=(aj nU.out 1).trans rfl;have ahP:w7.cell? ⟨kZ,2,none⟩=some (.bool true):=(aj nU.out 2).trans rfl;have NJ:=ak nU.out 0;have NK:=ak nU.out 1;have ahQ:=ak nU.out 2))
    go_ret
    exact⟨qz7,qz8 HB oZ DU⟩
   rw[if_neg c5]at H
   have Cx:decide (uM<yP)=false:=decide_eq_false c5
   clear c5
   by_cases c11:uM=yP
   ·rw[if_pos c11]at H
    have Mc:(uM==yP)=true:=beq_iff_eq.mpr c11
    have ahR:(uM !=yP)=false:=bne_eq_false_iff_eq.mpr c11
    clear c11
    obtain rfl:=Option.some.inj H
    go_enter Tryz.func38,Tryz.ntmps38
    go_wp2_with (first|((with_reducible refine aH (N:=2) rfl ?_);refine qbx (N:=2) (cs:=#[.int .i64 uM,.int .i64 yO,.bool true]) (t:=68) ?_;intro jk hg w12 bR hb;have jl:=ah.mk (bR);have TN:=ah.mk ((mK HB:w.heap.size≤jk));have oZ:=ah.mk ((mK HB:w.heap.size≤jk));replace HB:=ah.mk (av (qz0 HB) hb);clear hb bR hg)|((with_reducible refine aH (N:=3) rfl ?_);refine qbx (N:=3) (cs:=#[.int .i64 yP,.int .i64 KT,.bool true]) (t:=68) ?_;intro kZ hg w13 bR hb;have nU:=ah.mk (bR);have TP:=ah.mk ((wU HB oZ:w.heap.size≤kZ));have DU:=ah.mk ((wU HB oZ:w.heap.size≤kZ));replace HB:=ah.mk (av (qz4 HB oZ) hb);have nH:=ah.mk ((qz5:jk≠kZ));have nI:=ah.mk ((qz6:kZ≠jk));replace jl:=ah.mk (aA (g:=jk) (o:=.cells #[.int .i64 uM,.int .i64 yO,.bool true] 68 (0,0)) (dP jl) hb);clear hb bR hg;have XQ:=nH.out;have XR:=nI.out;have DV:w13.cell? ⟨jk,0,none⟩=some (.int .i64 uM):=(aj jl.out 0).trans rfl;have DW:w13.cell? ⟨jk,1,none⟩=some (.int .i64 yO):=(aj jl.out 1).trans rfl;have DX:w13.cell? ⟨jk,2,none⟩=some (.bool true):=(aj jl.out 2).trans rfl;have DY:=ak jl.out 0;have DZ:=ak jl.out 1;have Ea:=ak jl.out 2;have IE:w13.cell? ⟨kZ,0,none⟩=some (.int .i64 yP):=(aj nU.out 0).trans rfl;have IG:w13.cell? ⟨kZ,1,none⟩=some (.int .i64 KT):=(aj nU.out 1).trans rfl;have ahS:w13.cell? ⟨kZ,2,none⟩=some (.bool true):=(aj nU.out 2).trans rfl;have II:=ak nU.out 0;have IJ:=ak nU.out 1;have ahT:=ak nU.out 2))
    go_ret
    exact⟨qz7,qz8 HB oZ DU⟩
   rw[if_neg c11]at H
   have Mc:(uM==yP)=false:=beq_eq_false_iff_ne.mpr c11
   have ahR:(uM !=yP)=true:=bne_iff_ne.mpr c11
   obtain rfl:=Option.some.inj H
   go_enter Tryz.func38,Tryz.ntmps38
   go_wp2_with (first|((with_reducible refine aH (N:=2) rfl ?_);refine qbx (N:=2) (cs:=#[.int .i64 uM,.int .i64 yO,.bool true]) (t:=68) ?_;intro jk hg w17 bR hb;have jl:=ah.mk (bR);have TN:=ah.mk ((mK HB:w.heap.size≤jk));have oZ:=ah.mk ((mK HB:w.heap.size≤jk));replace HB:=ah.mk (av (qz0 HB) hb);clear hb bR hg)|((with_reducible refine aH (N:=3) rfl ?_);refine qbx (N:=3) (cs:=#[.int .i64 yP,.int .i64 KT,.bool true]) (t:=68) ?_;intro kZ hg w18 bR hb;have nU:=ah.mk (bR);have TP:=ah.mk ((wU HB oZ:w.heap.size≤kZ));have DU:=ah.mk ((wU HB oZ:w.heap.size≤kZ));replace HB:=ah.mk (av (qz4 HB oZ) hb);have nH:=ah.mk ((qz5:jk≠kZ));have nI:=ah.mk ((qz6:kZ≠jk));replace jl:=ah.mk (aA (g:=jk) (o:=.cells #[.int .i64 uM,.int .i64 yO,.bool true] 68 (0,0)) (dP jl) hb);clear hb bR hg;have ahU:=nH.out;have ahV:=nI.out;have NM:w18.cell? ⟨jk,0,none⟩=some (.int .i64 uM):=(aj jl.out 0).trans rfl;have NP:w18.cell? ⟨jk,1,none⟩=some (.int .i64 yO):=(aj jl.out 1).trans rfl;have NQ:w18.cell? ⟨jk,2,none⟩=some (.bool true):=(aj jl.out 2).trans rfl;have NR:=ak jl.out 0;have NS:=ak jl.out 1;have NT:=ak jl.out 2;have NU:w18.cell? ⟨kZ,0,none⟩=some (.int .i64 yP):=(aj nU.out 0).trans rfl;have NV:w18.cell? ⟨kZ,1,none⟩=some (.int .i64 KT):=(aj nU.out 1).trans rfl;have ahW:w18.cell? ⟨kZ,2,none⟩=some (.bool true):=(aj nU.out 2).trans rfl;have NW:=ak nU.out 0;have NY:=ak nU.out 1;have ahX:=ak nU.out 2))
   go_ret
   exact⟨qz7,qz8 HB oZ DU⟩
  replace c4:=Bool.eq_false_iff.mpr c4
  subst c4
  rw[if_neg (show ¬(false=true) by decide)]at H
  obtain rfl:=Option.some.inj H
  go_enter Tryz.func38,Tryz.ntmps38
  go_wp2_with (first|((with_reducible refine aH (N:=2) rfl ?_);refine qbx (N:=2) (cs:=#[.int .i64 uM,.int .i64 yO,.bool true]) (t:=68) ?_;intro jk hg w22 bR hb;have jl:=ah.mk (bR);have TN:=ah.mk ((mK HB:w.heap.size≤jk));have oZ:=ah.mk ((mK HB:w.heap.size≤jk));replace HB:=ah.mk (av (qz0 HB) hb);clear hb bR hg)|((with_reducible refine aH (N:=3) rfl ?_);refine qbx (N:=3) (cs:=#[.int .i64 yP,.int .i64 KT,.bool false]) (t:=68) ?_;intro kZ hg w23 bR hb;have nU:=ah.mk (bR);have TP:=ah.mk ((wU HB oZ:w.heap.size≤kZ));have DU:=ah.mk ((wU HB oZ:w.heap.size≤kZ));replace HB:=ah.mk (av (qz4 HB oZ) hb);have nH:=ah.mk ((qz5:jk≠kZ));have nI:=ah.mk ((qz6:kZ≠jk));replace jl:=ah.mk (aA (g:=jk) (o:=.cells #[.int .i64 uM,.int .i64 yO,.bool true] 68 (0,0)) (dP jl) hb);clear hb bR hg;have ac6:=nH.out;have ac7:=nI.out;have Eb:w23.cell? ⟨jk,0,none⟩=some (.int .i64 uM):=(aj jl.out 0).trans rfl;have Ec:w23.cell? ⟨jk,1,none⟩=some (.int .i64 yO):=(aj jl.out 1).trans rfl;have ahY:w23.cell? ⟨jk,2,none⟩=some (.bool true):=(aj jl.out 2).trans rfl;have Ee:=ak jl.out 0;have Ef:=ak jl.out 1;have ahZ:=ak jl.out 2;have Eh:w23.cell? ⟨kZ,0,none⟩=some (.int .i64 yP):=(aj nU.out 0).trans rfl;have Ei:w23.cell? ⟨kZ,1,none⟩=some (.int .i64 KT):=(aj nU.out 1).trans rfl;have NZ:w23.cell? ⟨kZ,2,none⟩=some (.bool false):=(aj nU.out 2).trans rfl;have Ej:=ak nU.out 0;have El:=ak nU.out 1;have Oa:=ak nU.out 2))
  go_ret
  exact⟨qz7,qz8 HB oZ DU⟩
 ·replace c3:=Bool.eq_false_iff.mpr c3
  subst c3
  rw[if_neg (show ¬(false=true) by decide)]at H
  obtain rfl:=Option.some.inj H
  go_enter Tryz.func38,Tryz.ntmps38
  go_wp2_with (first|((with_reducible refine aH (N:=2) rfl ?_);refine qbx (N:=2) (cs:=#[.int .i64 uM,.int .i64 yO,.bool false]) (t:=68) ?_;intro jk hg w27 bR hb;have jl:=ah.mk (bR);have TN:=ah.mk ((mK HB:w.heap.size≤jk));have oZ:=ah.mk ((mK HB:w.heap.size≤jk));replace HB:=ah.mk (av (qz0 HB) hb);clear hb bR hg)|((with_reducible refine aH (N:=3) rfl ?_);refine qbx (N:=3) (cs:=#[.int .i64 yP,.int .i64 KT,.bool XP]) (t:=68) ?_;intro kZ hg w28 bR hb;have nU:=ah.mk (bR);have TP:=ah.mk ((wU HB oZ:w.heap.size≤kZ));have DU:=ah.mk ((wU HB oZ:w.heap.size≤kZ));replace HB:=ah.mk (av (qz4 HB oZ) hb);have nH:=ah.mk ((by rw[hg];exact Nat.ne_of_lt (gD (g:=jk) (o:=.cells #[.int .i64 uM,.int .i64 yO,.bool false] 68 (0,0)) (dP jl)):jk≠kZ));have nI:=ah.mk ((by rw[hg];exact Nat.ne_of_gt (gD (g:=jk) (o:=.cells #[.int .i64 uM,.int .i64 yO,.bool false] 68 (0,0)) (dP jl)):kZ≠jk));replace jl:=ah.mk (aA (g:=jk) (o:=.cells #[.int .i64 uM,.int .i64 yO,.bool false] 68 (0,0)) (dP jl) hb);clear hb bR hg;have ac8:=nH.out;have ac9:=nI.out;have Ob:w28.cell? ⟨jk,0,none⟩=some (.int .i64 uM):=(aj jl.out 0).trans rfl;have Oc:w28.cell? ⟨jk,1,none⟩=some (.int .i64 yO):=(aj jl.out 1).trans rfl;have Od:w28.cell? ⟨jk,2,none⟩=some (.bool false):=(aj jl.out 2).trans rfl;have Oe:=ak jl.out 0;have Og:=ak jl.out 1;have Oh:=ak jl.out 2))
  go_ret
  exact⟨qz7,qz8 HB oZ DU⟩
end Go.Proofs.YtalkmhnlgfncmaaGreatDoor.X
end
section
/- A square table of structs in memory, and the closure that puts a better one into it. Conditions: as each lemma says. -/
namespace Go.Proofs.YtalkmhnlgfncmaaGreatDoor.X
open Go.RowKit Go.Proofs.YtalkmhnlgfncmaaGreatDoorW.aC Go.Proofs.YtalkmhnlgfncmaaGreatDoorW.aN Go.Proofs.YtalkmhnlgfncmaaGreatDoorW.aT
/-- What paths between two vertices have. -/
structure Bt where
 r:Int
 d:Int
 f:Bool
def btr (x y:Bt):Bool:=if x.f=true then(if y.f=true then(if x.r<y.r then true else(if x.r=y.r then decide (x.d>y.d)else false))else true)else false
theorem ada (x y:Bt):gF.f x.r x.d x.f y.r y.d y.f=some (btr x y):=by
 unfold gF.f btr
 cases x.f<;>cases y.f<;>by_cases h1:x.r<y.r<;>by_cases h2:x.r=y.r<;>simp[h1,h2]
def upd (M:Nat→Nat→Bt) (i j:Nat) (x:Bt):Nat→Nat→Bt:=fun a b=>if a=i∧b=j then x else M a b
/-- The table lies in memory of the call's own: a box with the rows' slice, the rows, their cells. -/
structure sU (B n:Nat) (w:World) (g3 GR:Nat) (Gs:Nat→Nat) (cR:Nat) (M:Nat→Nat→Bt):Prop where
 b3:w.heap[g3]?=some (.cells #[.slice (some ⟨GR,0,none⟩) n cR] 49 (0,0))
 row:∃ cells,w.heap[GR]?=some (.cells cells 69 (0,0))∧(cells.size=cR∧n≤cR∧cR≤maxLen)∧∀ i,i<n→cells[i]?=some (.slice (some ⟨Gs i,0,none⟩) n n)
 blk:∀ i,i<n→∃ cells,w.heap[Gs i]?=some (.cells cells 68 (0,0))∧cells.size=n*3∧∀ j,j<n→cells[j*3]?=some (.int .i64 (M i j).r)∧cells[j*3+1]?=some (.int .i64 (M i j).d)∧cells[j*3+2]?=some (.bool (M i j).f)
 inj:∀ i j,i<n→j<n→Gs i=Gs j→i=j
 h3:B≤g3
 hR:B≤GR
 hs:∀ i,i<n→B≤Gs i
variable {B n:Nat} {w:World} {g3 GR:Nat} {Gs:Nat→Nat} {cR:Nat} {M:Nat→Nat→Bt}
theorem sU.keep (h:sU B n w g3 GR Gs cR M) {w1:World} (hk:∀ k o,w.heap[k]?=some o→(k=g3∨k=GR∨∃ i,i<n∧k=Gs i)→w1.heap[k]?=some o):sU B n w1 g3 GR Gs cR M:=
 { h with
  b3:=hk _ _ h.b3 (.inl rfl)
  row:=by obtain⟨cells,h1,h2⟩:=h.row;exact⟨cells,hk _ _ h1 (.inr (.inl rfl)),h2⟩
  blk:=fun i hi=>by obtain⟨cells,h1,h2⟩:=h.blk i hi;exact⟨cells,hk _ _ h1 (.inr (.inr ⟨i,hi,rfl⟩)),h2⟩ }
theorem sU.move (h:sU B n w g3 GR Gs cR M) {w1:World} (hb:Below w.heap.size w w1):sU B n w1 g3 GR Gs cR M:=
 h.keep fun k o ho _=>(hb.block k (gD ho)).trans ho
theorem sU.drew (h:sU B n w g3 GR Gs cR M):sU B n w.drew g3 GR Gs cR M:=h.move (bG (Below.refl _ _))
theorem sU.alloc (h:sU B n w g3 GR Gs cR M) (o:Obj):sU B n (w.alloc o) g3 GR Gs cR M:=h.move (bg (Below.refl _ _) _)
/-- A write into a block of another type. -/
theorem sU.far (h:sU B n w g3 GR Gs cR M) {g:Nat} {cs:Array Value} {t:TypeId} (hg:w.heap[g]?=some (.cells cs t (0,0))) (h1:49≠t) (h2:69≠t) (h3:68≠t) (j:Nat) (u:Value):sU B n (w.setCell ⟨g,j,none⟩ u) g3 GR Gs cR M:=
 h.keep fun k o ho hk=>by
  refine(Below.heap_setCell w ⟨g,j,none⟩ u k ?_).trans ho
  rcases hk with rfl|rfl|⟨i,hi,rfl⟩
  ·exact jq h.b3 hg h1
  ·obtain⟨cells,q1,_⟩:=h.row;exact jq q1 hg h2
  obtain⟨cells,q1,_⟩:=h.blk i hi;exact jq q1 hg h3
theorem sU.c3 (h:sU B n w g3 GR Gs cR M):w.cell? ⟨g3,0,none⟩=some (.slice (some ⟨GR,0,none⟩) n cR):=(aj h.b3 0).trans rfl
theorem sU.af7 (h:sU B n w g3 GR Gs cR M) (i:Nat) (hi:i<n):w.cell? ⟨GR,i,none⟩=some (.slice (some ⟨Gs i,0,none⟩) n n):=by
 obtain⟨cells,q1,_,q2⟩:=h.row;rw[aj q1];exact q2 i hi
theorem sU.cM (h:sU B n w g3 GR Gs cR M) (i j:Nat) (hi:i<n) (hj:j<n):w.cell? ⟨Gs i,j*3,none⟩=some (.int .i64 (M i j).r)∧w.cell? ⟨Gs i,j*3+1,none⟩=some (.int .i64 (M i j).d)∧w.cell? ⟨Gs i,j*3+2,none⟩=some (.bool (M i j).f):=by
 obtain⟨cells,q1,_,q2⟩:=h.blk i hi;rw[aj q1,aj q1,aj q1];exact q2 j hj
theorem sU.zM (h:sU B n w g3 GR Gs cR M) (i:Nat) (hi:i<n) (o:Nat):w.frozen? ⟨Gs i,o,none⟩=false:=by
 obtain⟨cells,q1,q2⟩:=h.blk i hi;exact ak q1 o
theorem XT (cs:Array Value) (p q:Nat) (u:Value):(cs.setIfInBounds p u)[q]?=if p=q then(if p<cs.size then some u else none)else cs[q]?:=Array.getElem?_setIfInBounds
/-- A struct put into its place. -/
theorem sU.put (h:sU B n w g3 GR Gs cR M) (i j:Nat) (hi:i<n) (hj:j<n) (x:Bt):
  sU B n (((w.setCell ⟨Gs i,j*3,none⟩ (.int .i64 x.r)).setCell ⟨Gs i,j*3+1,none⟩ (.int .i64 x.d)).setCell ⟨Gs i,j*3+2,none⟩ (.bool x.f)) g3 GR Gs cR (upd M i j x):=by
 obtain⟨ci,q1,qz,q2⟩:=h.blk i hi
 have p1:=aW q1 (j*3) (.int .i64 x.r) rfl
 have p2:=aW p1 (j*3+1) (.int .i64 x.d) rfl
 have p3:=aW p2 (j*3+2) (.bool x.f) rfl
 have far:∀ (k:Nat) (o:Obj),w.heap[k]?=some o→k≠Gs i→(((w.setCell ⟨Gs i,j*3,none⟩ (.int .i64 x.r)).setCell ⟨Gs i,j*3+1,none⟩ (.int .i64 x.d)).setCell ⟨Gs i,j*3+2,none⟩ (.bool x.f)).heap[k]?=some o:=fun k o ho hk=>
  (Below.heap_setCell _ ⟨Gs i,j*3+2,none⟩ _ k hk).trans ((Below.heap_setCell _ ⟨Gs i,j*3+1,none⟩ _ k hk).trans ((Below.heap_setCell w ⟨Gs i,j*3,none⟩ _ k hk).trans ho))
 exact { h with
  b3:=far _ _ h.b3 (jq h.b3 q1 (by decide))
  row:=by obtain⟨cells,r1,r2⟩:=h.row;exact⟨cells,far _ _ r1 (jq r1 q1 (by decide)),r2⟩
  blk:=fun a ha=>by
   by_cases e:a=i
   ·subst e
    refine⟨_,p3,by simpa only[Array.size_setIfInBounds]using qz,fun b hb=>?_⟩
    obtain⟨k1,k2,k3⟩:=q2 b hb
    obtain⟨l1,l2,l3⟩:=q2 j hj
    have s1:=(Array.getElem?_eq_some_iff.1 l1).1
    have s2:=(Array.getElem?_eq_some_iff.1 l2).1
    have s3:=(Array.getElem?_eq_some_iff.1 l3).1
    simp only[XT,Array.size_setIfInBounds]
    unfold upd
    by_cases eb:b=j
    ·subst eb
     simp[s1,s2,s3]
    rw[if_neg (show ¬(a=a∧b=j) from fun hh=>eb hh.2),if_neg (by omega),if_neg (by omega),if_neg (by omega),if_neg (by omega),if_neg (by omega),if_neg (by omega),if_neg (by omega),if_neg (by omega),if_neg (by omega)]
    exact⟨k1,k2,k3⟩
   obtain⟨cells,r1,rz,r2⟩:=h.blk a ha
   refine⟨cells,far _ _ r1 (fun hh=>e (h.inj a i ha hi hh)),rz,fun b hb=>?_⟩
   unfold upd
   rw[if_neg (show ¬(a=i∧b=j) from fun hh=>e hh.1)]
   exact r2 b hb }
/-- append to a row of the call's own, as one step of a region that draws its order. -/
theorem zO {P:Program} {ops:Array Oper} {o:Oper} {a:Act} {w:World} {K:Act→World→Prop} {Q:Exit→Act→World→Prop} {E:Prop} (hgd:o.guard=none) (s x:Operand) (t:TypeId)
  (ho:o.op=Op.call { callee:=Callee.builtin Builtin.append,args:=#[s,x],argTypes:=#[t,t] }) (e:TypeId) (z:Value) (bytes:Nat)
  (ht:P.underlying t=some (.slice e)) (hinfo:(P.info? e).map (fun i=>(i.zero,i.size,i.bytes))=some (some z,1,bytes)) (hz:z.cells.size=1) (hb0:0<bytes)
  (base:Nat) (v:Value) (n:Nat) (xs:List Value) (hs:a.eval s=v) (ad:Addr) (c:Nat) (y:Value) (hx:a.eval x= .slice (some ad) 1 c) (hc:w.cell? ad=some y) (h1:y.oneCell'=true)
  (HO:w.ownsRow base e 1 v n xs) (hbase:base≤w.heap.size) (hl:(n+1)*bytes≤140737488355328)
  (hK:∀ v' w',w'.ownsRow base e 1 v' (n+1) (xs++[y])→w.grownBy w' v.ownBlock→(v'.ownBlock=v.ownBlock∨∃ b,v'.ownBlock=some b∧w.heap.size≤b)→K (a.put o.dst v') w'):
  if Region.wanted o (yielded ops a.tmps)=true then Oper.wp P o a w K Q else E:=by
 have hw:Region.wanted o (yielded ops a.tmps)=true:=by simp[Region.wanted,hgd]
 rw[if_pos hw]
 obtain⟨i0,hi,hzz⟩:=Option.map_eq_some_iff.1 hinfo
 simp only[Prod.mk.injEq]at hzz
 obtain⟨hz0,hz1,hz2⟩:=hzz
 have hlen:n+1≤140737488355328:=Nat.le_trans (Nat.le_mul_of_pos_right _ hb0) hl
 obtain⟨v1,w1,hr,h2,h3,_,h5⟩:=run_append_own_at (P:=P) (w:=w) base t o.type e i0 z 1 bytes ht hi hz0 hz1 hz2 hz (by omega) v n xs HO ad 1 c [y] rfl
  (fun j u hj=>by
   cases j with
   |zero=>rw[← Option.some.inj hj];simpa [Addr.add]using hc
   |succ j=>simp at hj)
  (by intro u hu;obtain rfl:=List.mem_singleton.1 hu;exact h1) (by simp only[maxLen];omega) hl hbase
 unfold Oper.wp
 simp[execOp,ho,resolve,invoke,builtin,hs,hx,hr,Result.andThen]
 refine hK v1 w1 h2 h3 ?_
 rcases h5 with h5|h5
 ·exact .inl h5
 ·exact .inr ⟨_,h5,Nat.le_refl _⟩
end Go.Proofs.YtalkmhnlgfncmaaGreatDoor.X
end
section
/- Ways through a net: those of the least key; rounds that put better ones find them. Plain; conditions: as each lemma says. -/
namespace Go.Proofs.YtalkmhnlgfncmaaGreatDoor.jF
open Go.Proofs.YtalkmhnlgfncmaaGreatDoor.X Go.Proofs.YtalkmhnlgfncmaaGreatDoor.iP
set_option linter.unusedSectionVars false
/-- A way of m wires from a to v, with its key. -/
inductive T (E:Nat→Nat→Int→Prop) (d:Nat→Int) (a:Nat):Nat→Nat→Int→Prop
 |one {v c}:E a v c→T E d a 1 v (1000000*c - d a - d v)
 |snoc {m u v x c}:T E d a m u x→E u v c→T E d a (m+1) v (x+1000000*c - d v)
structure Net (E:Nat→Nat→Int→Prop) (d:Nat→Int) (n:Nat):Prop where
 n8:n≤8
 lt:∀ u v c,E u v c→u<n∧v<n∧0≤c∧c≤20
 del:∀ v,0≤d v∧d v≤100
 ac:∀ v,¬Plus (fun u v=>E u v 0) v v
variable {E:Nat→Nat→Int→Prop} {d:Nat→Int} {n:Nat} {a:Nat}
theorem T.eqv {m v:Nat} {x y:Int} (h:T E d a m v x) (e:x=y):T E d a m v y:=e ▸ h
theorem T.cons {m v:Nat} {x:Int} (h:T E d a m v x) {u:Nat} {c:Int} (hE:E u a c):T E d u (m+1) v (x+1000000*c - d u):=by
 induction h with
 |one h=>exact((T.one hE).snoc h).eqv (by omega)
 |snoc _ h ih=>exact(ih.snoc h).eqv (by omega)
theorem T.rev {m v:Nat} {x:Int} (h:T E d a m v x):T (fun u v c=>E v u c) d v m a x:=by
 induction h with
 |@one v c h=>exact(T.one (E:=fun u v c=>E v u c) (d:=d) (a:=v) (v:=a) (c:=c) h).eqv (by omega)
 |@snoc m u v x c _ h ih=>exact ih.cons h
theorem T.pos {m v:Nat} {x:Int} (h:T E d a m v x):1≤m:=by cases h<;>omega
theorem T.lt (hN:Net E d n) {m v:Nat} {x:Int} (h:T E d a m v x):v<n:=by
 cases h with
 |one h=>exact(hN.lt _ _ _ h).2.1
 |snoc _ h=>exact(hN.lt _ _ _ h).2.1
theorem chain {m v:Nat} {x:Int} (h:T E d a m v x):∃ (p:Nat→Nat) (q:Nat→Int),p m=v∧q m=x∧(∀ i,1≤i→i≤m→T E d a i (p i) (q i))∧∀ i,1≤i→i<m→∃ c,E (p i) (p (i+1)) c∧q (i+1)=q i+1000000*c - d (p (i+1)):=by
 induction h with
 |@one v c h=>
  refine⟨fun _=>v,fun _=>_,rfl,rfl,fun i h1 h2=>?_,fun i h1 h2=>by omega⟩
  have:i=1:=by omega
  subst this
  exact .one h
 |@snoc m u v x c h hE ih=>
  obtain⟨p,q,e1,e2,h3,h4⟩:=ih
  refine⟨fun i=>if i=m+1 then v else p i,fun i=>if i=m+1 then x+1000000*c - d v else q i,by simp,by simp,fun i h1 h2=>?_,fun i h1 h2=>?_⟩
  ·by_cases e:i=m+1
   ·subst e;simp only[if_true];exact h.snoc hE
   simp only[if_neg e];exact h3 i h1 (by omega)
  ·by_cases e:i=m
   ·subst e
    refine⟨c,?_,?_⟩
    ·simp only[if_neg (show ¬i=i+1 by omega),if_true];rw[e1];exact hE
    simp only[if_neg (show ¬i=i+1 by omega),if_true];rw[e2]
   obtain⟨c',g1,g2⟩:=h4 i h1 (by omega)
   refine⟨c',?_,?_⟩
   ·simp only[if_neg (show ¬i=m+1 by omega),if_neg (show ¬i+1=m+1 by omega)];exact g1
   simp only[if_neg (show ¬i=m+1 by omega),if_neg (show ¬i+1=m+1 by omega)];exact g2
theorem seg (hN:Net E d n) {p:Nat→Nat} {q:Nat→Int} {m:Nat} (h4:∀ i,1≤i→i<m→∃ c,E (p i) (p (i+1)) c∧q (i+1)=q i+1000000*c - d (p (i+1))) (i:Nat) (hi:1≤i):∀ e:Nat,i+e≤m→
  q i≤q (i+e)+100*e∧((e=0∨Plus (fun u v=>E u v 0) (p i) (p (i+e)))∨q i+1000000≤q (i+e)+100*e)
 |0,_=>⟨by simp,.inl (.inl rfl)⟩
 |e+1,he=>by
  obtain⟨h1,h2⟩:=seg hN h4 i hi e (by omega)
  obtain⟨c,g1,g2⟩:=h4 (i+e) (by omega) (by omega)
  rw[Nat.add_assoc]at g1 g2
  have hd:=hN.del (p (i+(e+1)))
  have hc:=hN.lt _ _ _ g1
  by_cases c0:c=0
  ·subst c0
   refine⟨by omega,?_⟩
   rcases h2 with(h2|h2)|h2
   ·subst h2;exact .inl (.inr (.one g1))
   ·exact .inl (.inr (h2.snoc g1))
   exact .inr (by omega)
  ·exact⟨by omega,.inr (by omega)⟩
/-- No way is better than a short one. -/
theorem short (hN:Net E d n):∀ (m v:Nat) (x:Int),T E d a m v x→∃ m' x',m'≤n∧x'≤x∧T E d a m' v x':=by
 intro m
 induction m using Nat.strongRecOn with
 |_ m ih=>
  intro v x h
  by_cases hm:m≤n
  ·exact⟨m,x,hm,Int.le_refl _,h⟩
  ·obtain⟨p,q,e1,e2,h3,h4⟩:=chain h
   obtain⟨i,j,hij,hj,he⟩:=NG n (fun i=>p (i+1)) (fun i hi=>(h3 (i+1) (by omega) (by omega)).lt hN)
   have he:p (i+1)=p (j+1):=he
   obtain⟨s1,s2⟩:=seg hN h4 (i+1) (by omega) (j - i) (by omega)
   rw[show i+1+(j - i)=j+1 by omega]at s1 s2
   have hn:=hN.n8
   have hlt:q (i+1)<q (j+1):=by
    rcases s2 with(s2|s2)|s2
    ·omega
    ·rw[← he]at s2;exact absurd s2 (hN.ac _)
    omega
   have hk:∀ k,j+1+k≤m→T E d a (i+1+k) (p (j+1+k)) (q (j+1+k) - (q (j+1) - q (i+1))):=by
    intro k
    induction k with
    |zero=>intro _;have:=h3 (i+1) (by omega) (by omega);rw[he]at this;exact this.eqv (by simp only[Nat.add_zero];omega)
    |succ k ihk=>
     intro hk
     obtain⟨c,g1,g2⟩:=h4 (j+1+k) (by omega) (by omega)
     exact((ihk (by omega)).snoc g1).eqv (by rw[show j+1+(k+1)=j+1+k+1 by omega,g2];omega)
   have:=hk (m - (j+1)) (by omega)
   rw[show j+1+(m - (j+1))=m by omega,e1,e2]at this
   obtain⟨m',x',r1,r2,r3⟩:=ih _ (by omega) v _ this
   exact⟨m',x',r1,by omega,r3⟩
/-! ### Labels -/
def key (x:Bt):Int:=1000000*x.r - x.d
def Bd (t:Nat) (x:Bt):Prop:=x.f=true→0≤x.r∧x.r≤20*t∧0≤x.d∧x.d≤100*t
theorem Bd.up {t t':Nat} {x:Bt} (h:Bd t x) (ht:t≤t'):Bd t' x:=fun hf=>by have:=h hf;omega
def Le (x y:Bt):Prop:=y.f=true→x.f=true∧key x≤key y
def hit (x:Bt) (c:Int):Prop:=x.f=true∧key x≤c
theorem Le.refl (x:Bt):Le x x:=fun h=>⟨h,Int.le_refl _⟩
theorem Le.trans {x y z:Bt} (h:Le x y) (k:Le y z):Le x z:=fun hz=>by
 obtain⟨h1,h2⟩:=k hz
 obtain⟨h3,h4⟩:=h h1
 exact⟨h3,by omega⟩
theorem hit.le {x y:Bt} {c:Int} (h:hit y c) (k:Le x y):hit x c:=by
 obtain⟨h1,h2⟩:=k h.1
 exact⟨h1,by have:=h.2;omega⟩
theorem Em {t:Nat} (ht:t≤9000) {x y:Bt} (hx:Bd t x) (hy:Bd t y) (hf:x.f=true):btr x y=true↔(y.f=true→key x<key y):=by
 unfold btr key
 rw[if_pos hf]
 have bx:=hx hf
 cases hg:y.f with
 |false=>simp
 |true=>
  have bye:=hy hg
  simp only[if_true]
  by_cases h1:x.r<y.r
  ·rw[if_pos h1];simp;omega
  ·rw[if_neg h1]
   by_cases h2:x.r=y.r
   ·rw[if_pos h2];simp;omega
   rw[if_neg h2];simp;omega
theorem vX {x y:Bt} (hf:x.f=false):btr x y=false:=by unfold btr;rw[if_neg (by rw[hf];decide)]
def pick (x y:Bt):Bt:=if btr x y=true then x else y
theorem TQ {t:Nat} (ht:t≤9000) {x y:Bt} (hx:Bd t x) (hy:Bd t y):Le (pick x y) y:=by
 unfold pick
 cases hf:x.f with
 |false=>rw[vX hf];exact Le.refl _
 |true=>
  by_cases hb:btr x y=true
  ·rw[if_pos hb];intro hg;exact⟨hf,by have:=(Em ht hx hy hf).1 hb hg;omega⟩
  ·rw[if_neg hb];exact Le.refl _
theorem TR {t:Nat} (ht:t≤9000) {x y:Bt} (hx:Bd t x) (hy:Bd t y):Le (pick x y) x:=by
 intro hf
 unfold pick
 by_cases hb:btr x y=true
 ·rw[if_pos hb];exact⟨hf,Int.le_refl _⟩
 rw[if_neg hb]
 rw[Em ht hx hy hf]at hb
 by_cases hg:y.f=true
 ·exact⟨hg,by have:¬key x<key y:=(fun h=>hb fun _=>h);omega⟩
 exact absurd (fun h=>absurd h hg) hb
section
variable {N:Type} [DecidableEq N]
def rlx (L:N→Bt) (v:N) (x:Bt):N→Bt:=fun u=>if u=v then pick x (L v)else L u
theorem Oi {t:Nat} {L:N→Bt} (h:∀ u,Bd t (L u)) {v:N} {x:Bt} (hx:Bd t x):∀ u,Bd t (rlx L v x u):=by
 intro u
 unfold rlx
 split
 ·unfold pick;split
  ·exact hx
  exact h v
 exact h u
theorem Oj {t:Nat} (ht:t≤9000) {L:N→Bt} (h:∀ u,Bd t (L u)) {v:N} {x:Bt} (hx:Bd t x) (u:N):Le (rlx L v x u) (L u):=by
 unfold rlx
 split
 ·subst_vars;exact TQ ht hx (h _)
 exact Le.refl _
theorem XU {t:Nat} (ht:t≤9000) {L:N→Bt} (h:∀ u,Bd t (L u)) {v:N} {x:Bt} (hx:Bd t x):Le (rlx L v x v) x:=by
 unfold rlx
 rw[if_pos rfl]
 exact TR ht hx (h _)
theorem En {L:N→Bt} {v:N} {x:Bt} (hb:btr x (L v)=false):rlx L v x=L:=by
 funext u
 unfold rlx pick
 by_cases e:u=v
 ·rw[if_pos e,hb,e];rfl
 rw[if_neg e]
inductive Ev (N:Type)
 |base (v:N) (c e:Int)
 |link (u v:N) (c e:Int)
def ext (x:Bt) (c e:Int):Bt:=⟨x.r+c,x.d+e,x.f⟩
def Ev.at:Ev N→N
 | .base v _ _=>v
 | .link _ v _ _=>v
def Ev.cand (L:N→Bt):Ev N→Bt
 | .base _ c e=>⟨c,e,true⟩
 | .link u _ c e=>ext (L u) c e
def Ev.ok:Ev N→Prop
 | .base _ c e=>0≤c∧c≤20∧0≤e∧e≤200
 | .link _ _ c e=>0≤c∧c≤20∧0≤e∧e≤100
def step1 (s:(N→Bt)×Bool) (e:Ev N):(N→Bt)×Bool:=(rlx s.1 e.at (e.cand s.1),s.2||btr (e.cand s.1) (s.1 e.at))
def run (evs:List (Ev N)) (s:(N→Bt)×Bool):(N→Bt)×Bool:=evs.foldl step1 s
theorem zP {t:Nat} (h1:1≤t) {L:N→Bt} (h:∀ u,Bd t (L u)) {e:Ev N} (he:e.ok):Bd (t+1) (e.cand L):=by
 cases e with
 |base v c e=>intro _;unfold Ev.ok at he;unfold Ev.cand;simp only at he ⊢;omega
 |link u v c e=>intro hf;have:=h u hf;unfold Ev.ok at he;unfold Ev.cand ext;simp only at he ⊢;omega
theorem Gi:∀ (evs:List (Ev N)) (t:Nat) (s:(N→Bt)×Bool),1≤t→(∀ e,e∈evs→e.ok)→(∀ u,Bd t (s.1 u))→∀ u,Bd (t+evs.length) ((run evs s).1 u)
 |[],_,_,_,_,h=>h
 |e::evs,t,s,h1,he,h=>fun u=>by
  have hb:=Oi (L:=s.1) (v:=e.at) (fun u=>(h u).up (Nat.le_succ t)) (zP h1 h (he e (List.mem_cons_self ..)))
  have:=Gi evs (t+1) (step1 s e) (by omega) (fun x hx=>he x (List.mem_cons_of_mem _ hx)) hb u
  rw[List.length_cons,show t+(evs.length+1)=t+1+evs.length by omega]
  exact this
theorem Ol:∀ (evs:List (Ev N)) (t:Nat) (s:(N→Bt)×Bool),1≤t→t+evs.length≤9000→(∀ e,e∈evs→e.ok)→(∀ u,Bd t (s.1 u))→∀ u,Le ((run evs s).1 u) (s.1 u)
 |[],_,_,_,_,_,_,_=>Le.refl _
 |e::evs,t,s,h1,ht,he,h,u=>by
  rw[List.length_cons]at ht
  have hc:=zP h1 h (he e (List.mem_cons_self ..))
  have hb:=Oi (L:=s.1) (v:=e.at) (fun u=>(h u).up (Nat.le_succ t)) hc
  have:=Ol evs (t+1) (step1 s e) (by omega) (by omega) (fun x hx=>he x (List.mem_cons_of_mem _ hx)) hb u
  exact this.trans (Oj (t:=t+1) (by omega) (fun u=>(h u).up (Nat.le_succ t)) hc u)
/-- An event of the round: its candidate, as it stood ahead of the round, is met behind it. -/
theorem IK:∀ (evs:List (Ev N)) (t:Nat) (s:(N→Bt)×Bool),1≤t→t+evs.length≤9000→(∀ e,e∈evs→e.ok)→(∀ u,Bd t (s.1 u))→∀ e,e∈evs→∀ x,hit (e.cand s.1) x→hit ((run evs s).1 e.at) x
 |[],_,_,_,_,_,_,_,h,_,_=>by cases h
 |e::evs,t,s,h1,ht,he,h,e0,h0,x,hx=>by
  rw[List.length_cons]at ht
  have hc:=zP h1 h (he e (List.mem_cons_self ..))
  have hup:∀ u,Bd (t+1) (s.1 u):=fun u=>(h u).up (Nat.le_succ t)
  have hb:=Oi (L:=s.1) (v:=e.at) hup hc
  have hr:∀ x,x∈evs→x.ok:=fun x hx=>he x (List.mem_cons_of_mem _ hx)
  rcases List.mem_cons.1 h0 with rfl|h0
  ·have k1:hit ((step1 s e0).1 e0.at) x:=hx.le (XU (t:=t+1) (by omega) hup hc)
   exact k1.le (Ol evs (t+1) (step1 s e0) (by omega) (by omega) hr hb e0.at)
  ·refine IK evs (t+1) (step1 s e) (by omega) (by omega) hr hb e0 h0 x ?_
   cases e0 with
   |base v c e=>exact hx
   |link u v c b=>
    have hl:Le ((step1 s e).1 u) (s.1 u):=Oj (t:=t+1) (by omega) hup hc u
    obtain⟨g1,g2⟩:=hx
    obtain⟨g3,g4⟩:=hl g1
    refine⟨g3,?_⟩
    unfold Ev.cand ext key at g2 ⊢
    unfold key at g4
    simp only at g2 ⊢
    omega
theorem Eo:∀ (evs:List (Ev N)) (s:(N→Bt)×Bool),(run evs s).2=false→s.2=false∧run evs s=s∧∀ e,e∈evs→btr (e.cand s.1) (s.1 e.at)=false
 |[],s,h=>⟨h,rfl,fun e he=>by cases he⟩
 |e::evs,s,h=>by
  obtain⟨h1,h2,h3⟩:=Eo evs (step1 s e) h
  have h1':(s.2||btr (e.cand s.1) (s.1 e.at))=false:=h1
  rw[Bool.or_eq_false_iff]at h1'
  have es:step1 s e=s:=by
   unfold step1
   rw[En h1'.2,h1'.1,h1'.2]
   exact Prod.ext rfl h1'.1.symm
  refine⟨h1'.1,h2.trans es,fun x hx=>?_⟩
  rcases List.mem_cons.1 hx with rfl|hx
  ·exact h1'.2
  ·have:=h3 x hx;rw[es]at this;exact this
theorem Gj:∀ (evs:List (Ev N)) (s:(N→Bt)×Bool),(∀ e,e∈evs→btr (e.cand s.1) (s.1 e.at)=false)→run evs s=s
 |[],s,_=>rfl
 |e::evs,s,h=>by
  have h0:=h e (List.mem_cons_self ..)
  have es:step1 s e=s:=by
   unfold step1
   rw[En h0,h0,Bool.or_false]
  show run evs (step1 s e)=s
  rw[es]
  exact Gj evs s fun x hx=>h x (List.mem_cons_of_mem _ hx)
/-- The ways of a net, and the events that make them. -/
structure VX (W:Nat→N→Int→Prop) (evs:List (Ev N)) (n:Nat):Prop where
 n8:n≤8
 few:evs.length≤200
 ok:∀ e,e∈evs→e.ok
 base:∀ v c e,Ev.base v c e∈evs→W 1 v (1000000*c - e)
 link:∀ u v c e m x,Ev.link u v c e∈evs→W m u x→W (m+1) v (x+1000000*c - e)
 back:∀ m v x,W (m+2) v x→∃ u x' c e,W (m+1) u x'∧Ev.link u v c e∈evs∧x=x'+1000000*c - e
 pos:∀ m v x,W m v x→1≤m
 short:∀ m v x,W m v x→∃ m' x',m'≤n∧x'≤x∧W m' v x'
variable {W:Nat→N→Int→Prop} {evs:List (Ev N)}
def Sound (W:Nat→N→Int→Prop) (L:N→Bt):Prop:=∀ v,(L v).f=true→∃ m,W m v (key (L v))
def Prog (W:Nat→N→Int→Prop) (k:Nat) (L:N→Bt):Prop:=∀ m v x,m≤k→W m v x→hit (L v) x
def Full (W:Nat→N→Int→Prop) (L:N→Bt):Prop:=∀ m v x,W m v x→hit (L v) x
theorem Da (hW:VX W evs n) {L:N→Bt} (h:Sound W L) {e:Ev N} (he:e∈evs) (hf:(e.cand L).f=true):∃ m,W m e.at (key (e.cand L)):=by
 cases e with
 |base v c e=>exact⟨1,hW.base v c e he⟩
 |link u v c e=>
  obtain⟨m,hm⟩:=h u hf
  refine⟨m+1,?_⟩
  have:=hW.link u v c e m _ he hm
  have ek:key (Ev.cand L (.link u v c e))=key (L u)+1000000*c - e:=by unfold Ev.cand ext key;simp only;omega
  rw[ek];exact this
theorem Gl (hW:VX W evs n):∀ (l:List (Ev N)) (s:(N→Bt)×Bool),(∀ e,e∈l→e∈evs)→Sound W s.1→Sound W (run l s).1
 |[],_,_,h=>h
 |e::l,s,hl,h=>by
  refine Gl hW l (step1 s e) (fun x hx=>hl x (List.mem_cons_of_mem _ hx)) fun v hv=>?_
  have hv:(rlx s.1 e.at (e.cand s.1) v).f=true:=hv
  show ∃ m,W m v (key (rlx s.1 e.at (e.cand s.1) v))
  unfold rlx pick at hv ⊢
  by_cases ev:v=e.at
  ·rw[if_pos ev]at hv ⊢
   by_cases hb:btr (e.cand s.1) (s.1 e.at)=true
   ·rw[if_pos hb]at hv ⊢
    rw[ev];exact Da hW h (hl e (List.mem_cons_self ..)) hv
   rw[if_neg hb]at hv ⊢;rw[ev];exact h _ hv
  ·rw[if_neg ev]at hv ⊢;exact h _ hv
theorem Om (hW:VX W evs n) {t:Nat} (h1:1≤t) (ht:t+evs.length≤9000) {s:(N→Bt)×Bool} (hb:∀ u,Bd t (s.1 u)) {k:Nat} (hp:Prog W k s.1) (h0:∀ v x,W 1 v x→hit ((run evs s).1 v) x):Prog W (k+1) (run evs s).1:=by
 intro m v x hm hw
 match m,hm,hw with
 |0,_,hw=>exact absurd (hW.pos _ _ _ hw) (by omega)
 |1,_,hw=>exact h0 v x hw
 |m+2,hm,hw=>
  obtain⟨u,x',c,e,g1,g2,rfl⟩:=hW.back m v x hw
  have hh:=hp _ _ _ (by omega) g1
  refine IK evs t s h1 ht hW.ok hb _ g2 _ ⟨hh.1,?_⟩
  have:=hh.2
  unfold Ev.cand ext key
  unfold key at this
  simp only
  omega
theorem Oo (hW:VX W evs n) {L:N→Bt} (hp:Prog W n L):Full W L:=by
 intro m v x hw
 obtain⟨m',x',g1,g2,g3⟩:=hW.short m v x hw
 have:=hp _ _ _ g1 g3
 exact⟨this.1,by have:=this.2;omega⟩
theorem Md (hW:VX W evs n) {t:Nat} (h1:1≤t) (ht:t+1≤9000) {s:(N→Bt)×Bool} (hb:∀ u,Bd t (s.1 u)) (hs:Sound W s.1) (hf:Full W s.1):run evs s=s:=by
 refine Gj evs s fun e he=>?_
 cases hc:(e.cand s.1).f with
 |false=>exact vX hc
 |true=>
  obtain⟨m,hm⟩:=Da hW hs he hc
  have hh:=hf _ _ _ hm
  cases hbb:btr (e.cand s.1) (s.1 e.at)with
  |false=>rfl
  |true=>
   have:=(Em (t:=t+1) ht (zP h1 hb (hW.ok e he)) ((hb _).up (Nat.le_succ t)) hc).1 hbb hh.1
   have:=hh.2
   omega
theorem Me (hW:VX W evs n) {t:Nat} (h1:1≤t) (ht:t+1≤9000) {s:(N→Bt)×Bool} (hb:∀ u,Bd t (s.1 u)) (h0:∀ v x,W 1 v x→hit (s.1 v) x) (hf:(run evs s).2=false):Full W s.1:=by
 obtain⟨_,_,h3⟩:=Eo evs s hf
 intro m
 induction m with
 |zero=>intro v x hw;exact absurd (hW.pos _ _ _ hw) (by omega)
 |succ m ih=>
  intro v x hw
  cases m with
  |zero=>exact h0 v x hw
  |succ m=>
   obtain⟨u,x',c,e,g1,g2,rfl⟩:=hW.back m v x hw
   have hh:=ih u x' g1
   have hn:=h3 _ g2
   have hc:(Ev.cand s.1 (.link u v c e)).f=true:=hh.1
   have hi:=Em (t:=t+1) ht (zP h1 hb (hW.ok _ g2)) ((hb v).up (Nat.le_succ t)) hc
   have hnn:¬(btr (Ev.cand s.1 (.link u v c e)) (s.1 v)=true):=Bool.eq_false_iff.1 hn
   rw[hi]at hnn
   by_cases hg:(s.1 v).f=true
   ·refine⟨hg,?_⟩
    have h5:¬key (Ev.cand s.1 (.link u v c e))<key (s.1 v):=fun h=>hnn fun _=>h
    have h6:=hh.2
    unfold Ev.cand ext at h5
    unfold key at h5 h6 ⊢
    simp only at h5
    omega
   ·exact absurd (fun h=>absurd h hg) hnn
/-- What is not found stays as it was made. -/
def Nil (L:N→Bt):Prop:=∀ v,(L v).f=false→L v=⟨0,0,false⟩
theorem Oq:∀ (l:List (Ev N)) (s:(N→Bt)×Bool),Nil s.1→Nil (run l s).1
 |[],_,h=>h
 |e::l,s,h=>by
  refine Oq l (step1 s e) fun v hv=>?_
  have hv:(rlx s.1 e.at (e.cand s.1) v).f=false:=hv
  show rlx s.1 e.at (e.cand s.1) v=_
  unfold rlx pick at hv ⊢
  by_cases ev:v=e.at
  ·rw[if_pos ev]at hv ⊢
   by_cases hb:btr (e.cand s.1) (s.1 e.at)=true
   ·rw[if_pos hb]at hv ⊢
    rw[vX hv]at hb;exact absurd hb (by decide)
   rw[if_neg hb]at hv ⊢;exact h _ hv
  ·rw[if_neg ev]at hv ⊢;exact h _ hv
end
end Go.Proofs.YtalkmhnlgfncmaaGreatDoor.jF
end
section
/- The closure that puts a better struct into the table. Conditions: as the lemma says. -/
namespace Go.Proofs.YtalkmhnlgfncmaaGreatDoor.X
open Go.RowKit Go.Proofs.YtalkmhnlgfncmaaGreatDoorW.aC Go.Proofs.YtalkmhnlgfncmaaGreatDoorW.aN Go.Proofs.YtalkmhnlgfncmaaGreatDoorW.aT
def TS (M:Nat→Nat→Bt) (i j:Nat) (x:Bt):Nat→Nat→Bt:=if btr x (M i j)=true then upd M i j x else M
variable {B n:Nat} {w:World} {g3 GR g4:Nat} {Gs:Nat→Nat} {cR:Nat} {M:Nat→Nat→Bt}
/-- What the closure's call leaves. -/
def Mf (B n:Nat) (w:World) (g3 GR g4:Nat) (Gs:Nat→Nat) (cR:Nat) (M:Nat→Nat→Bt) (ch:Bool) (w':World):Prop:=
 sU B n w' g3 GR Gs cR M∧w'.heap[g4]?=some (.cells #[.bool ch] 4 (0,0))∧Below B w w'∧Kept w w' (fun k=>k=g4∨∃ i,i<n∧k=Gs i)
theorem Mf.move {ch:Bool} {w1 w2:World} (h:Mf B n w g3 GR g4 Gs cR M ch w1) (hB:B≤w1.heap.size) (hb:Below w1.heap.size w1 w2):Mf B n w g3 GR g4 Gs cR M ch w2:=
 ⟨h.1.move hb,aA h.2.1 hb,h.2.2.1.trans (hb.mono hB),h.2.2.2.below hb⟩
theorem Mf.put {ch:Bool} {w1:World} (h:Mf B n w g3 GR g4 Gs cR M ch w1) (i j:Nat) (hi:i<n) (hj:j<n) (x:Bt):
  Mf B n w g3 GR g4 Gs cR (upd M i j x) ch (((w1.setCell ⟨Gs i,j*3,none⟩ (.int .i64 x.r)).setCell ⟨Gs i,j*3+1,none⟩ (.int .i64 x.d)).setCell ⟨Gs i,j*3+2,none⟩ (.bool x.f)):=by
 obtain⟨ci,q1,_⟩:=h.1.blk i hi
 have ne:g4≠Gs i:=jq h.2.1 q1 (by decide)
 exact⟨h.1.put i j hi hj x,dJ (dJ (dJ h.2.1 (p:=⟨Gs i,j*3,none⟩) ne _) (p:=⟨Gs i,j*3+1,none⟩) ne _) (p:=⟨Gs i,j*3+2,none⟩) ne _,
  ((h.2.2.1.setCell (h.1.hs i hi) _).setCell (h.1.hs i hi) _).setCell (h.1.hs i hi) _,
  Kept.setCell (p:=⟨Gs i,j*3+2,none⟩) (Kept.setCell (p:=⟨Gs i,j*3+1,none⟩) (Kept.setCell (p:=⟨Gs i,j*3,none⟩) h.2.2.2 (.inl (.inr ⟨i,hi,rfl⟩)) _) (.inl (.inr ⟨i,hi,rfl⟩)) _) (.inl (.inr ⟨i,hi,rfl⟩)) _⟩
theorem Mf.flag {ch:Bool} {w1:World} (h:Mf B n w g3 GR g4 Gs cR M ch w1) (hB4:B≤g4) (c:Bool):Mf B n w g3 GR g4 Gs cR M c (w1.setCell ⟨g4,0,none⟩ (.bool c)):=
 ⟨h.1.far h.2.1 (by decide) (by decide) (by decide) 0 _,aW h.2.1 0 _ rfl,h.2.2.1.setCell hB4 _,Kept.setCell (p:=⟨g4,0,none⟩) h.2.2.2 (.inl (.inl rfl)) _⟩
set_option maxHeartbeats 4000000 in
set_option maxRecDepth 100000 in
theorem VY (a b:Nat) (x:Bt) (ch:Bool) (ha:a<n) (hb:b<n) (hn:n≤1000000) (h:sU B n w g3 GR Gs cR M) (h4:w.heap[g4]?=some (.cells #[.bool ch] 4 (0,0))) (hB4:B≤g4):
  Calls Tryz.prog 37 #[.int .i64 (a:Int),.int .i64 (b:Int),.agg #[.int .i64 x.r,.int .i64 x.d,.bool x.f],.pointer (some ⟨g3,0,none⟩),.pointer (some ⟨g4,0,none⟩)] w fun e w'=>e= .returned (.tuple #[])∧Mf B n w g3 GR g4 Gs cR (TS M a b x) (ch||btr x (M a b)) w':=by
 have H0:ah (Mf B n w g3 GR g4 Gs cR M ch w):=⟨⟨h,h4,Below.refl _ _,Kept.refl _ _⟩⟩
 have HBW:ah (B≤w.heap.size):=⟨Nat.le_trans hB4 (Nat.le_of_lt (gD h4))⟩
 have HE:ah (gF.f x.r x.d x.f (M a b).r (M a b).d (M a b).f=some (btr x (M a b))):=⟨ada _ _⟩
 have HB4:=ah.mk hB4
 clear h h4 hB4
 have p0:(0≤(a:Int))=True:=eq_true (by omega)
 have p1:((a:Int)<(n:Int))=True:=eq_true (by omega)
 have p2:(0≤(b:Int))=True:=eq_true (by omega)
 have p3:((b:Int)<(n:Int))=True:=eq_true (by omega)
 cases hv:btr x (M a b)with
 |false=>
  rw[hv]at HE
  have HP:ah (TS M a b x=M):=⟨by unfold TS;rw[hv,if_neg (by decide)]⟩
  clear hv
  go_enter Tryz.func37,Tryz.ntmps37
  go_wp2_with ((with_reducible refine aH (N:=7) rfl ?_);refine qbx (N:=7) (cs:=#[.int .i64 x.r,.int .i64 x.d,.bool x.f]) (t:=68) ?_;intro g7 hg wn bR hb7;have B7:=ah.mk bR;replace H0:=ah.mk (H0.out.move HBW.out hb7);replace HBW:=ah.mk (Nat.le_trans HBW.out hb7.size);clear hb7 bR hg;have c70:wn.cell? ⟨g7,0,none⟩=some (.int .i64 x.r):=(aj B7.out 0).trans rfl;have c71:wn.cell? ⟨g7,1,none⟩=some (.int .i64 x.d):=(aj B7.out 1).trans rfl;have c72:wn.cell? ⟨g7,2,none⟩=some (.bool x.f):=(aj B7.out 2).trans rfl;have c3:=H0.out.1.c3;have cr:=H0.out.1.af7 a ha;obtain⟨cm0,cm1,cm2⟩:=H0.out.1.cM a b ha hb)
  go_still_tail 8,qz9
  change wpList _ _ _ _ _ wn.drew
  go_wp2_with (go_at_call 38;(with_reducible refine(gF.calls x.r x.d x.f (M a b).r (M a b).d (M a b).f false _ HE.out).mono ?_);rintro e w2 ⟨rfl,hb2⟩;replace H0:=ah.mk ((H0.out.move HBW.out (bG (Below.refl _ _))).move HBW.out hb2);clear hb2)
  (first|(refine bodyPost_end (results_none rfl _ _ _) rfl ?_)|(refine bodyPost_ret (results_none rfl _ _ _) rfl ?_))
  rw[HP.out,Bool.or_false]
  exact⟨rfl,H0.out⟩
 |true=>
  rw[hv]at HE
  have HP:ah (TS M a b x=upd M a b x):=⟨by unfold TS;rw[hv,if_pos rfl]⟩
  clear hv
  go_enter Tryz.func37,Tryz.ntmps37
  go_wp2_with ((with_reducible refine aH (N:=7) rfl ?_);refine qbx (N:=7) (cs:=#[.int .i64 x.r,.int .i64 x.d,.bool x.f]) (t:=68) ?_;intro g7 hg wn bR hb7;have B7:=ah.mk bR;replace H0:=ah.mk (H0.out.move HBW.out hb7);replace HBW:=ah.mk (Nat.le_trans HBW.out hb7.size);clear hb7 bR hg;have c70:wn.cell? ⟨g7,0,none⟩=some (.int .i64 x.r):=(aj B7.out 0).trans rfl;have c71:wn.cell? ⟨g7,1,none⟩=some (.int .i64 x.d):=(aj B7.out 1).trans rfl;have c72:wn.cell? ⟨g7,2,none⟩=some (.bool x.f):=(aj B7.out 2).trans rfl;have c3:=H0.out.1.c3;have cr:=H0.out.1.af7 a ha;obtain⟨cm0,cm1,cm2⟩:=H0.out.1.cM a b ha hb)
  go_still_tail 8,qz9
  change wpList _ _ _ _ _ wn.drew
  go_wp2_with (go_at_call 38;(with_reducible refine(gF.calls x.r x.d x.f (M a b).r (M a b).d (M a b).f true _ HE.out).mono ?_);rintro e w2 ⟨rfl,hb2⟩;have n2_:=ah.mk (aA (dS B7.out) hb2);have n0_:=ah.mk ((H0.out.move HBW.out (bG (Below.refl _ _))).move HBW.out hb2);clear H0 B7 hb2 c70 c71 c72 c3 cr cm0 cm1 cm2;have H0:=n0_;have B7:=n2_;clear n0_ n2_;have c70:w2.cell? ⟨g7,0,none⟩=some (.int .i64 x.r):=(aj B7.out 0).trans rfl;have c71:w2.cell? ⟨g7,1,none⟩=some (.int .i64 x.d):=(aj B7.out 1).trans rfl;have c72:w2.cell? ⟨g7,2,none⟩=some (.bool x.f):=(aj B7.out 2).trans rfl;have c3:=H0.out.1.c3;have cr:=H0.out.1.af7 a ha;obtain⟨cm0,cm1,cm2⟩:=H0.out.1.cM a b ha hb;have c4:w2.cell? ⟨g4,0,none⟩=some (.bool ch):=(aj H0.out.2.1 0).trans rfl;have z4:=ak H0.out.2.1 0;have zm0:=H0.out.1.zM a ha (b*3);have zm1:=H0.out.1.zM a ha (b*3+1);have zm2:=H0.out.1.zM a ha (b*3+2))
  have HQ:=ah.mk (H0.out.put a b ha hb x)
  have c4s:=(aj HQ.out.2.1 0).trans (show (#[Value.bool ch]:Array Value)[0]?=some (.bool ch) from rfl)
  have z4s:=ak HQ.out.2.1 0
  have zs1:∀ v,(w2.setCell ⟨Gs a,b*3,none⟩ v).frozen? ⟨Gs a,b*3+1,none⟩=false:=fun v=>by obtain⟨ci,q1,_⟩:=H0.out.1.blk a ha;exact ak (aW q1 (b*3) v rfl) _
  have zs2:∀ v u,((w2.setCell ⟨Gs a,b*3,none⟩ v).setCell ⟨Gs a,b*3+1,none⟩ u).frozen? ⟨Gs a,b*3+2,none⟩=false:=fun v u=>by obtain⟨ci,q1,_⟩:=H0.out.1.blk a ha;exact ak (aW (aW q1 (b*3) v rfl) (b*3+1) u rfl) _
  have HR:=ah.mk (HQ.out.flag HB4.out true)
  have HR2:=ah.mk (HR.out.move (Nat.le_trans HB4.out (Nat.le_of_lt (gD HR.out.2.1))) (bG (Below.refl _ _)))
  go_region
  (first|(refine bodyPost_end (results_none rfl _ _ _) rfl ?_)|(refine bodyPost_ret (results_none rfl _ _ _) rfl ?_))
  rw[HP.out,Bool.or_true]
  exact⟨rfl,HR2.out⟩
end Go.Proofs.YtalkmhnlgfncmaaGreatDoor.X
end
section
/- Wires between vertices. Conditions: none. -/
namespace Go.Proofs.YtalkmhnlgfncmaaGreatDoor.X
open Go.RowKit Go.Proofs.YtalkmhnlgfncmaaGreatDoorW.aC Go.Proofs.YtalkmhnlgfncmaaGreatDoorW.aN Go.Proofs.YtalkmhnlgfncmaaGreatDoorW.aT
def jg (n:Nat) (w:S40):Prop:=0≤w.f0∧w.f0<n∧0≤w.f1∧w.f1<n
instance (n:Nat) (w:S40):Decidable (jg n w):=by unfold jg;infer_instance
end Go.Proofs.YtalkmhnlgfncmaaGreatDoor.X
end
section
/- The program's allBetween: its rounds. Conditions: as the lemma says. -/
namespace Go.Proofs.YtalkmhnlgfncmaaGreatDoor.X
open Go.RowKit Go.Proofs.YtalkmhnlgfncmaaGreatDoorW.aC Go.Proofs.YtalkmhnlgfncmaaGreatDoorW.aN Go.Proofs.YtalkmhnlgfncmaaGreatDoorW.aT
def zB:Bt:=⟨0,0,false⟩
def mE (n:Nat):Array Value:=madeCells (Value.agg #[.int .i64 0,.int .i64 0,.bool false]).cells (n*3)
theorem zQ (n:Nat):(mE n).size=n*3:=by unfold mE;rw[size_madeCells]
theorem Mh (n j:Nat) (hj:j<n):(mE n)[j*3]?=some (.int .i64 0)∧(mE n)[j*3+1]?=some (.int .i64 0)∧(mE n)[j*3+2]?=some (.bool false):=by
 have hs:=zQ n
 have h3:(Value.agg #[.int .i64 0,.int .i64 0,.bool false]).cells= #[.int .i64 0,.int .i64 0,.bool false]:=by rfl
 unfold mE at hs ⊢
 rw[h3]at hs ⊢
 have e0:j*3 % 3=0:=by omega
 have e1:(j*3+1) % 3=1:=by omega
 have e2:(j*3+2) % 3=2:=by omega
 refine⟨?_,?_,?_⟩
 ·rw[Array.getElem?_eq_getElem (by omega)];simp[madeCells,e0]
 ·rw[Array.getElem?_eq_getElem (by omega)];simp[madeCells,e1]
 rw[Array.getElem?_eq_getElem (by omega)];simp[madeCells,e2]
def kI (n:Nat) (Gs:Nat→Nat) (k:Nat):List Value:=(List.range k).map fun i=> .slice (some ⟨Gs i,0,none⟩) n n
theorem vk (n:Nat) (Gs:Nat→Nat) (k:Nat):(kI n Gs k).length=k:=by simp[kI]
theorem Gm (n:Nat) (Gs:Nat→Nat) (k:Nat):kI n Gs (k+1)=kI n Gs k++[.slice (some ⟨Gs k,0,none⟩) n n]:=by simp[kI,List.range_succ]
theorem IL (n:Nat) (Gs Gt:Nat→Nat) (k:Nat) (h:∀ i,i<k→Gs i=Gt i):kI n Gs k=kI n Gt k:=by
 unfold kI
 refine List.map_congr_left fun i hi=>?_
 rw[h i (List.mem_range.1 hi)]
/-- So many rows have been made. -/
structure Ep (B n k:Nat) (w:World) (g3:Nat) (v:Value) (Gs:Nat→Nat):Prop where
 b3:w.heap[g3]?=some (.cells #[v] 49 (0,0))
 own:w.ownsRow B 69 1 v k (kI n Gs k)
 blk:∀ i,i<k→w.heap[Gs i]?=some (.cells (mE n) 68 (0,0))
 inj:∀ i j,i<k→j<k→Gs i=Gs j→i=j
 h3:B≤g3
 hs:∀ i,i<k→B≤Gs i
theorem Ep.move {B n k:Nat} {w w1:World} {g3:Nat} {v:Value} {Gs:Nat→Nat} (h:Ep B n k w g3 v Gs) (hb:Below w.heap.size w w1):Ep B n k w1 g3 v Gs:=
 { h with
  b3:=aA h.b3 hb
  own:=KM h.own (fun q hq=>hb.block q (Ni h.own q hq))
  blk:=fun i hi=>aA (h.blk i hi) hb }
theorem Ep.to {B n:Nat} {w:World} {g3:Nat} {v:Value} {Gs:Nat→Nat} (h:Ep B n n w g3 v Gs) (hn:0<n):∃ GR cR,v= .slice (some ⟨GR,0,none⟩) n cR∧sU B n w g3 GR Gs cR (fun _ _=>zB):=by
 obtain⟨h1,h2⟩:=h.own
 rcases h2 with⟨_,h0⟩|⟨g,cap,cur,rfl,hg,hh,hnc,hcm,hcs,ht⟩
 ·omega
 refine⟨g,cap,rfl,⟨h.b3,⟨cur,hh,⟨by omega,hnc,hcm⟩,fun i hi=>?_⟩,fun i hi=>⟨_,h.blk i hi,zQ n,fun j hj=>Mh n j hj⟩,h.inj,h.h3,hg,h.hs⟩⟩
 have e:(kI n Gs n)[i]?=some (.slice (some ⟨Gs i,0,none⟩) n n):=by simp[kI,hi]
 rw[← ht,List.getElem?_take_of_lt (by omega)]at e
 rw[← Array.getElem?_toList]
 exact e
theorem Ep.step {B n k:Nat} {W w3:World} {g3:Nat} {v v3:Value} {Gs:Nat→Nat} {o:Obj} (h:Ep B n k W g3 v Gs) (hB:B≤W.heap.size) (hg:((W.alloc (.cells (mE n) 68)).alloc o).grownBy w3 v.ownBlock) (ho:w3.ownsRow B 69 1 v3 (k+1) (kI n Gs k++[.slice (some ⟨W.heap.size,0,none⟩) n n])):
  Ep B n (k+1) (w3.setCell ⟨g3,0,none⟩ v3) g3 v3 (fun q=>if q=k then W.heap.size else Gs q):=by
 have h2:=(h.move (bg (Below.refl _ _) (.cells (mE n) 68))).move (bg (Below.refl _ _) o)
 have b3:=dQ h2.b3 hg (own_ne h2.own h2.b3 (by decide))
 have old:∀ i,i<k→w3.heap[Gs i]?=some (.cells (mE n) 68 (0,0)):=fun i hi=>dQ (h2.blk i hi) hg (own_ne h2.own (h2.blk i hi) (by decide))
 have new:w3.heap[W.heap.size]?=some (.cells (mE n) 68 (0,0)):=dQ (fV (qC W (.cells (mE n) 68)) o) hg (own_ne h2.own (fV (qC W (.cells (mE n) 68)) o) (by decide))
 have lt:∀ i,i<k→Gs i<W.heap.size:=fun i hi=>gD (h.blk i hi)
 refine { b3:=aW b3 0 _ rfl,own:=?_,blk:=fun i hi=>?_,inj:=fun i j hi hj he=>?_,h3:=h.h3,hs:=fun i hi=>?_ }
 ·rw[Gm,if_pos rfl,IL n (fun q=>if q=k then W.heap.size else Gs q) Gs k (fun i hi=>if_neg (by omega))]
  exact zn ho (p:=⟨g3,0,none⟩) (own_ne ho b3 (by decide)) _
 ·show (w3.setCell ⟨g3,0,none⟩ v3).heap[if i=k then W.heap.size else Gs i]?=_
  by_cases e:i=k
  ·rw[if_pos e];exact dJ new (p:=⟨g3,0,none⟩) (jq new b3 (by decide)) _
  rw[if_neg e];exact dJ (old i (by omega)) (p:=⟨g3,0,none⟩) (jq (old i (by omega)) b3 (by decide)) _
 ·have he:(if i=k then W.heap.size else Gs i)=(if j=k then W.heap.size else Gs j):=he
  by_cases ei:i=k<;>by_cases ej:j=k
  ·omega
  ·rw[if_pos ei,if_neg ej]at he
   have:=lt j (by omega);omega
  ·rw[if_neg ei,if_pos ej]at he
   have:=lt i (by omega);omega
  rw[if_neg ei,if_neg ej]at he
  exact h.inj i j (by omega) (by omega) he
 ·show B≤if i=k then W.heap.size else Gs i
  split
  ·exact hB
  exact h.hs i (by omega)
theorem ah1:(Tryz.prog.info? 68).map (fun i=>(i.zero,i.size,i.bytes))=some (some (.agg #[.int .i64 0,.int .i64 0,.bool false]),3,24):=by kernel_rfl
theorem ah2:(Tryz.prog.info? 69).map (fun i=>(i.zero,i.size,i.bytes))=some (some (.slice none 0 0),1,24):=by kernel_rfl
theorem ah3 (n:Nat) (hn:n≤1000000) (w:World):(Instr.makeSlice 69 (.int .i64 n) (.int .i64 n)).run Tryz.prog w= .ok (.slice (some ⟨w.heap.size,0,none⟩) n n) (w.alloc (.cells (mE n) 68)):=by
 obtain⟨i0,hi,hzz⟩:=Option.map_eq_some_iff.1 ah1
 simp only[Prod.mk.injEq]at hzz
 obtain⟨hz0,hz1,hz2⟩:=hzz
 have:=run_make (P:=Tryz.prog) w 69 68 i0 _ Tryz.underlying69 hi hz0 .i64 .i64 (n:Int) (n:Int) (by omega) (by omega) (by rw[hz2];omega) (by omega)
 rw[hz1]at this
 simpa [mE]using this
def yB (d:List Int) (w:S40):Bt:=⟨w.f2,wrap64 (rd d w.f0+rd d w.f1),true⟩
def yT (d:List Int) (w:S40) (x:Bt):Bt:=⟨wrap64 (x.r+w.f2),wrap64 (x.d+rd d w.f0),true⟩
abbrev MB:Type:=(Nat→Nat→Bt)×Bool
def VZ (s:MB) (i j:Nat) (x:Bt):MB:=(TS s.1 i j x,s.2||btr x (s.1 i j))
def toStep (d:List Int) (w:S40) (s:MB) (j:Nat):MB:=if (s.1 w.f1.toNat j).f=true then VZ s w.f0.toNat j (yT d w (s.1 w.f1.toNat j))else s
def toN (d:List Int) (w:S40) (s:MB):Nat→MB
 |0=>s
 |j+1=>toStep d w (toN d w s j) j
def vY (d:List Int) (n:Nat) (w:S40) (s:MB):MB:=toN d w (VZ s w.f0.toNat w.f1.toNat (yB d w)) n
def zR (d:List Int) (ws:List S40) (n:Nat) (s:MB):Nat→MB
 |0=>s
 |j+1=>vY d n (au ws (j:Int)) (zR d ws n s j)
def rW (d:List Int) (ws:List S40) (n:Nat) (M:Nat→Nat→Bt):MB:=zR d ws n (M,false) ws.length
def Ot (d:List Int) (ws:List S40) (n:Nat):Nat→(Nat→Nat→Bt)→Option (Nat→Nat→Bt)
 |0,_=>none
 |k+1,M=>if (rW d ws n M).2=true then Ot d ws n k (rW d ws n M).1 else some (rW d ws n M).1
/-- What the boxes hold in a round. -/
structure KU (w0:World) (fl:Array Value) (n g1 g3 GR g4:Nat) (Gs:Nat→Nat) (cR:Nat) (s:MB) (w:World):Prop where
 b1:w.heap[g1]?=some (.cells fl 27 (0,0))
 mat:sU w0.heap.size n w g3 GR Gs cR s.1
 b4:w.heap[g4]?=some (.cells #[.bool s.2] 4 (0,0))
 h4:w0.heap.size≤g4
 bel:Below w0.heap.size w0 w
theorem KU.move {w0 w w1:World} {fl:Array Value} {n g1 g3 GR g4:Nat} {Gs:Nat→Nat} {cR:Nat} {s:MB} (h:KU w0 fl n g1 g3 GR g4 Gs cR s w) (hb:Below w.heap.size w w1):KU w0 fl n g1 g3 GR g4 Gs cR s w1:=
 ⟨aA h.b1 hb,h.mat.move hb,aA h.b4 hb,h.h4,av h.bel hb⟩
theorem KU.anu {w0 w w1:World} {fl:Array Value} {n g1 g3 GR g4:Nat} {Gs:Nat→Nat} {cR:Nat} {s:MB} (h:KU w0 fl n g1 g3 GR g4 Gs cR s w) {i j:Nat} {x:Bt} (hp:Mf w0.heap.size n w g3 GR g4 Gs cR (TS s.1 i j x) (s.2||btr x (s.1 i j)) w1):KU w0 fl n g1 g3 GR g4 Gs cR (VZ s i j x) w1:=
 ⟨uN h.b1 hp.2.2.2 (by
  rintro(e|⟨a,ha,e⟩)
  ·exact jq h.b1 h.b4 (by decide) e
  obtain⟨cells,q1,_⟩:=h.mat.blk a ha
  exact jq h.b1 q1 (by decide) e),hp.1,hp.2.1,h.h4,h.bel.trans hp.2.2.1⟩
/-- A block that the closure's call keeps. -/
theorem KU.other {w0 w w1:World} {fl:Array Value} {n g1 g3 GR g4:Nat} {Gs:Nat→Nat} {cR:Nat} {s:MB} (h:KU w0 fl n g1 g3 GR g4 Gs cR s w) {M:Nat→Nat→Bt} {c:Bool} (hp:Mf w0.heap.size n w g3 GR g4 Gs cR M c w1) {g:Nat} {cs:Array Value} {t:TypeId} (hg:w.heap[g]?=some (.cells cs t (0,0))) (h1:t≠4) (h2:t≠68):w1.heap[g]?=some (.cells cs t (0,0)):=
 uN hg hp.2.2.2 (by
  rintro(e|⟨a,ha,e⟩)
  ·exact jq hg h.b4 h1 e
  obtain⟨cells,q1,_⟩:=h.mat.blk a ha
  exact jq hg q1 h2 e)
set_option maxHeartbeats 16000000 in
set_option maxRecDepth 100000 in
theorem TT (A0:Option Addr) (c0:Nat) (d:List Int) (A1:Option Addr) (c1:Nat) (ws:List S40) (n m:Nat) (hn0:n=d.length) (hm0:m=ws.length) (h1:1≤n) (hn:n≤1000000) (hm:m≤1000000) (hw:∀ j:Nat,j<m→jg n (au ws (j:Int))) (w:World)
  (hr0:Kd.C (Kd.int .i64) w A0 n d) (hr1:Kd.C k40 w A1 m ws) (K:Nat) (R:Nat→Nat→Bt) (hR:Ot d ws n K (fun _ _=>zB)=some R):
  Calls Tryz.prog 20 #[.agg #[.slice A0 n c0,.slice A1 m c1]] w fun e w'=>∃ GR cR g3 Gs,e= .returned (.slice (some ⟨GR,0,none⟩) n cR)∧sU w.heap.size n w' g3 GR Gs cR R∧Below w.heap.size w w':=by
 have HR0:=ah.mk hr0
 have HR1:=ah.mk hr1
 have HW:=ah.mk hw
 have HN0:=ah.mk hn0
 have HM0:=ah.mk hm0
 have HRR:=ah.mk hR
 clear hr0 hr1 hw hm0 hn0 hR
 have HB:=ah.mk (Below.refl w.heap.size w)
 go_enter Tryz.func20,Tryz.ntmps20
 go_wp2_with (first
  |((with_reducible refine aH (N:=1) rfl ?_);refine qbx (N:=1) (cs:=#[.slice A0 n c0,.slice A1 m c1]) (t:=27) ?_;intro g1 hg wn bR hb;have GE1:=ah.mk (xu HB:w.heap.size≤g1);clear hg;have Gn:=ah.mk bR;clear bR;have n0_:=ah.mk (av HB.out hb);clear HB hb;have HB:=n0_;clear n0_;have BK1:=Gn;clear Gn;have oI:∀ o1 o2,((wn.alloc o1).alloc o2).cell? ⟨g1,0,none⟩=some (.slice A0 n c0):=fun o1 o2=>aV (bg (bg (Below.refl _ _) _) _) ((aj BK1.out 0).trans rfl)))
 obtain⟨g3,hg3⟩:∃ g3,g3=wn.heap.size+1:=⟨_,rfl⟩
 rw[← hg3]
 have HG3:=ah.mk hg3
 clear hg3
 go_loopg [14] n (fun kq v14 w'=>∃ (i:Nat) (v:Value) (Gs:Nat→Nat),v14= .int .i64 i∧ah (i+kq=n)∧ah (w'.heap[g1]?=some (.cells #[.slice A0 n c0,.slice A1 m c1] 27 (0,0)))∧ah (Ep w.heap.size n i w' g3 v Gs)∧ah (Below w.heap.size w w'))
 case atStart=>
  have hz:=aG HB.out
  have hs:(wn.alloc (.cells #[] 69)).heap.size=wn.heap.size+1:=by simp
  refine⟨0,.slice (some ⟨wn.heap.size,0,none⟩) 0 0,fun _=>0,Db,⟨by omega⟩,⟨fV (fV BK1.out _) _⟩,⟨?_⟩,⟨av HB.out (bg (bg (Below.refl _ _) _) _)⟩⟩
  exact { b3:=by rw[HG3.out, ← hs];exact qC _ _,own:=Nq (uI (enc:=Value.int .i64) wn w.heap.size 69 ([]:List Int) hz (by simp)) _,blk:=fun i hi=>absurd hi (Nat.not_lt_zero _),inj:=fun i j hi=>absurd hi (Nat.not_lt_zero _),h3:=by rw[HG3.out];omega,hs:=fun i hi=>absurd hi (Nat.not_lt_zero _) }
 case round=>
  clear BK1 HB oI HG3
  obtain⟨i,v,Gs,rfl,HE,Q1,QR,QB⟩:=hrel
  by_cases hlt:i<n
  ·cases gk with
   |zero=>have:=HE.out;omega
   |succ gq=>
   obtain⟨A,c,hv⟩:=FT QR.out.own
   subst hv
   have hmk:=ah3 n hn
   have oI:wr.cell? ⟨g1,0,none⟩=some (.slice A0 n c0):=(aj Q1.out 0).trans rfl
   have Er:wr.cell? ⟨g3,0,none⟩=some (.slice A i c):=(aj QR.out.b3 0).trans rfl
   have af8:∀ o,(wr.alloc o).cell? ⟨g3,0,none⟩=some (.slice A i c):=fun o=>aV (bg (Below.refl _ _) _) Er
   have af9:∀ o o2,((wr.alloc o).alloc o2).cell? ⟨g3,0,none⟩=some (.slice A i c):=fun o o2=>aV (bg (bg (Below.refl _ _) _) _) Er
   have HD:=ah.mk (QR.out.move (bG (Below.refl wr.heap.size wr)))
   have HBW:=ah.mk (aG QB.out)
   have hsz:(wr.drew.alloc (.cells (mE n) 68)).heap.size=wr.heap.size+1:=by simp
   have HCS:ah (((wr.drew.alloc (.cells (mE n) 68)).alloc (.cells #[.slice (some ⟨wr.heap.size,0,none⟩) n n] 69)).cell? ⟨wr.heap.size+1,0,none⟩=some (.slice (some ⟨wr.heap.size,0,none⟩) n n)):=⟨by rw[← hsz];exact(aj (qC (wr.drew.alloc (.cells (mE n) 68)) (.cells #[.slice (some ⟨wr.heap.size,0,none⟩) n n] 69)) 0).trans rfl⟩
   have HD2:=ah.mk ((HD.out.move (bg (Below.refl _ _) (.cells (mE n) 68))).move (bg (Below.refl _ _) (.cells #[.slice (some ⟨wr.heap.size,0,none⟩) n n] 69)))
   have HBB:=ah.mk (av (bG QB.out) (bg (bg (Below.refl wr.drew.heap.size wr.drew) (.cells (mE n) 68)) (.cells #[.slice (some ⟨wr.heap.size,0,none⟩) n n] 69)))
   have HQ1:=ah.mk (aA (dS Q1.out) (bg (bg (Below.refl wr.drew.heap.size wr.drew) (.cells (mE n) 68)) (.cells #[.slice (some ⟨wr.heap.size,0,none⟩) n n] 69)))
   clear hsz
   have hbytes:(i+1)*24≤140737488355328:=by omega
   go_wp2
   go_region_law ((refine zO rfl (.tmp 16) (.tmp 21) 49 rfl 69 (.slice none 0 0) 24 Tryz.underlying49 ah2 rfl (by decide) w.heap.size (.slice A i c) i (kI n Gs i) TU ⟨wr.heap.size+1,0,none⟩ 1 (.slice (some ⟨wr.heap.size,0,none⟩) n n) TU HCS.out rfl HD2.out.own (aG HBB.out) hbytes ?_;intro v3 w3 ho hg hat;obtain⟨A3,c3,hv3⟩:=FT ho;subst hv3;have z3:=ak (dQ HD2.out.b3 hg (own_ne HD2.out.own HD2.out.b3 (by decide))) 0;have cg3:=aj (dQ HD2.out.b3 hg (own_ne HD2.out.own HD2.out.b3 (by decide))) 0;have HST:=ah.mk (HD.out.step HBW.out hg ho);have HB3:=ah.mk (Below.setCell (p:=⟨g3,0,none⟩) (HBB.out.grown hg (aG HBB.out) (ql HD2.out.own)) HD.out.h3 (.slice A3 (i+1) c3));have HQ3:=ah.mk (dJ (dQ HQ1.out hg (own_ne HD2.out.own HQ1.out (by decide))) (p:=⟨g3,0,none⟩) (jq HQ1.out HD2.out.b3 (by decide)) (.slice A3 (i+1) c3));clear ho hg hat))
   all_goals
    have wi:IntKind.i64.wrap ((i:Int)+1)=(i:Int)+1:=IntWalk.i64_in _ ⟨by omega,by omega⟩
    clear oI Er af8 af9 hmk hbytes z3 cg3
    go_wp2
    go_roundg gq
    case measure=>omega
    case rel=>exact⟨i+1,_,_,by first|rfl|go_num,⟨qz3 HE⟩,HQ3,HST,HB3⟩
  have hi:n=i:=by have:=HE.out;omega
  subst hi
  clear hlt HE
  obtain⟨GR,cR,hv,HM0⟩:=QR.out.to h1
  subst hv
  have HM:=ah.mk HM0
  clear HM0 QR
  have HFL:=Q1
  clear Q1
  go_wp2_with ((with_reducible refine aH (N:=4) rfl ?_);refine qbx (N:=4) (cs:=#[.bool false]) (t:=4) ?_;intro g4 hg wn bR hb;have GE4:=ah.mk (xu QB:w.heap.size≤g4);have B4:=ah.mk bR;replace HM:=ah.mk (HM.out.move hb);replace HFL:=ah.mk (aA HFL.out hb);replace QB:=ah.mk (av QB.out hb);clear hb bR hg;have c4:wn.cell? ⟨g4,0,none⟩=some (.bool false):=(aj B4.out 0).trans rfl;have z4:=ak B4.out 0)
  have HS0:=ah.mk (show KU w #[.slice A0 n c0,.slice A1 m c1] n g1 g3 GR g4 Gs cR ((fun _ _=>zB),true) (wn.setCell ⟨g4,0,none⟩ (.bool true)) from⟨dJ HFL.out (p:=⟨g4,0,none⟩) (jq HFL.out B4.out (by decide)) _,HM.out.far B4.out (by decide) (by decide) (by decide) 0 _,aW B4.out 0 _ rfl,GE4.out,QB.out.setCell GE4.out _⟩)
  clear HM HFL QB B4 GE4 c4 z4
  go_loopg [4] K (fun kq v4 w'=>∃ (g4:Nat) (s:MB),v4= .pointer (some ⟨g4,0,none⟩)∧ah ((s.2=true∧Ot d ws n kq s.1=some R)∨(s.2=false∧s.1=R))∧ah (KU w #[.slice A0 n c0,.slice A1 m c1] n g1 g3 GR g4 Gs cR s w'))
  case atStart=>exact⟨g4,_,rfl,⟨.inl ⟨rfl,HRR.out⟩⟩,HS0⟩
  case round=>
   clear HS0 HRR
   obtain⟨g4,⟨M,ch⟩,rfl,HF,HS⟩:=hrel
   have c4:wr.cell? ⟨g4,0,none⟩=some (.bool ch):=(aj HS.out.b4 0).trans rfl
   cases ch with
   |false=>
    have HR:ah (M=R):=⟨by rcases HF.out with⟨h,_⟩|⟨_,h⟩;cases h;exact h⟩
    have c3:=HS.out.mat.c3
    clear HF
    go_wp2
    go_ret
    exact⟨GR,cR,g3,Gs,rfl,by rw[← HR.out];exact HS.out.mat,HS.out.bel⟩
   |true=>
    have hA:Ot d ws n gk M=some R:=by rcases HF.out with⟨_,h⟩|⟨h,_⟩;exact h;cases h
    cases gk with
    |zero=>cases hA
    |succ gq=>
    have HAF:=ah.mk hA
    clear hA HF
    have z4:=ak HS.out.b4 0
    have HS1:=ah.mk (show KU w #[.slice A0 n c0,.slice A1 m c1] n g1 g3 GR g4 Gs cR (M,false) (wr.setCell ⟨g4,0,none⟩ (.bool false)) from⟨dJ HS.out.b1 (p:=⟨g4,0,none⟩) (jq HS.out.b1 HS.out.b4 (by decide)) _,HS.out.mat.far HS.out.b4 (by decide) (by decide) (by decide) 0 _,aW HS.out.b4 0 _ rfl,HS.out.h4,HS.out.bel.setCell HS.out.h4 _⟩)
    have cf1:(wr.setCell ⟨g4,0,none⟩ (.bool false)).cell? ⟨g1,1,none⟩=some (.slice A1 m c1):=(aj HS1.out.b1 1).trans rfl
    clear HS
    go_wp2
    generalize wr.setCell ⟨g4,0,none⟩ (.bool false)=W1 at HS1 ⊢
    clear c4 z4 cf1
    go_loopg [29] m (fun kq v29 w'=>∃ j:Nat,v29= .int .i64 j∧ah (j+kq=m)∧ah (KU w #[.slice A0 n c0,.slice A1 m c1] n g1 g3 GR g4 Gs cR (zR d ws n (M,false) j) w'))
    case atStart=>exact⟨0,Db,⟨by omega⟩,HS1⟩
    case round=>
     clear HS1
     obtain⟨j,rfl,HJ,HS⟩:=hrel
     by_cases hlj:j<m
     ·cases gk with
      |zero=>have:=HJ.out;omega
      |succ gq2=>
      obtain⟨ad,hA,x0,x1,x2⟩:=kH (Kd.gX HR1.out HS.out.bel) (j:Int) (by omega) (by omega)
      cases hA
      rw[Int.toNat_natCast]at x0 x1 x2
      obtain⟨o0,o1,o2,o3⟩:=HW.out j hlj
      have HX:ah (zR d ws n (M,false) (j+1)=vY d n (au ws (j:Int)) (zR d ws n (M,false) j)):=⟨rfl⟩
      obtain⟨S,hS⟩:∃ S,S=zR d ws n (M,false) j:=⟨_,rfl⟩
      rw[← hS]at HS HX
      clear hS
      obtain⟨el,hel⟩:∃ el,el=au ws (j:Int):=⟨_,rfl⟩
      rw[← hel]at x0 x1 x2 o0 o1 o2 o3 HX
      clear hel
      obtain⟨a,ha⟩:∃ a:Nat,el.f0=a:=⟨el.f0.toNat,by omega⟩
      obtain⟨b,hb⟩:∃ b:Nat,el.f1=b:=⟨el.f1.toNat,by omega⟩
      obtain⟨f0,f1,f2⟩:=el
      simp only at x0 x1 x2 o0 o1 o2 o3 ha hb
      subst ha
      subst hb
      have hi0:a<n:=by omega
      have hi1:b<n:=by omega
      have p0:(0≤(a:Int))=True:=eq_true (by omega)
      have p1:((a:Int)<(n:Int))=True:=eq_true (by omega)
      have p2:(0≤(b:Int))=True:=eq_true (by omega)
      have p3:((b:Int)<(n:Int))=True:=eq_true (by omega)
      go_wp2_with ((with_reducible refine aH (N:=7) rfl ?_);refine qbx (N:=7) (cs:=#[.int .i64 0,.int .i64 0,.int .i64 0]) (t:=40) ?_;intro g7 hg wn bR hb7;have B7:=ah.mk bR;have HB7:=ah.mk hb7;have GE7:=ah.mk (show wr.heap.size≤g7 from Mi);clear hg hb7 bR;have adb:=ak B7.out 0;have ade:=ak B7.out 1;have adf:=ak B7.out 2;have adg:wn.cell? ⟨g7,0,none⟩=some (.int .i64 0):=(aj B7.out 0).trans rfl;have adh:wn.cell? ⟨g7,1,none⟩=some (.int .i64 0):=(aj B7.out 1).trans rfl;have adi:wn.cell? ⟨g7,2,none⟩=some (.int .i64 0):=(aj B7.out 2).trans rfl)
      have p7:=ah.mk (aW (cs':=#[.int .i64 (a:Int),.int .i64 (b:Int),.int .i64 f2]) (aW (cs':=#[.int .i64 (a:Int),.int .i64 (b:Int),.int .i64 0]) (aW (cs':=#[.int .i64 (a:Int),.int .i64 0,.int .i64 0]) B7.out 0 (.int .i64 (a:Int)) rfl) 1 (.int .i64 (b:Int)) rfl) 2 (.int .i64 f2) rfl)
      have HA:=ah.mk (HS.out.move (bF (j:=2) (v:=.int .i64 f2) (bF (j:=1) (v:=.int .i64 (b:Int)) (bF (j:=0) (v:=.int .i64 (a:Int)) HB7.out GE7.out) GE7.out) GE7.out))
      clear adg adh adi adb ade adf B7 HB7 GE7 HS x0 x1 x2
      generalize ((wn.setCell ⟨g7,0,none⟩ (.int .i64 (a:Int))).setCell ⟨g7,1,none⟩ (.int .i64 (b:Int))).setCell ⟨g7,2,none⟩ (.int .i64 f2)=W5 at p7 HA ⊢
      have Td:W5.cell? ⟨g7,0,none⟩=some (.int .i64 (a:Int)):=(aj p7.out 0).trans rfl
      have Te:W5.cell? ⟨g7,1,none⟩=some (.int .i64 (b:Int)):=(aj p7.out 1).trans rfl
      have Tf:W5.cell? ⟨g7,2,none⟩=some (.int .i64 f2):=(aj p7.out 2).trans rfl
      have adj:W5.cell? ⟨g1,0,none⟩=some (.slice A0 n c0):=(aj HA.out.b1 0).trans rfl
      obtain⟨dd,hD,dA⟩:=Kd.iC (Kd.gX HR0.out HA.out.bel) (a:Int) o0 o1
      cases hD
      obtain⟨dd',hD',dB⟩:=Kd.iC (Kd.gX HR0.out HA.out.bel) (b:Int) o2 o3
      cases hD'
      rw[Int.toNat_natCast]at dA dB
      go_still_tail 21,qz9
      change wpList _ _ _ _ _ W5.drew
      go_wp2_with ((with_reducible refine aH (N:=54) rfl ?_);(refine xY (some 54) rfl rfl Tryz.func37 rfl qz9 #[.int .i64 (a:Int),.int .i64 (b:Int),.agg #[.int .i64 f2,.int .i64 (wrap64 (rd d (a:Int)+rd d (b:Int))),.bool true]] rfl rfl (by simp[Act.eval,Act.put,IntWalk.i64_left]) ?_;refine(VY a b (yB d ⟨(a:Int),(b:Int),f2⟩) S.2 hi0 hi1 hn HA.out.mat.drew (dS HA.out.b4) HA.out.h4).mono ?_;rintro e w2 ⟨rfl,hp⟩;refine⟨_,rfl,?_⟩;have n0_:=ah.mk ((HA.out.move (bG (Below.refl _ _))).anu hp);have n1_:=ah.mk ((HA.out.move (bG (Below.refl _ _))).other hp (dS p7.out) (by decide) (by decide));clear HA p7 hp;have HA:=n0_;have p7:=n1_;clear n0_ n1_ Td Te Tf adj dA dB;have Te:w2.cell? ⟨g7,1,none⟩=some (.int .i64 (b:Int)):=(aj p7.out 1).trans rfl;have c3:=HA.out.mat.c3;have cr:=HA.out.mat.af7 b hi1))
      clear Te c3 cr
      obtain⟨S1,hS1⟩:∃ S1:MB,S1=VZ S a b (yB d ⟨(a:Int),(b:Int),f2⟩):=⟨_,rfl⟩
      have HA':=ah.mk (show KU w #[.slice (some dd) n c0,.slice (some ad) m c1] n g1 g3 GR g4 Gs cR S1 w2 by rw[hS1];exact HA.out)
      have HS1:=ah.mk hS1
      clear HA hS1
      go_loopg [61] n (fun kq v61 w'=>∃ q:Nat,v61= .int .i64 q∧ah (q+kq=n)∧ah (w'.heap[g7]?=some (.cells #[.int .i64 (a:Int),.int .i64 (b:Int),.int .i64 f2] 40 (0,0)))∧ah (KU w #[.slice (some dd) n c0,.slice (some ad) m c1] n g1 g3 GR g4 Gs cR (toN d ⟨(a:Int),(b:Int),f2⟩ S1 q) w'))
      case atStart=>exact⟨0,Db,⟨by omega⟩,p7,HA'⟩
      case round=>
       clear p7 HA'
       obtain⟨q,rfl,HQ,p7,HA⟩:=hrel
       by_cases hlq:q<n
       ·cases gk with
        |zero=>have:=HQ.out;omega
        |succ gq3=>
        have q2:(0≤(q:Int))=True:=eq_true (by omega)
        have q3:((q:Int)<(n:Int))=True:=eq_true (by omega)
        obtain⟨Z,hZ⟩:∃ Z,Z=toN d ⟨(a:Int),(b:Int),f2⟩ S1 q:=⟨_,rfl⟩
        have HZ:ah (toN d ⟨(a:Int),(b:Int),f2⟩ S1 (q+1)=toStep d ⟨(a:Int),(b:Int),f2⟩ Z q):=⟨by rw[hZ];rfl⟩
        rw[← hZ]at HA
        clear hZ
        obtain⟨cm0,cm1,cm2⟩:=HA.out.mat.cM b q hi1 hlq
        obtain⟨x,hx⟩:∃ x,x=Z.1 b q:=⟨_,rfl⟩
        rw[← hx]at cm0 cm1 cm2
        have HXX:=ah.mk hx
        clear hx
        obtain⟨xr,xd,xf⟩:=x
        simp only at cm0 cm1 cm2
        have wq:IntKind.i64.wrap ((q:Int)+1)=(q:Int)+1:=IntWalk.i64_in _ ⟨by omega,by omega⟩
        cases xf with
        |false=>
         have HV:ah (toN d ⟨(a:Int),(b:Int),f2⟩ S1 (q+1)=Z):=⟨by rw[HZ.out];unfold toStep;rw[if_neg];show ¬(Z.1 (b:Int).toNat q).f=true;rw[Int.toNat_natCast, ← HXX.out];exact Bool.false_ne_true⟩
         clear HZ HXX
         go_wp2_with ((with_reducible refine aH (N:=9) rfl ?_);refine qbx (N:=9) (cs:=#[.int .i64 0,.int .i64 0,.bool false]) (t:=68) ?_;intro g9 hg wn bR hb9;have B9:=ah.mk bR;have HB9:=ah.mk hb9;have GE9:=ah.mk (show wr.heap.size≤g9 from Mi);clear hg hb9 bR;have TV:=ak B9.out 0;have TW:=ak B9.out 1;have TY:=ak B9.out 2;have Ua:wn.cell? ⟨g9,0,none⟩=some (.int .i64 0):=(aj B9.out 0).trans rfl;have Ub:wn.cell? ⟨g9,1,none⟩=some (.int .i64 0):=(aj B9.out 1).trans rfl;have Uc:wn.cell? ⟨g9,2,none⟩=some (.bool false):=(aj B9.out 2).trans rfl;have Ud:∀ u v t,(((wn.setCell ⟨g9,0,none⟩ u).setCell ⟨g9,1,none⟩ v).setCell ⟨g9,2,none⟩ t).cell? ⟨g9,2,none⟩=some t:=fun u v t=>(aj (aW (aW (aW B9.out 0 u rfl) 1 v rfl) 2 t rfl) 2).trans rfl)
         have HBX:=bF (j:=2) (v:=.bool false) (bF (j:=1) (v:=.int .i64 xd) (bF (j:=0) (v:=.int .i64 xr) HB9.out GE9.out) GE9.out) GE9.out
         have HA2:=ah.mk (HA.out.move HBX)
         have p72:=ah.mk (aA p7.out HBX)
         clear Ua Ub Uc Ud TV TW TY
         go_roundg gq3
         case measure=>omega
         case rel=>exact⟨q+1,by go_num,⟨qz3 HQ⟩,p72,by rw[HV.out];exact HA2⟩
        |true=>
         have HV:ah (toN d ⟨(a:Int),(b:Int),f2⟩ S1 (q+1)=VZ Z a q (yT d ⟨(a:Int),(b:Int),f2⟩ ⟨xr,xd,true⟩)):=⟨by
          rw[HZ.out];unfold toStep
          rw[if_pos]
          ·rw[Int.toNat_natCast,Int.toNat_natCast, ← HXX.out]
          show (Z.1 (b:Int).toNat q).f=true;rw[Int.toNat_natCast, ← HXX.out]⟩
         clear HZ HXX
         go_wp2_with ((with_reducible refine aH (N:=9) rfl ?_);refine qbx (N:=9) (cs:=#[.int .i64 0,.int .i64 0,.bool false]) (t:=68) ?_;intro g9 hg wn bR hb9;have B9:=ah.mk bR;have HB9:=ah.mk hb9;have GE9:=ah.mk (show wr.heap.size≤g9 from Mi);clear hg hb9 bR;have TV:=ak B9.out 0;have TW:=ak B9.out 1;have TY:=ak B9.out 2;have Ua:wn.cell? ⟨g9,0,none⟩=some (.int .i64 0):=(aj B9.out 0).trans rfl;have Ub:wn.cell? ⟨g9,1,none⟩=some (.int .i64 0):=(aj B9.out 1).trans rfl;have Uc:wn.cell? ⟨g9,2,none⟩=some (.bool false):=(aj B9.out 2).trans rfl;have Ud:∀ u v t,(((wn.setCell ⟨g9,0,none⟩ u).setCell ⟨g9,1,none⟩ v).setCell ⟨g9,2,none⟩ t).cell? ⟨g9,2,none⟩=some t:=fun u v t=>(aj (aW (aW (aW B9.out 0 u rfl) 1 v rfl) 2 t rfl) 2).trans rfl)
         have HBX:=bF (j:=2) (v:=.bool true) (bF (j:=1) (v:=.int .i64 xd) (bF (j:=0) (v:=.int .i64 xr) HB9.out GE9.out) GE9.out) GE9.out
         have HA2:=ah.mk (HA.out.move HBX)
         have p72:=ah.mk (aA p7.out HBX)
         have p92:=ah.mk (aW (cs':=#[.int .i64 xr,.int .i64 xd,.bool true]) (aW (cs':=#[.int .i64 xr,.int .i64 xd,.bool false]) (aW (cs':=#[.int .i64 xr,.int .i64 0,.bool false]) B9.out 0 (.int .i64 xr) rfl) 1 (.int .i64 xd) rfl) 2 (.bool true) rfl)
         clear Ua Ub Uc Ud TV TW TY B9 HB9 GE9 HBX HA p7 cm0 cm1 cm2
         generalize ((wn.setCell ⟨g9,0,none⟩ (.int .i64 xr)).setCell ⟨g9,1,none⟩ (.int .i64 xd)).setCell ⟨g9,2,none⟩ (.bool true)=W6 at HA2 p72 p92 ⊢
         have Td:W6.cell? ⟨g7,0,none⟩=some (.int .i64 (a:Int)):=(aj p72.out 0).trans rfl
         have Tf:W6.cell? ⟨g7,2,none⟩=some (.int .i64 f2):=(aj p72.out 2).trans rfl
         have ah4:W6.cell? ⟨g9,0,none⟩=some (.int .i64 xr):=(aj p92.out 0).trans rfl
         have aqB:W6.cell? ⟨g9,1,none⟩=some (.int .i64 xd):=(aj p92.out 1).trans rfl
         have adj:W6.cell? ⟨g1,0,none⟩=some (.slice (some dd) n c0):=(aj HA2.out.b1 0).trans rfl
         obtain⟨dd',hD',dA⟩:=Kd.iC (Kd.gX HR0.out HA2.out.bel) (a:Int) o0 o1
         cases hD'
         rw[Int.toNat_natCast]at dA
         go_still_tail 19,qz9
         change wpList _ _ _ _ _ W6.drew
         go_wp2_with ((with_reducible refine aH (N:=87) rfl ?_);(refine xY (some 87) rfl rfl Tryz.func37 rfl qz9 #[.int .i64 (a:Int),.int .i64 (q:Int),.agg #[.int .i64 (wrap64 (xr+f2)),.int .i64 (wrap64 (xd+rd d (a:Int))),.bool true]] rfl rfl (by simp[Act.eval,Act.put,IntWalk.i64_left]) ?_;refine(VY a q (yT d ⟨(a:Int),(b:Int),f2⟩ ⟨xr,xd,true⟩) Z.2 hi0 hlq hn HA2.out.mat.drew (dS HA2.out.b4) HA2.out.h4).mono ?_;rintro e w3 ⟨rfl,hp⟩;refine⟨_,rfl,?_⟩;have n0_:=ah.mk ((HA2.out.move (bG (Below.refl _ _))).anu hp);have n1_:=ah.mk ((HA2.out.move (bG (Below.refl _ _))).other hp (dS p72.out) (by decide) (by decide));clear HA2 p72 hp;have HA:=n0_;have p7:=n1_;clear n0_ n1_ Td Tf ah4 aqB adj dA))
         go_roundg gq3
         case measure=>omega
         case rel=>exact⟨q+1,by go_num,⟨qz3 HQ⟩,p7,by rw[HV.out];exact HA⟩
       have hq:q=n:=by have:=HQ.out;omega
       have f1:decide ((q:Int)<(n:Int))=false:=decide_eq_false (by omega)
       have f2':decide (q<n)=false:=decide_eq_false hlq
       have wj:IntKind.i64.wrap ((j:Int)+1)=(j:Int)+1:=IntWalk.i64_in _ ⟨by omega,by omega⟩
       have HV:ah (zR d ws n (M,false) (j+1)=toN d ⟨(a:Int),(b:Int),f2⟩ S1 q):=⟨by rw[HX.out,hq];unfold vY;rw[Int.toNat_natCast,Int.toNat_natCast, ← HS1.out]⟩
       clear hq
       go_wp2
       go_roundg gq2
       case measure=>omega
       case rel=>exact⟨j+1,by go_num,⟨qz3 HJ⟩,by rw[HV.out];exact HA⟩
     have hj:j=m:=by have:=HJ.out;omega
     have f1:decide ((j:Int)<(m:Int))=false:=decide_eq_false (by omega)
     have f2:decide (j<m)=false:=decide_eq_false hlj
     have HV:ah (rW d ws n M=zR d ws n (M,false) j):=⟨by rw[hj,HM0.out];rfl⟩
     clear hj
     obtain⟨⟨M2,ch2⟩,hS2⟩:∃ S2:MB,S2=zR d ws n (M,false) j:=⟨_,rfl⟩
     rw[← hS2]at HS HV
     have HF2:ah ((ch2=true∧Ot d ws n gq M2=some R)∨(ch2=false∧M2=R)):=⟨by
      have h:=HAF.out
      unfold Ot at h
      rw[HV.out]at h
      cases ch2 with
      |true=>rw[if_pos rfl]at h;exact .inl ⟨rfl,h⟩
      |false=>rw[if_neg (show ¬(false=true) from Bool.false_ne_true)]at h;exact .inr ⟨rfl,Option.some.inj h⟩⟩
     clear hS2 HAF
     have c4:wr.cell? ⟨g4,0,none⟩=some (.bool ch2):=(aj HS.out.b4 0).trans rfl
     go_wp2_with ((with_reducible refine aH (N:=4) rfl ?_);refine qbx (N:=4) (cs:=#[.bool false]) (t:=4) ?_;intro g5 hg wn bR hb5;have GE5:=ah.mk (show w.heap.size≤g5 by rw[hg];exact aG HS.out.bel);have B5:=ah.mk bR;have HA5:=ah.mk (HS.out.move hb5);clear hg hb5 bR;have z5:=ak B5.out 0;have c5:wn.cell? ⟨g5,0,none⟩=some (.bool false):=(aj B5.out 0).trans rfl)
     go_roundg gq
     case measure=>omega
     case rel=>exact⟨g5,(M2,ch2),rfl,HF2,⟨⟨dJ HA5.out.b1 (p:=⟨g5,0,none⟩) (jq HA5.out.b1 B5.out (by decide)) _,HA5.out.mat.far B5.out (by decide) (by decide) (by decide) 0 _,aW B5.out 0 _ rfl,GE5.out,HA5.out.bel.setCell GE5.out _⟩⟩⟩
end Go.Proofs.YtalkmhnlgfncmaaGreatDoor.X
end
section
/- The program's allBetween: what it answers. Conditions: wires lead from vertices to vertices. -/
namespace Go.Proofs.YtalkmhnlgfncmaaGreatDoor.X
open Go.RowKit Go.Proofs.YtalkmhnlgfncmaaGreatDoorW.aC Go.Proofs.YtalkmhnlgfncmaaGreatDoorW.aN Go.Proofs.YtalkmhnlgfncmaaGreatDoorW.aT
def toS (x:Bt):S68:=⟨x.r,x.d,x.f⟩
def Cm (n:Nat) (M:Nat→Nat→Bt) (i:Nat):List S68:=(List.range n).map fun j=>toS (M i j)
def kQ (n:Nat) (M:Nat→Nat→Bt):List (List S68):=(List.range n).map fun i=>Cm n M i
theorem Es (n:Nat) (M:Nat→Nat→Bt) (i j:Nat) (hj:j<n):(Cm n M i)[j]?=some (toS (M i j)):=by simp[Cm,hj]
theorem zS (n:Nat) (M:Nat→Nat→Bt) (i:Nat) (hi:i<n):(kQ n M)[i]?=some (Cm n M i):=by simp[kQ,hi]
theorem Ue (cs:List Value) (j:Nat) (u v t:Value) (h0:cs[j*3]?=some u) (h1:cs[j*3+1]?=some v) (h2:cs[j*3+2]?=some t):(cs.drop (j*3)).take 3=[u,v,t]:=by
 apply List.ext_getElem?
 intro i
 rw[List.getElem?_take]
 rcases i with _|_|_|i
 ·rw[if_pos (by omega),List.getElem?_drop];simpa using h0
 ·rw[if_pos (by omega),List.getElem?_drop];simpa using h1
 ·rw[if_pos (by omega),List.getElem?_drop];simpa using h2
 rw[if_neg (by omega)];rfl
theorem sU.ah5 {B n:Nat} {w:World} {g3 GR:Nat} {Gs:Nat→Nat} {cR:Nat} {M:Nat→Nat→Bt} (h:sU B n w g3 GR Gs cR M) (hn:n≤maxLen) (ok:Nat→Prop) (i:Nat) (hi:i<n) (hok:ok (Gs i)):Kd.R k68 68 w B ok (.slice (some ⟨Gs i,0,none⟩) n n) (Cm n M i):=by
 obtain⟨cells,q1,q2,q3⟩:=h.blk i hi
 have hl:(Cm n M i).length=n:=by simp[Cm]
 refine⟨fun k hk=>?_,cells.toList,⟨?_,?_⟩,?_,?_⟩
 ·have:Gs i=k:=by simpa [Value.ownBlock]using hk
  rw[← this];exact hok
 ·rw[hl,Array.length_toList];exact q2
 ·rw[hl]
  refine .inr ⟨Gs i,n,cells,rfl,h.hs i hi,q1,Nat.le_refl _,hn,q2,?_⟩
  show cells.toList.take (n*3)=cells.toList
  rw[← q2, ← Array.length_toList,List.take_length]
 ·rw[hl,Array.length_toList];exact q2
 intro j p hp
 have hj:j<n:=by
  obtain⟨hh,_⟩:=List.getElem?_eq_some_iff.1 hp
  omega
 rw[Es n M i j hj]at hp
 obtain rfl:=Option.some.inj hp
 obtain⟨k0,k1,k2⟩:=q3 j hj
 have e:=Ue cells.toList j _ _ _ (by rw[Array.getElem?_toList];exact k0) (by rw[Array.getElem?_toList];exact k1) (by rw[Array.getElem?_toList];exact k2)
 show k68.M _ _ _ _ ((cells.toList.drop (j*3)).take 3)
 rw[e]
 exact XL _ _ _ _
open Classical in
theorem sU.aqC {B n:Nat} {w:World} {g3 GR:Nat} {Gs:Nat→Nat} {cR:Nat} {M:Nat→Nat→Bt} (h:sU B n w g3 GR Gs cR M) (hn:n≤maxLen):Kd.S (Kd.slice 68 k68) 69 w B (fun _=>True) (.slice (some ⟨GR,0,none⟩) n cR) (kQ n M):=by
 obtain⟨cells,q1,⟨q2,q3,q4⟩,q5⟩:=h.row
 have hl:(kQ n M).length=n:=by simp[kQ]
 have hz:(kQ n M).zipIdx.length=n:=by rw[List.length_zipIdx,hl]
 have hv:cells.toList.take n=kI n Gs n:=by
  apply List.ext_getElem?
  intro i
  rw[List.getElem?_take]
  by_cases hi:i<n
  ·rw[if_pos hi,Array.getElem?_toList,q5 i hi]
   simp[kI,hi]
  rw[if_neg hi,List.getElem?_eq_none (by rw[vk];omega)]
 refine⟨fun k=>if hk:∃ i,i<n∧Gs i=k then hk.choose else 0,fun _ _=>trivial,kI n Gs n,⟨?_,?_⟩,?_,?_⟩
 ·rw[hz,vk];simp[Kd.slice,Kd.tag]
 ·rw[hz]
  refine .inr ⟨GR,cR,cells,rfl,h.hR,q1,q3,q4,?_,?_⟩
  ·show cells.size=cR*1
   omega
  show cells.toList.take (n*1)=_
  rw[Nat.mul_one];exact hv
 ·rw[hz,vk];simp[Kd.slice,Kd.tag]
 intro j p hp
 have hj:j<n:=by
  obtain⟨hh,_⟩:=List.getElem?_eq_some_iff.1 hp
  omega
 rw[List.getElem?_zipIdx,zS n M j hj,Nat.zero_add]at hp
 obtain rfl:=Option.some.inj hp
 have hf:(if hk:∃ i,i<n∧Gs i=Gs j then hk.choose else 0)=j:=by
  have hk:∃ i,i<n∧Gs i=Gs j:=⟨j,hj,rfl⟩
  rw[dif_pos hk]
  exact h.inj _ _ hk.choose_spec.1 hj hk.choose_spec.2
 refine⟨.slice (some ⟨Gs j,0,none⟩) n n,?_,h.ah5 hn _ j hj ⟨⟨trivial,?_⟩,hf⟩⟩
 ·show ((kI n Gs n).drop (j*1)).take 1=_
  rw[Nat.mul_one]
  have e:(kI n Gs n)[j]?=some (.slice (some ⟨Gs j,0,none⟩) n n):=by simp[kI,hj]
  obtain⟨hh,he⟩:=List.getElem?_eq_some_iff.1 e
  rw[List.drop_eq_getElem_cons hh,he];rfl
 obtain⟨cj,r1,_⟩:=h.blk j hj
 have:=jq r1 q1 (by decide)
 simpa [Value.ownBlock]using this
instance (l0:List Int) (l1:List S40):Decidable (∀ w∈l1,jg l0.length w):=List.decidableBAll _ l1
def dh.f (k:Nat) (l0:List Int) (l1:List S40):Option (List (List S68)):=
 if 1≤l0.length∧l0.length≤1000000∧l1.length≤1000000∧∀ w∈l1,jg l0.length w then(Ot l0 l1 l0.length k (fun _ _=>zB)).bind fun M=>some (kQ l0.length M)else none
theorem dh.calls (k:Nat) (eT:Option Addr) (eG:Nat) (bK:List Int) (fE:Option Addr) (eH:Nat) (bf:List (S40)) (r:List (List S68)) (w:World) (lZ:Kd.C (Kd.int .i64) w eT bK.length bK) (nV:bK.length≤eG) (lV:Kd.C k40 w fE bf.length bf) (nJ:bf.length≤eH) (h:dh.f k bK bf=some r):
  Calls Tryz.prog 20 #[.agg #[.slice eT bK.length eG,.slice fE bf.length eH]] w fun e w'=>∃ v0_:Value,e= .returned (v0_)∧Kd.S (Kd.slice 68 k68) 69 w' w.heap.size (fun _=>True) v0_ r∧Below w.heap.size w w':=by
 unfold dh.f at h
 by_cases hc:1≤bK.length∧bK.length≤1000000∧bf.length≤1000000∧∀ w∈bf,jg bK.length w
 ·rw[if_pos hc]at h
  obtain⟨M,hM,h⟩:=Option.bind_eq_some_iff.mp h
  obtain rfl:=Option.some.inj h
  obtain⟨h1,h2,h3,h4⟩:=hc
  refine(TT eT eG bK fE eH bf bK.length bf.length rfl rfl h1 h2 h3 (fun j hj=>?_) w lZ lV k M hM).mono ?_
  ·refine h4 _ ?_
   unfold au
   rw[Int.toNat_natCast,List.getD_eq_getElem?_getD,List.getElem?_eq_getElem hj]
   exact List.getElem_mem hj
  rintro e w' ⟨GR,cR,g3,Gs,rfl,hm,hb⟩
  exact⟨_,rfl,hm.aqC (by simp only[maxLen];omega),hb⟩
 ·rw[if_neg hc]at h;cases h
end Go.Proofs.YtalkmhnlgfncmaaGreatDoor.X
end
