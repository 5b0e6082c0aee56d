/- My own texts of this seat and its words, merged: WApart. Conditions: as each lemma says. -/
import Derived.Test.YtalkmhnlgfncmaaGreatDoorI0
import Derived.Test.YtalkmhnlgfncmaaGreatDoorI1
set_option linter.unusedVariables false
set_option linter.unusedSimpArgs false
section
/-! ### 40. Elements whose inner rows lie apart:what is stored into one says nothing of the others.
 S:as R,with an owner function f (block to element's index). H:as S with a hole:of element i its cells alone are told,its blocks are oki. -/
namespace Go.Proofs.YtalkmhnlgfncmaaGreatDoorW.aC
open Go.RowKit
namespace Kd
/-- An element with its index: its blocks are those that f gives to it. -/
def tag {α:Type} (f:Nat→Nat) (d:Kd α):Kd (α×Nat) where
 sz:=d.sz
 E:=d.E
 K:=fun w x cs=>d.K w x.1 cs
 M:=fun w base ok x cs=>d.M w base (fun k=>ok k∧f k=x.2) x.1 cs
 sj:=fun h=>d.sj h
 su:=fun h=>d.su h
 nA:=fun hb h=>d.nA hb h
 kX:=fun h=>d.kX h
 jR:=fun hok h=>d.jR (fun k hk=>⟨hok k hk.1,hk.2⟩) h
 jX:=fun h=>d.jR (fun _ hk=>⟨⟨hk.1.1,hk.2⟩,hk.1.2⟩) (d.jX h)
 nY:=fun hm h=>d.nY (fun k hk=>hm k hk.1) h
 nC:=fun hb h=>d.nC hb h
/-- The cells themselves. -/
def raw (sz:Nat):Kd (List Value) where
 sz:=sz
 E:=[]
 K:=fun _ x cs=>cs=x∧cs.length=sz∧∀ u∈cs,u.oneCell'=true
 M:=fun _ _ _ x cs=>cs=x∧cs.length=sz∧∀ u∈cs,u.oneCell'=true
 sj:=fun h=>h.2.1
 su:=fun h=>h.2.2
 nA:=fun _ h=>h
 kX:=fun h=>h
 jR:=fun _ h=>h
 jX:=fun h=>h
 nY:=fun _ h=>h
 nC:=fun _ h=>h
/-- A row of elements (type e) of the call's own, no two of which lead to one block. -/
def S {α:Type} (d:Kd α) (e:Nat) (w:World) (base:Nat) (ok:Nat→Prop) (v:Value) (xs:List α):Prop:=∃ f,(tag f d).R e w base ok v xs.zipIdx
section
variable {α β:Type} {d:Kd α} {d':Kd β} {e e':Nat} {w w1 W:World} {base b:Nat} {ok ok' okv oku:Nat→Prop} {u v:Value} {xs:List α} {ys:List β}
theorem acS {xs:List α} {j:Nat} {p:α} (h:xs[j]?=some p):xs.zipIdx[j]?=some (p,j):=by rw[List.getElem?_zipIdx,h,Nat.zero_add];rfl
theorem S_R (h:S d e w base ok v xs):d.R e w base ok v xs:=by
 obtain⟨f,h0,inner,ho,hr⟩:=h
 rw[List.length_zipIdx]at ho
 exact⟨h0,inner,ho,by have:=hr.1;rw[List.length_zipIdx]at this;exact this,fun j p hj=>d.jR (fun _ hk=>hk.1) (hr.2 j (p,j) (acS hj))⟩
/-- Where a row begins (any row of one's own begins at its block's head). -/
theorem acT {ad:Addr} {n cap:Nat} (h:d.R e w base ok (.slice (some ad) n cap) xs):∃ g,ad=⟨g,0,none⟩:=by
 obtain⟨_,inner,ho,hr⟩:=h
 rcases ho.2 with⟨hv,_⟩|⟨g,cap',cur,hv,_⟩
 ·cases hv
 injection hv with ha _ _
 injection ha with ha
 exact⟨g,ha⟩
theorem acU {ad:Addr} {n cap:Nat} (h:d.R e W base ok (.slice (some ad) n cap) xs) (z:α) (i:Int) (h0:0≤i) (h1:i<n):
  ∃ c,c.length=d.sz∧d.M W base (fun k=>ok k∧some k≠(Value.slice (some ad) n cap).ownBlock) (xs.getD i.toNat z) c∧∀ j u,c[j]?=some u→W.cell? (ad.add (i.toNat*d.sz+j))=some u:=by
 obtain⟨g,rfl⟩:=acT h
 obtain⟨c,hcl,hM,hcc,_⟩:=acK h z i h0 h1
 refine⟨c,hcl,d.jR (fun k hk=>⟨hk.1,fun he=>hk.2 (by simpa [Value.ownBlock]using he)⟩) hM,fun j u hu=>?_⟩
 rw[acI,Nat.zero_add]
 exact hcc j u hu
/-- A row whose elements lead to nothing: its blocks are its own one. -/
theorem Nv (hE:d.E=[]) (h:d.R e w base ok v xs):d.R e w base (fun k=>some k=v.ownBlock) v xs:=by
 obtain⟨h0,inner,ho,hr⟩:=h
 refine⟨fun k hk=>hk.symm,inner,ho,hr.FN (fun p c hp=>d.jR (fun k hk=>?_) (d.jX hp))⟩
 obtain⟨_,_,_,q,hq,_⟩:=hk
 rw[hE]at hq
 cases hq
theorem ahG (d:Kd α) (e:Nat) (w:World) (base:Nat) (ok:Nat→Prop):S d e w base ok (.slice none 0 0) []:=⟨fun _=>0,Cq _ _ _ _ _⟩
theorem VO (h:S d e w base ok v xs) (hok:∀ k,ok k→ok' k):S d e w base ok' v xs:=by
 obtain⟨f,h⟩:=h
 exact⟨f,bS h hok⟩
theorem ND (h:S d e w base ok v xs):S d e w base (fun k=>ok k∧base≤k∧k<w.heap.size∧∃ q,q∈e::d.E∧∃ cells,w.heap[k]?=some (.cells cells q (0,0))) v xs:=by
 obtain⟨f,h⟩:=h
 exact⟨f,pQ h⟩
theorem acV (h:S d e w base ok v xs) (hm:∀ k,ok k→w1.heap[k]?=w.heap[k]?):S d e w1 base ok v xs:=by
 obtain⟨f,h⟩:=h
 exact⟨f,CU h hm⟩
theorem zH {base':Nat} (h:S d e w base ok v xs) (hb:base'≤base):S d e w base' ok v xs:=by
 obtain⟨f,h⟩:=h
 exact⟨f,dV h hb⟩
theorem acW (h:S d e w base ok v xs) (hm:∀ k,ok k→k<w.heap.size→w1.heap[k]?=w.heap[k]?):S d e w1 base ok v xs:=
 VO (acV (ND h) (fun k hk=>hm k hk.1 hk.2.2.1)) (fun _ hk=>hk.1)
theorem sQ (h:S d e w base ok v xs) (hb:Below w.heap.size w w1):S d e w1 base ok v xs:=acW h (fun k _ hk=>hb.block k hk)
theorem XH (h:S d e w base ok v xs) (o:Obj):S d e (w.alloc o) base ok v xs:=sQ h (bg (Below.refl _ _) o)
theorem acX (h:S d e w base ok v xs):S d e w.drew base ok v xs:=sQ h (wY (Below.refl _ _))
theorem XI (h:S d e w base ok v xs) (m:Nat):S d e (w.drewN m) base ok v xs:=sQ h (bZ (Below.refl _ _) m)
end
section
variable {α β:Type} {d:Kd α} {d':Kd β} {e e' g:Nat} {w w1 W:World} {base b:Nat} {ok ok' okv oku:Nat→Prop} {u v:Value} {xs:List α} {ys:List β}
theorem zI (h:S d e w base ok v xs):∃ A c,v= .slice A xs.length c:=dW (S_R h)
theorem qw {A:Option Addr} {n c:Nat} (h:S d e w base ok (.slice A n c) xs):n=xs.length∧n≤c∧d.C w A xs.length xs:=dF (S_R h)
/-- Only read: its cells and what it leads to, as_ the row has them. -/
theorem XJ {ad:Addr} {n cap:Nat} (h:S d e W base ok (.slice (some ad) n cap) xs) (z:α) (i:Int) (h0:0≤i) (h1:i<n):
 ∃ c,c.length=d.sz∧d.M W base (fun k=>ok k∧some k≠(Value.slice (some ad) n cap).ownBlock) (xs.getD i.toNat z) c∧∀ j u,c[j]?=some u→W.cell? (ad.add (i.toNat*d.sz+j))=some u:=acU (S_R h) z i h0 h1
theorem DN (h:S d e w base ok v xs) (a:Nat) (ha:w.heap.size≤a):S d e w base (fun k=>ok k∧k≠a) v xs:=VO (ND h) (fun k hk=>⟨hk.1,by have:=hk.2.2.1;omega⟩)
end
/-! #### append, make, literals: the new element's blocks are none of the elder ones' -/
section
variable {P:Program} {ops:Array Oper} {rest:List Oper} {o:Oper} {a:Act} {Q:Exit→Act→World→Prop} {Kc:Act→World→Prop} {α:Type}
end
/-! #### a row with a hole: element i is lent, its blocks are oki; of it the row says its cells alone -/
/-- Element i is these cells; the others are d's. -/
def gap {α:Type} (f:Nat→Nat) (d:Kd α) (i:Nat) (c:List Value):Kd (α×Nat) where
 sz:=d.sz
 E:=d.E
 K:=fun w x cs=>(x.2=i→cs=c∧cs.length=d.sz∧∀ u∈cs,u.oneCell'=true)∧(x.2≠i→d.K w x.1 cs)
 M:=fun w base ok x cs=>(x.2=i→cs=c∧cs.length=d.sz∧∀ u∈cs,u.oneCell'=true)∧(x.2≠i→d.M w base (fun k=>ok k∧f k=x.2) x.1 cs)
 sj:=fun {w x cs} h=>by
  by_cases hx:x.2=i
  ·exact(h.1 hx).2.1
  exact d.sj (h.2 hx)
 su:=fun {w x cs} h=>by
  by_cases hx:x.2=i
  ·exact(h.1 hx).2.2
  exact d.su (h.2 hx)
 nA:=fun hb h=>⟨h.1,fun hx=>d.nA hb (h.2 hx)⟩
 kX:=fun h=>⟨h.1,fun hx=>d.kX (h.2 hx)⟩
 jR:=fun hok h=>⟨h.1,fun hx=>d.jR (fun k hk=>⟨hok k hk.1,hk.2⟩) (h.2 hx)⟩
 jX:=fun h=>⟨h.1,fun hx=>d.jR (fun _ hk=>⟨⟨hk.1.1,hk.2⟩,hk.1.2⟩) (d.jX (h.2 hx))⟩
 nY:=fun hm h=>⟨h.1,fun hx=>d.nY (fun k hk=>hm k hk.1) (h.2 hx)⟩
 nC:=fun hb h=>⟨h.1,fun hx=>d.nC hb (h.2 hx)⟩
def H {α:Type} (d:Kd α) (e:Nat) (w:World) (base:Nat) (ok:Nat→Prop) (v:Value) (xs:List α) (i:Int) (oki:Nat→Prop) (c:List Value):Prop:=
 (∀ k,oki k→ok k)∧∃ f,(gap f d i.toNat c).R e w base (fun k=>ok k∧¬oki k) v xs.zipIdx
section
variable {α β:Type} {d:Kd α} {e e' g n cap:Nat} {w w1 W:World} {base:Nat} {ok ok' oki okp:Nat→Prop} {u v:Value} {xs:List α} {i:Int} {c:List Value}
end
section
variable {P:Program} {ops:Array Oper} {rest:List Oper} {o:Oper} {a:Act} {Q:Exit→Act→World→Prop} {α:Type}
end
end Kd
end Go.Proofs.YtalkmhnlgfncmaaGreatDoorW.aC
end
