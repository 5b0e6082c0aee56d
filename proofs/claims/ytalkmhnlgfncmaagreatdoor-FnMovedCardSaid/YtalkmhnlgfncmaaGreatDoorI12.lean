/- My own texts of this seat and its words, merged: WTab. Conditions: as each lemma says. -/
import Derived.Test.YtalkmhnlgfncmaaGreatDoorI1
import Derived.Test.YtalkmhnlgfncmaaGreatDoorI0
set_option linter.unusedVariables false
set_option linter.unusedSimpArgs false
section
/-! ### 50. A region's order in a table, made once a region: each step asks the table (numbers alone), not the operations -/
namespace Go.Proofs.YtalkmhnlgfncmaaGreatDoorW.aN
open Go.Proofs.YtalkmhnlgfncmaaGreatDoorW.aC (ah)
def xq (md:Region.Mode) (o:Oper):List Nat:=(o.after.toList.filter (fun e=>Region.binds md e)).map (fun e=>e.on)
def Iy (md:Region.Mode) (ops:Array Oper) (i:Nat) (oi:Oper):List Nat:=(List.range ops.size).filter fun j=> !(j==i)&&match ops[j]? with
 |some oj=> !(oj.after.any (fun e=>Region.binds md e&&e.on==i)||oi.apart ops oj)
 |none=>false
/-- No select in it; for each operation: what must have come up before it, and what may not come up behind it if it is taken first. -/
def uU (md:Region.Mode) (ops:Array Oper):Bool×List (List Nat×List Nat):=(Region.noSelect ops,(List.range ops.size).map fun i=>match ops[i]? with
 |some o=>(xq md o,Iy md ops i o)
 |none=>([],[]))
def sP (T:List (List Nat×List Nat)) (l:List Bool) (i:Nat):Bool:= !l.getD i true&&match T[i]? with
 |some r=>r.1.all (fun j=>l.getD j false)
 |none=>false
def FZ (T:List (List Nat×List Nat)) (l:List Bool):List Nat:=(List.range T.length).filter (sP T l)
def Nw (T:List (List Nat×List Nat)) (l:List Bool) (i:Nat):Bool:=match T[i]? with
 |some r=>r.2.all (fun j=>l.getD j true)
 |none=>false
def DL (T:List (List Nat×List Nat)) (l:List Bool):Bool:=(List.range T.length).all fun j=> !l.getD j false||match T[j]? with
 |some r=>r.1.all (fun k=>l.getD k false)
 |none=>true
def CY (T:List (List Nat×List Nat)) (i:Nat):Nat→Nat→Bool
 |0,_=>false
 |fuel+1,d=>match T[d]? with
  |some r=>r.1.any fun j=>j==i||CY T i fuel j
  |none=>false
def lastT (T:List (List Nat×List Nat)) (l:List Bool) (ds:List Nat) (i:Nat):Bool:=ds.all fun d=>l.getD d true||CY T i T.length d
section
variable {md:Region.Mode} {ops:Array Oper} {T:Bool×List (List Nat×List Nat)} {l l' li lj lk:Array Bool} {ds:List Nat} {i j k:Nat}
theorem gd (l:Array Bool) (j:Nat) (b:Bool):l.getD j b=l.toList.getD j b:=by simp[Array.getD_eq_getD_getElem?,List.getD_eq_getElem?_getD]
theorem Ga (o:Oper) (p:Nat→Bool):o.after.all (fun e=> !Region.binds md e||p e.on)=(xq md o).all p:=by
 unfold xq
 rw[← Array.all_toList]
 induction o.after.toList with
 |nil=>rfl
 |cons e r ih=>
  rw[List.all_cons,ih,List.filter_cons]
  cases h:Region.binds md e<;>simp
theorem Ny (o:Oper) (p:Nat→Bool):o.after.any (fun e=>Region.binds md e&&p e.on)=(xq md o).any p:=by
 unfold xq
 rw[← Array.any_toList]
 induction o.after.toList with
 |nil=>rfl
 |cons e r ih=>
  rw[List.any_cons,ih,List.filter_cons]
  cases h:Region.binds md e<;>simp
theorem rC:(uU md ops).2.length=ops.size:=by simp[uU]
theorem vV {o:Oper} (h:ops[i]?=some o):(uU md ops).2[i]?=some (xq md o,Iy md ops i o):=by
 have hi:=(Array.getElem?_eq_some_iff.1 h).1
 unfold uU
 rw[List.getElem?_map,List.getElem?_range hi,Option.map_some,h]
theorem vW (h:ops[i]?=none):(uU md ops).2[i]?=none:=by
 have hi:ops.size≤i:=Array.getElem?_eq_none_iff.1 h
 exact List.getElem?_eq_none (by rw[rC];exact hi)
theorem LY:sP (uU md ops).2 l.toList i=(!l.getD i true&&((ops[i]?).map (·.after.all fun e=> !Region.binds md e||l.getD e.on false)).getD false):=by
 unfold sP
 rw[gd]
 cases h:ops[i]? with
 |none=>rw[vW h];rfl
 |some o=>
  rw[vV h]
  simp only[Option.map_some,Option.getD_some]
  rw[← Ga]
  simp only[gd]
theorem ready_eq:Region.ready md ops l=FZ (uU md ops).2 l.toList:=by
 unfold Region.ready FZ
 rw[rC]
 refine List.filter_congr (fun i _=>?_)
 rw[LY]
theorem free_eq:Region.free md ops l i=Nw (uU md ops).2 l.toList i:=by
 unfold Region.free Nw
 cases h:ops[i]? with
 |none=>rw[vW h]
 |some oi=>
  rw[vV h]
  simp only[Iy]
  rw[List.all_filter]
  congr 1
  funext j
  rw[gd]
  cases hj:ops[j]? with
  |none=>cases (j==i)<;>cases (l.toList.getD j true)<;>simp
  |some oj=>
   cases (j==i)<;>cases (l.toList.getD j true)<;>cases (oj.after.any (fun e=>Region.binds md e&&e.on==i)||oi.apart ops oj)<;>simp_all
theorem Nz:Region.zC md ops l=DL (uU md ops).2 l.toList:=by
 unfold Region.zC DL
 rw[rC]
 congr 1
 funext j
 rw[gd]
 cases h:ops[j]? with
 |none=>rw[vW h]
 |some o=>
  rw[vV h]
  simp only
  rw[← Ga]
  simp only[gd]
theorem KO:∀ (fuel d:Nat),Region.rU md ops i fuel d=CY (uU md ops).2 i fuel d
 |0,_=>rfl
 |fuel+1,d=>by
  unfold Region.rU CY
  cases h:ops[d]? with
  |none=>rw[vW h]
  |some o=>
   rw[vV h]
   simp only
   rw[← Ny]
   congr 1
   funext e
   rw[KO fuel]
theorem XC:Region.lastB md ops l ds i=lastT (uU md ops).2 l.toList ds i:=by
 unfold Region.lastB lastT
 rw[rC]
 congr 1
 funext d
 rw[gd,KO]
theorem zG (h:sP T.2 l.toList i=true) (hT:uU md ops=T):(Region.ready md ops l).contains i=true:=by
 subst hT
 rw[ready_eq]
 unfold FZ
 rw[List.contains_iff_mem,List.mem_filter,List.mem_range]
 refine⟨?_,h⟩
 unfold sP at h
 rw[Bool.and_eq_true]at h
 cases hq:(uU md ops).2[i]? with
 |none=>rw[hq]at h;simp at h
 |some r=>exact(List.getElem?_eq_some_iff.1 hq).1
theorem NA (h:(l.toList.set i true==l'.toList)=true):(l.setIfInBounds i true==l')=true:=by
 rw[beq_iff_eq]at h ⊢
 apply Array.ext'
 rw[Array.toList_setIfInBounds]
 exact h
def af5 (T:Bool×List (List Nat×List Nat)) (l l':List Bool) (i:Nat):Bool:=T.1&&Nw T.2 l i&&sP T.2 l i&&(l.set i true==l')
/-- pure_'s condition out of the table. -/
theorem VN (hT:uU md ops=T) (h:af5 T l.toList l'.toList i=true):af4 md ops l l' i=true:=by
 simp only[af5,Bool.and_eq_true]at h
 obtain⟨⟨⟨h1,h2⟩,h3⟩,h4⟩:=h
 have h5:=zG h3 hT
 have h6:=NA h4
 subst hT
 simp only[af4,Bool.and_eq_true]
 exact⟨⟨⟨h1,by rw[free_eq];exact h2⟩,h5⟩,h6⟩
def XD (T:Bool×List (List Nat×List Nat)) (ds:List Nat) (l l':List Bool) (i:Nat):Bool:=T.1&&Nw T.2 l i&&sP T.2 l i&&DL T.2 l&&lastT T.2 l ds i&&(l.set i true==l')
/-- take_'s. -/
theorem XF (hT:uU md ops=T) (h:XD T ds l.toList l'.toList i=true):takeB md ops ds l l' i=true:=by
 simp only[XD,Bool.and_eq_true]at h
 obtain⟨⟨⟨⟨⟨h1,h2⟩,h3⟩,h4⟩,h5⟩,h6⟩:=h
 have h7:=zG h3 hT
 have h8:=NA h6
 subst hT
 simp only[takeB,Bool.and_eq_true]
 exact⟨⟨⟨⟨⟨h1,by rw[free_eq];exact h2⟩,h7⟩,by rw[Nz];exact h4⟩,by rw[XC];exact h5⟩,h8⟩
/-- one_'s and last_'s. -/
theorem nE (hT:uU md ops=T) (h:(FZ T.2 l.toList==[i]&&l.toList.set i true==l'.toList)=true):CX md ops l l' i=true:=by
 simp only[Bool.and_eq_true]at h
 obtain⟨h1,h2⟩:=h
 subst hT
 simp only[CX,Bool.and_eq_true]
 exact⟨by rw[ready_eq];exact h1,NA h2⟩
/-- done_'s. -/
theorem oh (hT:uU md ops=T) (h:(FZ T.2 l.toList==[])=true):(Region.ready md ops l==[])=true:=by
 subst hT
 rw[ready_eq]
 exact h
/-- What d waits for, as_ bits: told in the table (B), checked in one pass: each bit is a need of d, or a bit of an earlier need's. -/
def upM (B:List Nat) (d:Nat):List Nat→Nat
 |[]=>0
 |n::r=>(2 ^ n|||(if n<d then B.getD n 0 else 0))|||upM B d r
def nG (T:List (List Nat×List Nat)) (B:List Nat):Bool:=(List.range T.length).all fun d=>match T[d]? with
 |some r=>(B.getD d 0|||upM B d r.1)==upM B d r.1
 |none=>false
theorem NC {B:List Nat} {d i:Nat}:∀ {ns:List Nat},(upM B d ns).testBit i=true→∃ n∈ns,n=i∨(n<d∧(B.getD n 0).testBit i=true)
 |[],h=>by simp[upM]at h
 |n::r,h=>by
  unfold upM at h
  rw[Nat.testBit_or,Nat.testBit_or,Bool.or_eq_true,Bool.or_eq_true]at h
  rcases h with(h|h)|h
  ·rw[Nat.testBit_two_pow]at h
   exact⟨n,List.mem_cons_self,.inl (by simpa using h)⟩
  ·by_cases hn:n<d
   ·rw[if_pos hn]at h
    exact⟨n,List.mem_cons_self,.inr ⟨hn,h⟩⟩
   rw[if_neg hn]at h
   simp at h
  ·obtain⟨m,hm,h2⟩:=NC h
   exact⟨m,List.mem_cons_of_mem _ hm,h2⟩
theorem Gb {T:List (List Nat×List Nat)} {B:List Nat} (hB:nG T B=true):∀ (fuel d:Nat),d<fuel→d<T.length→(B.getD d 0).testBit i=true→CY T i fuel d=true
 |0,d,h,_,_=>by omega
 |fuel+1,d,h,hd,hb=>by
  have h1:=List.all_eq_true.1 hB d (List.mem_range.2 hd)
  cases hr:T[d]? with
  |none=>rw[hr]at h1;simp at h1
  |some r=>
   rw[hr]at h1
   simp only[beq_iff_eq]at h1
   have h2:(upM B d r.1).testBit i=true:=by rw[← h1,Nat.testBit_or,hb,Bool.true_or]
   obtain⟨n,hn,h3⟩:=NC h2
   unfold CY
   rw[hr]
   simp only
   rw[List.any_eq_true]
   refine⟨n,hn,?_⟩
   rcases h3 with rfl|⟨h4,h5⟩
   ·simp
   ·rw[Gb hB fuel n (by omega) (by omega) h5,Bool.or_true]
def acO (T:List (List Nat×List Nat)) (B:List Nat) (l:List Bool) (ds:List Nat) (i:Nat):Bool:=ds.all fun d=>l.getD d true||(decide (d<T.length)&&(B.getD d 0).testBit i)
def XG (T:Bool×List (List Nat×List Nat)) (B:List Nat) (ds:List Nat) (l l':List Bool) (i:Nat):Bool:=T.1&&Nw T.2 l i&&sP T.2 l i&&DL T.2 l&&acO T.2 B l ds i&&(l.set i true==l')
/-- take_'s, by the bits. -/
theorem TH {B:List Nat} (hT:uU md ops=T) (hB:nG T.2 B=true) (h:XG T B ds l.toList l'.toList i=true):takeB md ops ds l l' i=true:=by
 refine XF hT ?_
 simp only[XG,XD,Bool.and_eq_true]at h ⊢
 obtain⟨⟨⟨⟨⟨h1,h2⟩,h3⟩,h4⟩,h5⟩,h6⟩:=h
 refine⟨⟨⟨⟨⟨h1,h2⟩,h3⟩,h4⟩,?_⟩,h6⟩
 unfold acO at h5
 unfold lastT
 rw[List.all_eq_true]at h5 ⊢
 intro d hd
 have h7:=h5 d hd
 rw[Bool.or_eq_true,Bool.and_eq_true,decide_eq_true_eq]at h7
 rcases h7 with h7|⟨h8,h9⟩
 ·rw[h7,Bool.true_or]
 rw[Gb hB _ d h8 h8 h9,Bool.or_true]
theorem jZ {P:Program} {Q:Exit→Act→World→Prop} {S:World→Prop} {n:Nat} {a:Act} {w:World} {B:List Nat} (hT:uU md ops=T) (hB:nG T.2 B=true) (h:ah (uU md ops=T)→ah (nG T.2 B=true)→dM P md ops Q S ds n l a w):dM P md ops Q S ds n l a w:=h ⟨hT⟩ ⟨hB⟩
end
/-- The operations of a region, by its number. -/
def Cv:Code→Nat→Option (Array Oper)
 | .region id ops _,k=>if id==k then some ops else none
 | .seq a b,k=>match Cv a k with
  |some o=>some o
  |none=>Cv b k
 | .cond _ a b,k=>match Cv a k with
  |some o=>some o
  |none=>Cv b k
 | .block _ c,k=>Cv c k
 | .loop c,k=>Cv c k
 | .scope c,k=>Cv c k
 | .rangeFunc _ _ a b,k=>match Cv a k with
  |some o=>some o
  |none=>Cv b k
 |_,_=>none
def opsOf (f:Func) (k:Nat):Array Oper:=((f.body.bind fun c=>Cv c k)).getD #[]
end Go.Proofs.YtalkmhnlgfncmaaGreatDoorW.aN
end
