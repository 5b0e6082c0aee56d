/- My own texts of this seat and its words, merged: XMovesFor, CMovI, Xp21, CForm, CRings, Xp65, CNums, CFlow, XT39. Conditions: as each lemma says. -/
import Derived.Test.YtalkmhnlgfncmaaGreatDoorI24
import Derived.Test.YtalkmhnlgfncmaaGreatDoorI21
import Derived.Test.YtalkmhnlgfncmaaGreatDoorI22
import Derived.Test.YtalkmhnlgfncmaaGreatDoorI23
import Derived.Test.YtalkmhnlgfncmaaGreatDoorXSlim
set_option linter.unusedVariables false
set_option linter.unusedSimpArgs false
section
/- The program's movesFor: what it answers. Conditions: as the definition says. -/
namespace Go.Proofs.YtalkmhnlgfncmaaGreatDoor.X
open Go.RowKit Go.Proofs.YtalkmhnlgfncmaaGreatDoorW.aC Go.Proofs.YtalkmhnlgfncmaaGreatDoorW.aN Go.Proofs.YtalkmhnlgfncmaaGreatDoorW.aT
instance ajj (n:Nat) (l2:List (List S68)):Decidable (∀ r∈l2,r.length=n):=List.decidableBAll _ l2
def gM.f (k:Nat) (l0:List Int) (l1:List S40) (a1:Int) (l2:List (List S68)):Option (List Int×Bool):=
 if 1≤l0.length∧l0.length≤1000000∧l1.length≤1000000∧(∀ w∈l1,jg l0.length w)∧l2.length=l0.length∧(∀ r∈l2,r.length=l0.length)then(bD.f k l0).bind fun mx=>if mx>a1 then some ([],false)else mvF k a1 l0.length l0 l1 l2 (l0.length+1) (List.replicate l0.length 0)else none
theorem gM.calls (k:Nat) (eT:Option Addr) (eG:Nat) (bK:List Int) (fE:Option Addr) (eH:Nat) (bf:List (S40)) (a1:Int) (A2:Option Addr) (c2:Nat) (l2:List (List S68)) (r1:List Int) (r2:Bool) (w:World) (lZ:Kd.C (Kd.int .i64) w eT bK.length bK) (nV:bK.length≤eG) (lV:Kd.C k40 w fE bf.length bf) (nJ:bf.length≤eH) (hr2:Kd.C (Kd.slice 68 k68) w A2 l2.length l2) (hc2:l2.length≤c2) (h:gM.f k bK bf a1 l2=some (r1,r2)):
  Calls Tryz.prog 19 #[.agg #[.slice eT bK.length eG,.slice fE bf.length eH],.int .i64 a1,.slice A2 l2.length c2] w fun e w'=>∃ v:Value,e= .returned (.tuple #[v,.bool r2])∧Kd.R (Kd.int .i64) 2 w' w.heap.size (fun _=>True) v r1∧Below w.heap.size w w':=by
 unfold gM.f at h
 by_cases hc:1≤bK.length∧bK.length≤1000000∧bf.length≤1000000∧(∀ w∈bf,jg bK.length w)∧l2.length=bK.length∧(∀ r∈l2,r.length=bK.length)
 ·rw[if_pos hc]at h
  obtain⟨mx,hmx,h⟩:=Option.bind_eq_some_iff.mp h
  obtain⟨h1,h2,h3,h4,h5,h6⟩:=hc
  have hr2':=hr2
  rw[h5]at hr2'
  have T:=ZW eT eG bK fE eH bf a1 A2 c2 l2 bK.length bf.length rfl rfl h5.symm (fun i hi=>by
   refine h6 _ ?_
   unfold nT
   rw[Int.toNat_natCast,List.getD_eq_getElem?_getD,List.getElem?_eq_getElem (by omega)]
   exact List.getElem_mem (by omega)) nV nJ h1 h2 h3 (fun j hj=>by
   refine h4 _ ?_
   unfold au
   rw[Int.toNat_natCast,List.getD_eq_getElem?_getD,List.getElem?_eq_getElem hj]
   exact List.getElem_mem hj) w lZ lV hr2' k mx hmx r1 r2 h
  rw[h5]
  exact T
 ·rw[if_neg hc]at h;cases h
end Go.Proofs.YtalkmhnlgfncmaaGreatDoor.X
end
section
/- The program's movesFor: its rounds are raises along constraints. Plain; conditions: as each lemma says. -/
namespace Go.Proofs.YtalkmhnlgfncmaaGreatDoor.lU
open Go.RowKit Go.Proofs.YtalkmhnlgfncmaaGreatDoorW.aC Go.Proofs.YtalkmhnlgfncmaaGreatDoorW.aN Go.Proofs.YtalkmhnlgfncmaaGreatDoorW.aT
open Go.Proofs.YtalkmhnlgfncmaaGreatDoor.X Go.Proofs.YtalkmhnlgfncmaaGreatDoor.iP
def mU (s:MC):Mv:=(fun v=>rd s.1 (v:Int),s.2)
def eW (w:S40):Ed:=(w.f0.toNat,w.f1.toNat,- w.f2)
def ePs (P:Int) (M:Nat→Nat→Bt) (i j:Nat):List Ed:=if (M i j).f=true∧(M i j).d>P then [(i,j,1 - (M i j).r)]else []
def eP (P:Int) (n:Nat) (M:Nat→Nat→Bt):List Ed:=(List.range n).flatMap fun i=>(List.range n).flatMap fun j=>ePs P M i j
theorem Ay (a b:List Ed) (s:Mv):ups (a++b) s=ups b (ups a s):=List.foldl_append ..
theorem Pt (l:List Int) (i:Nat) (x:Int) (hi:i<l.length) (v:Nat):rd (l.set i x) (v:Int)=if v=i then x else rd l (v:Int):=by
 unfold rd
 rw[Int.toNat_natCast,List.getD_eq_getElem?_getD,List.getD_eq_getElem?_getD,List.getElem?_set]
 by_cases e:i=v
 ·subst e;simp[hi]
 rw[if_neg e,if_neg (fun h=>e h.symm)]
theorem KZ (s:MC) (i j:Nat) (c x:Int) (hj:j<s.1.length) (hx:x=rd s.1 (i:Int)+c):mU (qx s j x)=up (mU s) (i,j,c):=by
 subst hx
 unfold qx up mU
 simp only
 by_cases h:rd s.1 (j:Int)<rd s.1 (i:Int)+c
 ·rw[if_pos h,if_pos h]
  refine Prod.ext ?_ rfl
  funext v
  exact Pt _ _ _ hj v
 rw[if_neg h,if_neg h]
/-- All moves lie between 0 and t. -/
def Bn (t:Nat) (f:Nat→Int):Prop:=∀ v,0≤f v∧f v≤t
theorem ajk {t:Nat} {s:Mv} (h:Bn t s.1) (e:Ed) (he:e.2.2≤1):Bn (t+1) (up s e).1:=by
 intro v
 have h1:=h v
 have h2:=h e.1
 have h3:=h e.2.1
 unfold up
 split
 ·show 0≤(if v=e.2.1 then s.1 e.1+e.2.2 else s.1 v)∧(if v=e.2.1 then s.1 e.1+e.2.2 else s.1 v)≤ _
  split<;>omega
 show 0≤s.1 v∧s.1 v≤ _
 omega
theorem GH:∀ (es:List Ed) (t:Nat) (s:Mv),Bn t s.1→(∀ e,e∈es→e.2.2≤1)→Bn (t+es.length) (ups es s).1
 |[],_,_,h,_=>h
 |e::es,t,s,h,he=>by
  have:=GH es (t+1) (up s e) (ajk h e (he e (List.mem_cons_self ..))) (fun x hx=>he x (List.mem_cons_of_mem _ hx))
  rw[List.length_cons,show t+(es.length+1)=t+1+es.length by omega]
  exact this
theorem Az (ws:List S40) (s:MC):∀ j,(mwN ws s j).1.length=s.1.length
 |0=>rfl
 |j+1=>by rw[mwN,Av,Di];exact Az ws s j
theorem AA (P:Int) (i:Nat) (row:List S68) (s:MC):∀ j,(mpN P i row s j).1.length=s.1.length
 |0=>rfl
 |j+1=>by
  rw[mpN,Aw]
  split
  ·split
   ·rw[Di];exact AA P i row s j
   exact AA P i row s j
  ·exact AA P i row s j
theorem JF (P:Int) (n:Nat) (rows:List (List S68)) (s:MC):∀ i,(mrN P n rows s i).1.length=s.1.length
 |0=>rfl
 |i+1=>by rw[mrN,AA];exact JF P n rows s i
theorem Pv {n:Nat} {ws:List S40} (hw:∀ w,w∈ws→fQ n w) {s:MC} (hl:s.1.length=n) {t:Nat} (ht:t+ws.length≤1000000) (hb:Bn t (mU s).1):∀ j,j≤ws.length→mU (mwN ws s j)=ups ((ws.take j).map eW) (mU s)
 |0,_=>rfl
 |j+1,hj=>by
  have ih:=Pv hw hl ht hb j (by omega)
  have hlt:j<ws.length:=by omega
  obtain⟨o1,o2,o3,o4,o5,o6⟩:=hw _ (List.getElem_mem hlt)
  have hbj:=GH ((ws.take j).map eW) t (mU s) hb (fun e he=>by
   obtain⟨w,h1,rfl⟩:=List.mem_map.1 he
   have:=hw w (List.mem_of_mem_take h1)
   unfold fQ at this
   show - w.f2≤1
   omega)
  rw[← ih,List.length_map,List.length_take,Nat.min_eq_left (by omega)]at hbj
  have hv:=hbj ws[j].f0.toNat
  have hr:rd (mwN ws s j).1 ws[j].f0=rd (mwN ws s j).1 ((ws[j].f0.toNat:Nat):Int):=by rw[Int.toNat_of_nonneg o1]
  have hv':0≤rd (mwN ws s j).1 ((ws[j].f0.toNat:Nat):Int)∧rd (mwN ws s j).1 ((ws[j].f0.toNat:Nat):Int)≤(t+j:Nat):=hv
  rw[List.take_add_one,List.getElem?_eq_getElem hlt,Option.toList_some,List.map_append,Ay, ← ih,mwN,rX ws j hlt,Av,hr,w64 (by omega) (by omega)]
  exact KZ _ _ _ (- ws[j].f2) _ (by rw[Az,hl];omega) (by omega)
theorem Wy {n:Nat} (P:Int) (M:Nat→Nat→Bt) {s:MC} (hl:s.1.length=n) {t:Nat} (ht:t+n≤1000000) (hb:Bn t (mU s).1) (hM:∀ i j,(M i j).f=true→0≤(M i j).r∧(M i j).r≤1000000) (i:Nat) (hi:i<n):∀ j,j≤n→mU (mpN P i (Cm n M i) s j)=ups ((List.range j).flatMap (ePs P M i)) (mU s)∧Bn (t+j) (mU (mpN P i (Cm n M i) s j)).1
 |0,_=>⟨rfl,hb⟩
 |j+1,hj=>by
  obtain⟨ih,hbj⟩:=Wy P M hl ht hb hM i hi j (by omega)
  have hcell:pU (Cm n M i) (j:Int)=toS (M i j):=by
   unfold pU
   rw[Int.toNat_natCast,List.getD_eq_getElem?_getD,Es _ _ _ _ (by omega)];rfl
  have hstep:mU (mpN P i (Cm n M i) s (j+1))=ups (ePs P M i j) (mU (mpN P i (Cm n M i) s j)):=by
   rw[mpN,hcell,Aw]
   unfold ePs
   show mU (if (M i j).f=true then(if (M i j).d>P then qx _ j (wrap64 (wrap64 (rd _ (i:Int) - (M i j).r)+1))else _)else _)=_
   by_cases h1:(M i j).f=true
   ·by_cases h2:(M i j).d>P
    ·have hr:=hM i j h1
     have hv:0≤rd (mpN P i (Cm n M i) s j).1 (i:Int)∧rd (mpN P i (Cm n M i) s j).1 (i:Int)≤(t+j:Nat):=hbj i
     rw[if_pos h1,if_pos h2,if_pos ⟨h1,h2⟩,w64 (n:=rd (mpN P i (Cm n M i) s j).1 (i:Int) - (M i j).r) (by omega) (by omega),w64 (by omega) (by omega)]
     exact KZ _ i j (1 - (M i j).r) _ (by rw[AA,hl];omega) (by omega)
    rw[if_pos h1,if_neg h2,if_neg (fun h=>h2 h.2)];rfl
   rw[if_neg h1,if_neg (fun h=>h1 h.1)];rfl
  refine⟨?_,?_⟩
  ·rw[List.range_succ,List.flatMap_append,Ay, ← ih,hstep,List.flatMap_cons,List.flatMap_nil,List.append_nil]
  ·rw[hstep]
   have:=GH (ePs P M i j) (t+j) _ hbj (fun e he=>by
    unfold ePs at he
    split at he
    ·rename_i h
     rw[List.mem_singleton]at he
     subst he
     have:=hM i j h.1
     show 1 - (M i j).r≤1
     omega
    cases he)
   intro v
   have h3:=this v
   have h4:(ePs P M i j).length≤1:=by unfold ePs;split<;>simp
   omega
theorem Wz {n:Nat} (P:Int) (M:Nat→Nat→Bt) {s:MC} (hl:s.1.length=n) {t:Nat} (ht:t+n*n≤1000000) (hb:Bn t (mU s).1) (hM:∀ i j,(M i j).f=true→0≤(M i j).r∧(M i j).r≤1000000):∀ i,i≤n→mU (mrN P n (kQ n M) s i)=ups ((List.range i).flatMap fun i=>(List.range n).flatMap (ePs P M i)) (mU s)∧Bn (t+i*n) (mU (mrN P n (kQ n M) s i)).1
 |0,_=>⟨rfl,by rw[Nat.zero_mul];exact hb⟩
 |i+1,hi=>by
  obtain⟨ih,hbi⟩:=Wz P M hl ht hb hM i (by omega)
  have hmul:(i+1)*n≤n*n:=Nat.mul_le_mul_right _ hi
  rw[Nat.succ_mul]at hmul
  have hrow:nT (kQ n M) (i:Int)=Cm n M i:=by
   unfold nT
   rw[Int.toNat_natCast,List.getD_eq_getElem?_getD,zS _ _ _ (by omega)];rfl
  obtain⟨h1,h2⟩:=Wy P M (s:=mrN P n (kQ n M) s i) (by rw[JF,hl]) (t:=t+i*n) (by omega) hbi hM i (by omega) n (Nat.le_refl _)
  rw[mrN,hrow]
  refine⟨?_,?_⟩
  ·rw[h1,List.range_succ,List.flatMap_append,Ay, ← ih,List.flatMap_cons,List.flatMap_nil,List.append_nil]
  ·rw[Nat.succ_mul, ← Nat.add_assoc];exact h2
/-- All constraints. -/
def eA (P:Int) (n:Nat) (ws:List S40) (M:Nat→Nat→Bt):List Ed:=ws.map eW++eP P n M
def Cn (P:Int) (n:Nat) (ws:List S40) (M:Nat→Nat→Bt) (u v:Nat) (x:Int):Prop:=(u,v,x)∈eA P n ws M
theorem JG (P:Int) (n:Nat) (ws:List S40) (rows:List (List S68)) (m:List Int):(lH P n ws rows m).1.length=m.length:=by unfold lH;rw[JF,Az]
theorem Mt {n:Nat} {ws:List S40} (P:Int) (M:Nat→Nat→Bt) (h8:n≤8) (h16:ws.length≤16) (hw:∀ w,w∈ws→fQ n w) (hM:∀ i j,(M i j).f=true→0≤(M i j).r∧(M i j).r≤1000000) {m:List Int} (hl:m.length=n) {t:Nat} (ht:t≤10000) (hb:Bn t fun v=>rd m (v:Int)):
  mU (lH P n ws (kQ n M) m)=ups (eA P n ws M) (mU (m,false))∧Bn (t+80) (mU (lH P n ws (kQ n M) m)).1:=by
 have hnn:n*n≤8*8:=Nat.mul_le_mul h8 h8
 have h1:=Pv hw (s:=(m,false)) hl (t:=t) (by omega) hb ws.length (Nat.le_refl _)
 rw[List.take_length]at h1
 have hb1:=GH (ws.map eW) t (mU (m,false)) hb (fun e he=>by
  obtain⟨w,g1,rfl⟩:=List.mem_map.1 he
  have:=hw w g1
  unfold fQ at this
  show - w.f2≤1
  omega)
 rw[← h1,List.length_map]at hb1
 obtain⟨h2,h3⟩:=Wz P M (s:=mwN ws (m,false) ws.length) (by rw[Az];exact hl) (t:=t+ws.length) (by omega) hb1 hM n (Nat.le_refl _)
 unfold lH
 refine⟨?_,fun v=>?_⟩
 ·rw[h2,h1];unfold eA;rw[Ay];rfl
 ·have:=h3 v;omega
end Go.Proofs.YtalkmhnlgfncmaaGreatDoor.lU
end
section
namespace Go.Proofs.YtalkmhnlgfncmaaGreatDoor.X
open Go.RowKit Go.Proofs.YtalkmhnlgfncmaaGreatDoorW.aC Go.Proofs.YtalkmhnlgfncmaaGreatDoorW.aN Go.Proofs.YtalkmhnlgfncmaaGreatDoorW.aT
attribute [local go_sem] fq fu gJ gK dN dO fA fB
/-! ### spec_l08Is: function 21 -/
def bN.l0:Nat→Int→List Int→List (S40)→Option (Bool)
 |0,_,_,_=>none
 |k+1,x3,x1000,jJ=>if x3<(x1000.length:Int)then((aQ.f k x1000 jJ x3).bind fun ajl=>(if ajl=true then(some false)else(bN.l0 k (wrap64 (x3+1)) x1000 jJ)))else(some true)
def bN.f (k:Nat) (dX:List Int) (bH:List (S40)):Option (Bool):=(aD.f k dX bH).bind fun aeh=>(if aeh=true then(bN.l0 k 0 dX bH)else(some false))
theorem bN.mY:∀ k,(∀ y0 y1 y2,LeO (bN.l0 k y0 y1 y2) (bN.l0 (k+1) y0 y1 y2))
 |0=>fun _ _ _ r h=>by simp[bN.l0]at h
 |k+1=>by
  have ih0:=bN.mY k
  ·intro y0 y1 y2
   unfold bN.l0
   repeat' first
   |(with_reducible exact ih0 _ _ _)
   |(with_reducible exact aD.mono _ _ _)
   |(with_reducible exact aQ.mono _ _ _ _)
   |(with_reducible exact LeO.refl _)
   |(with_reducible exact LeO.none _)
   |(with_reducible refine LeO.ite ?_ ?_)
   |(with_reducible refine LeO.bind ?_ (fun _=>?_))
   |exact ih0 _ _ _
   |exact aD.mono _ _ _
   |exact aQ.mono _ _ _ _
   |exact LeO.none _
   |refine LeO.ite ?_ ?_
   |refine LeO.bind ?_ (fun _=>?_)
theorem bN.mono:∀ a0 a1 k,LeO (bN.f k a0 a1) (bN.f (k+1) a0 a1):=by
 intro a0 a1 k
 have ih0:=bN.mY k
 unfold bN.f
 repeat' first
  |(with_reducible exact ih0 _ _ _)
  |(with_reducible exact aD.mono _ _ _)
  |(with_reducible exact aQ.mono _ _ _ _)
  |(with_reducible exact LeO.refl _)
  |(with_reducible exact LeO.none _)
  |(with_reducible refine LeO.ite ?_ ?_)
  |(with_reducible refine LeO.bind ?_ (fun _=>?_))
  |exact ih0 _ _ _
  |exact aD.mono _ _ _
  |exact aQ.mono _ _ _ _
  |exact LeO.none _
  |refine LeO.ite ?_ ?_
  |refine LeO.bind ?_ (fun _=>?_)
end Go.Proofs.YtalkmhnlgfncmaaGreatDoor.X
end
section
/- Valid flows: both ways tell the same. Conditions: as each lemma says. -/
namespace Go.Proofs.YtalkmhnlgfncmaaGreatDoor.X
open Go.RowKit Go.Proofs.YtalkmhnlgfncmaaGreatDoorW.aC Go.Proofs.YtalkmhnlgfncmaaGreatDoorW.aN Go.Proofs.YtalkmhnlgfncmaaGreatDoorW.aT Go.Proofs.YtalkmhnlgfncmaaGreatDoor.iP
theorem Pw [dG] (l:List Int) (p:Int→Bool) (hp:∀ x,x∈l→dG.f x=some (p x)) (hl:l.length≤1000):∀ (d i k:Nat),i+d=l.length→d<k→
  ∃ r,aJ.l0 k l (l.length:Int) (i:Int)=some r∧decide (r≥0)=(l.drop i).any p
 |0,i,k,hi,hk=>by
  cases k with
  |zero=>omega
  |succ k=>exact⟨-1,by rw[aJ.l0,if_neg (by omega)],by rw[List.drop_of_length_le (by omega)];rfl⟩
 |d+1,i,k,hi,hk=>by
  cases k with
  |zero=>omega
  |succ k=>
   have hlt:i<l.length:=by omega
   rw[aJ.l0,if_pos (by omega),if_pos (by omega),if_pos (by omega),Cz l i hlt,hp _ (List.getElem_mem hlt),Option.bind_some,List.drop_eq_getElem_cons hlt,List.any_cons]
   cases hb:p l[i]with
   |true=>exact⟨i,by rw[if_pos rfl],by simp⟩
   |false=>
    obtain⟨r,h1,h2⟩:=Pw l p hp hl d (i+1) k (by omega) (by omega)
    refine⟨r,?_,by rw[h2];simp⟩
    rw[if_neg (by decide),w64 (by omega) (by omega)]
    rw[Int.natCast_add,Int.natCast_one]at h1
    exact h1
theorem EL [iQ] (l:List S40) (p:S40→Bool) (hp:∀ w,w∈l→iQ.f w.f0 w.f1 w.f2=some (p w)) (hl:l.length≤1000):∀ (d i k:Nat),i+d=l.length→d<k→
  ∃ r,fC.l0 k l (l.length:Int) (i:Int)=some r∧decide (r≥0)=(l.drop i).any p
 |0,i,k,hi,hk=>by
  cases k with
  |zero=>omega
  |succ k=>exact⟨-1,by rw[fC.l0,if_neg (by omega)],by rw[List.drop_of_length_le (by omega)];rfl⟩
 |d+1,i,k,hi,hk=>by
  cases k with
  |zero=>omega
  |succ k=>
   have hlt:i<l.length:=by omega
   rw[fC.l0,if_pos (by omega),if_pos (by omega),if_pos (by omega),rX l i hlt,hp _ (List.getElem_mem hlt),Option.bind_some,List.drop_eq_getElem_cons hlt,List.any_cons]
   cases hb:p l[i]with
   |true=>exact⟨i,by rw[if_pos rfl],by simp⟩
   |false=>
    obtain⟨r,h1,h2⟩:=EL l p hp hl d (i+1) k (by omega) (by omega)
    refine⟨r,?_,by rw[h2];simp⟩
    rw[if_neg (by decide),w64 (by omega) (by omega)]
    rw[Int.natCast_add,Int.natCast_one]at h1
    exact h1
def inB (a b c:Int):Bool:=decide (b≤a)&&decide (a≤c)
theorem xG (a b c:Int):bM.f a b c=some (inB a b c):=by
 unfold bM.f inB;by_cases h:a≥b<;>simp[h]<;>omega
def wE (l0:List Int) (ws:List S40):Bool:=decide (1≤l0.length∧l0.length≤8)&&(decide (ws.length≤16)&&(!(l0.any fun d=> !inB d 0 100)&& !(ws.any fun w=>sZ l0.length w.f0 w.f1 w.f2)))
theorem AB (ws:List S40) (l0:List Int) (n:Nat) (hn:1≤n) (hn8:n≤8) (hm:ws.length≤16):∀ (d i k:Nat),i+d=ws.length→d<k→aD.l1 k n i l0 ws=some (!((ws.drop i).any fun w=>sZ n w.f0 w.f1 w.f2))
 |0,i,k,hi,hk=>by
  cases k with
  |zero=>omega
  |succ k=>rw[aD.l1,if_neg (by omega),List.drop_of_length_le (by omega)];rfl
 |d+1,i,k,hi,hk=>by
  cases k with
  |zero=>omega
  |succ k=>
   have ih:=AB ws l0 n hn hn8 hm d (i+1) k (by omega) (by omega)
   have hlt:i<ws.length:=by omega
   rw[Int.natCast_add,Int.natCast_one]at ih
   rw[aD.l1,if_pos (by omega),if_pos (by omega),rX ws i hlt,w64 (n:=(n:Int) - 1) (by omega) (by omega),w64 (n:=(i:Int)+1) (by omega) (by omega),xG,xG,xG,ih,List.drop_eq_getElem_cons hlt,List.any_cons]
   simp only[Option.bind_some,sZ]
   cases h1:inB ws[i].f0 0 ((n:Int) - 1)<;>cases h2:inB ws[i].f1 0 ((n:Int) - 1)<;>cases h3:inB ws[i].f2 0 20<;>(unfold inB at h1 h2 h3;simp[h1,h2,h3])
theorem xZ (ws:List S40) (l0:List Int) (hn:1≤l0.length) (hn8:l0.length≤8) (hm:ws.length≤16):∀ (d i k:Nat),i+d=l0.length→d+20<k→aD.l0 k (l0.length:Int) i l0 ws=some (!((l0.drop i).any fun d=> !inB d 0 100)&& !(ws.any fun w=>sZ l0.length w.f0 w.f1 w.f2))
 |0,i,k,hi,hk=>by
  cases k with
  |zero=>omega
  |succ k=>
   rw[aD.l0,if_neg (by omega),List.drop_of_length_le (by omega)]
   have:=AB ws l0 l0.length hn hn8 hm ws.length 0 k (by omega) (by omega)
   rw[List.drop_zero]at this
   rw[show ((0:Nat):Int)=0 from rfl]at this
   rw[this];rfl
 |d+1,i,k,hi,hk=>by
  cases k with
  |zero=>omega
  |succ k=>
   have ih:=xZ ws l0 hn hn8 hm d (i+1) k (by omega) (by omega)
   have hlt:i<l0.length:=by omega
   rw[Int.natCast_add,Int.natCast_one]at ih
   rw[aD.l0,if_pos (by omega),if_pos (by omega),Cz l0 i hlt,w64 (n:=(i:Int)+1) (by omega) (by omega),xG,Option.bind_some,ih,List.drop_eq_getElem_cons hlt,List.any_cons]
   cases h1:inB l0[i] 0 100<;>simp
theorem La (k:Nat) (l0:List Int) (ws:List S40) (h0:l0.length≤9223372036854775807) (h1:ws.length≤9223372036854775807) (hk:100<k):aD.f k l0 ws=some (wE l0 ws):=by
 unfold aD.f wE
 rw[xG,Option.bind_some]
 cases k with
 |zero=>omega
 |succ k=>
  by_cases hn:1≤l0.length∧l0.length≤8
  ·have e1:inB (l0.length:Int) 1 8=true:=by unfold inB;simp;omega
   rw[e1,if_pos rfl,decide_eq_true hn]
   by_cases hm:ws.length≤16
   ·have e2:decide ((ws.length:Int)>16)=false:=decide_eq_false (by omega)
    rw[e2,aD.j0,if_neg (by decide),decide_eq_true hm]
    have:=xZ ws l0 hn.1 hn.2 hm l0.length 0 k (by omega) (by omega)
    rw[List.drop_zero]at this
    rw[show ((0:Nat):Int)=0 from rfl]at this
    rw[this];rfl
   have e2:decide ((ws.length:Int)>16)=true:=decide_eq_true (by omega)
   rw[e2,aD.j0,if_pos rfl,decide_eq_false hm];rfl
  ·have e1:inB (l0.length:Int) 1 8=false:=by unfold inB;simp;omega
   rw[e1,if_neg (by decide),aD.j0,if_pos rfl,decide_eq_false hn];rfl
theorem Px (d:Int):jK.f d=some (inB d 0 100):=by unfold jK.f inB;rw[nK];rfl
theorem Lb (k:Nat) (l0:List Int) (ws:List S40) (hk:100<k):iW.f k l0 ws=some (wE l0 ws):=by
 unfold iW.f wE
 by_cases hn:1≤l0.length∧l0.length≤8
 ·have hn':1≤(l0.length:Int)∧(l0.length:Int)≤8:=by omega
  rw[if_pos hn',decide_eq_true hn]
  by_cases hm:ws.length≤16
  ·rw[if_neg (by omega),decide_eq_true hm]
   obtain⟨r,h1,h2⟩:=@Pw Ac l0 (fun d=> !inB d 0 100) (fun x _=>by show (jK.f x).bind _=_;rw[Px];rfl) (by omega) l0.length 0 k (by omega) (by omega)
   obtain⟨q,h3,h4⟩:=@EL (OM l0.length) ws (fun w=>sZ l0.length w.f0 w.f1 w.f2) (fun w _=>rfl) (by omega) ws.length 0 k (by omega) (by omega)
   rw[List.drop_zero]at h2 h4
   unfold aJ.f fC.f
   rw[show ((0:Nat):Int)=0 from rfl]at h1 h3
   rw[h1,h3,Option.bind_some,Option.bind_some, ← h2, ← h4]
   by_cases hr:r≥0
   ·simp[hr]
   simp[hr]
  rw[if_pos (by omega),decide_eq_false hm];rfl
 rw[if_neg (by omega),decide_eq_false hn];rfl
theorem tN {l0:List Int} {ws:List S40} (h:wE l0 ws=true):(1≤l0.length∧l0.length≤8)∧ws.length≤16∧(∀ d,d∈l0→0≤d∧d≤100)∧∀ w,w∈ws→fQ l0.length w:=by
 unfold wE at h
 simp only[Bool.and_eq_true,decide_eq_true_eq,Bool.not_eq_true',List.any_eq_false,inB,sZ]at h
 obtain⟨h1,h2,h3,h4⟩:=h
 refine⟨h1,h2,fun d hd=>?_,fun w hw=>?_⟩
 ·have:=h3 d hd;simp at this;exact this
 have:=h4 w hw
 simp at this
 unfold fQ
 omega
end Go.Proofs.YtalkmhnlgfncmaaGreatDoor.X
end
section
/- No ring without registers: both ways tell the same. Conditions: as each lemma says. -/
namespace Go.Proofs.YtalkmhnlgfncmaaGreatDoor.X
open Go.RowKit Go.Proofs.YtalkmhnlgfncmaaGreatDoorW.aC Go.Proofs.YtalkmhnlgfncmaaGreatDoorW.aN Go.Proofs.YtalkmhnlgfncmaaGreatDoorW.aT Go.Proofs.YtalkmhnlgfncmaaGreatDoor.iP
def led (L:List Bool) (i:Nat) (w:S40):Bool:=(w.f2==0)&&((w.f1==(i:Int))&&L.getD w.f0.toNat false)
def JH (ws:List S40) (i:Nat) (L:List Bool):List Bool:=L.set i (L.getD i false&&ws.any (led L i))
def qy (ws:List S40):Nat→List Bool→List Bool
 |0,L=>L
 |i+1,L=>JH ws i (qy ws i L)
def pW (ws:List S40) (n:Nat):Nat→List Bool
 |0=>List.replicate n true
 |m+1=>qy ws n (pW ws n m)
theorem pK (ws:List S40):∀ (i:Nat) (L:List Bool),(qy ws i L).length=L.length
 |0,_=>rfl
 |i+1,L=>by rw[qy,JH,List.length_set,pK ws i L]
theorem kJ (ws:List S40) (n:Nat):∀ m,(pW ws n m).length=n
 |0=>by simp[pW]
 |m+1=>by rw[pW,pK,kJ ws n m]
theorem JI (k:Nat) (ws:List S40) (n i:Nat) (L:List Bool) (hL:L.length=n) (hm:ws.length≤16) (hw:∀ w,w∈ws→fQ n w) (hk:100<k):yU k ws i L=some (JH ws i L):=by
 unfold yU JH
 obtain⟨r,h1,h2⟩:=@EL (Uv L i) ws (led L i) (fun w hw'=>by
  show leads L i w.f0 w.f1 w.f2=some (led L i w)
  obtain⟨o1,o2,o3,o4,o5,o6⟩:=hw w hw'
  unfold leads led
  cases h1:(w.f2==0)
  ·simp
  cases h2:(w.f1==(i:Int))
  ·simp
  rw[if_pos rfl,if_pos rfl,if_pos (by omega)];rfl) (by omega) ws.length 0 k (by omega) (by omega)
 rw[List.drop_zero]at h2
 rw[show ((0:Nat):Int)=0 from rfl]at h1
 unfold fC.f
 rw[h1,Option.bind_some,h2]
theorem yc (k:Nat) (ws:List S40) (n:Nat) (hm:ws.length≤16) (hw:∀ w,w∈ws→fQ n w) (hk:100<k):∀ (i:Nat) (L:List Bool),L.length=n→oG k ws i L=some (qy ws i L)
 |0,_,_=>rfl
 |i+1,L,hL=>by
  rw[oG,yc k ws n hm hw hk i L hL,Option.bind_some,JI k ws n i _ (by rw[pK];exact hL) hm hw hk];rfl
theorem wF (k:Nat) (ws:List S40) (n:Nat) (hm:ws.length≤16) (hw:∀ w,w∈ws→fQ n w) (hk:100<k):∀ (m:Nat),lX k ws n m=some (pW ws n m)
 |0=>rfl
 |m+1=>by rw[lX,wF k ws n hm hw hk m,Option.bind_some,yc k ws n hm hw hk n _ (kJ ws n m)];rfl
/-- A vertex that is left. -/
def Left (L:List Bool) (v:Nat):Prop:=L.getD v false=true
theorem EM (L:List Bool) (i v:Nat) (b:Bool) (hi:i<L.length):(L.set i b).getD v false=if v=i then b else L.getD v false:=by
 rw[List.getD_eq_getElem?_getD,List.getD_eq_getElem?_getD,List.getElem?_set]
 by_cases e:i=v
 ·subst e;simp[hi]
 rw[if_neg e,if_neg (fun h=>e h.symm)]
theorem Lc {ws:List S40} {n:Nat} (hw:∀ w,w∈ws→fQ n w) {L:List Bool} {i:Nat}:ws.any (led L i)=true↔∃ u,Edge ws u i∧Left L u:=by
 rw[List.any_eq_true]
 constructor
 ·rintro⟨w,h1,h2⟩
  unfold led at h2
  simp only[Bool.and_eq_true,beq_iff_eq]at h2
  obtain⟨o1,_⟩:=hw w h1
  exact⟨w.f0.toNat,⟨w,h1,h2.1,by omega,h2.2.1⟩,h2.2.2⟩
 rintro⟨u,⟨w,h1,h2,h3,h4⟩,h5⟩
 refine⟨w,h1,?_⟩
 unfold led
 simp only[Bool.and_eq_true,beq_iff_eq]
 refine⟨h2,h4,?_⟩
 rw[h3,Int.toNat_natCast];exact h5
theorem wG (ws:List S40) (L:List Bool):∀ (i v:Nat),i≤L.length→Left (qy ws i L) v→Left L v
 |0,_,_,h=>h
 |i+1,v,hi,h=>by
  have hi':i<(qy ws i L).length:=by rw[pK];omega
  unfold Left at h
  rw[qy,JH,EM _ _ _ _ hi']at h
  by_cases e:v=i
  ·rw[if_pos e,Bool.and_eq_true]at h
   subst e
   exact wG ws L v v (by omega) h.1
  ·rw[if_neg e]at h
   exact wG ws L i v (by omega) h
theorem GI (ws:List S40) (n:Nat) (hw:∀ w,w∈ws→fQ n w) (L:List Bool):∀ (i v:Nat),i≤L.length→v<i→Left (qy ws i L) v→∃ u,Left L u∧Edge ws u v
 |0,_,_,h,_=>absurd h (Nat.not_lt_zero _)
 |i+1,v,hi,hv,h=>by
  have hi':i<(qy ws i L).length:=by rw[pK];omega
  unfold Left at h
  rw[qy,JH,EM _ _ _ _ hi']at h
  by_cases e:v=i
  ·rw[if_pos e,Bool.and_eq_true]at h
   obtain⟨u,h1,h2⟩:=(Lc hw).1 h.2
   subst e
   exact⟨u,wG ws L v u (by omega) h2,h1⟩
  ·rw[if_neg e]at h
   exact GI ws n hw L i v (by omega) (by omega) h
theorem Dj (ws:List S40) (n:Nat) (hw:∀ w,w∈ws→fQ n w) (L:List Bool) (C:Nat→Prop) (hC:∀ v,C v→Left L v) (hp:∀ v,C v→∃ u,C u∧Edge ws u v):∀ (i v:Nat),i≤L.length→C v→Left (qy ws i L) v
 |0,v,_,h=>hC v h
 |i+1,v,hi,h=>by
  have hi':i<(qy ws i L).length:=by rw[pK];omega
  have ih:=Dj ws n hw L C hC hp i
  unfold Left
  rw[qy,JH,EM _ _ _ _ hi']
  by_cases e:v=i
  ·rw[if_pos e,Bool.and_eq_true]
   subst e
   obtain⟨u,h1,h2⟩:=hp v h
   exact⟨ih v (by omega) h,(Lc hw).2 ⟨u,h2,ih u (by omega) h1⟩⟩
  ·rw[if_neg e]
   exact ih v (by omega) h
theorem JJ {L:List Bool} {v:Nat} (h:Left L v):v<L.length:=by
 unfold Left at h
 rw[List.getD_eq_getElem?_getD]at h
 rcases Nat.lt_or_ge v L.length with h'|h'
 ·exact h'
 rw[List.getElem?_eq_none h']at h;simp at h
theorem ZX (ws:List S40) (n:Nat) (hw:∀ w,w∈ws→fQ n w):(∃ v,Left (pW ws n n) v)↔∃ v,Plus (Edge ws) v v:=by
 refine aqu (Edge ws) n (fun a b h=>h.lt hw) (fun m v=>Left (pW ws n m) v) (fun v hv=>?_) (fun m v h=>?_) (fun m v h=>?_) (fun m v h=>?_) (fun m C hC hp v hv=>?_)
 ·show (List.replicate n true).getD v false=true
  rw[List.getD_eq_getElem?_getD,List.getElem?_replicate,if_pos hv];rfl
 ·have:=JJ h;rw[kJ]at this;exact this
 ·exact wG ws _ n v (by rw[kJ];exact Nat.le_refl _) h
 ·have hv:=JJ h
  rw[kJ]at hv
  exact GI ws n hw _ n v (by rw[kJ];exact Nat.le_refl _) hv h
 exact Dj ws n hw _ C hC hp n v (by rw[kJ];exact Nat.le_refl _) hv
theorem Ld (l:List Bool) (hl:l.length≤1000):∀ (d i k:Nat),i+d=l.length→d<k→∃ r,bV.l0 k l true (l.length:Int) (i:Int)=some r∧decide (r≥0)=(l.drop i).any id
 |0,i,k,hi,hk=>by
  cases k with
  |zero=>omega
  |succ k=>exact⟨-1,by rw[bV.l0,if_neg (by omega)],by rw[List.drop_of_length_le (by omega)];rfl⟩
 |d+1,i,k,hi,hk=>by
  cases k with
  |zero=>omega
  |succ k=>
   have hlt:i<l.length:=by omega
   obtain⟨r,h1,h2⟩:=Ld l hl d (i+1) k (by omega) (by omega)
   rw[Int.natCast_add,Int.natCast_one]at h1
   have hrd:lS false l (i:Int)=l[i]:=by unfold lS;simp[hlt]
   rw[bV.l0,if_pos (by omega),if_pos (by omega),if_pos (by omega),hrd,List.drop_eq_getElem_cons hlt,List.any_cons]
   cases hb:l[i]with
   |true=>exact⟨i,by rw[if_pos (by rfl)],by simp⟩
   |false=>
    refine⟨r,?_,by rw[h2];simp⟩
    rw[if_neg (by decide),w64 (by omega) (by omega)]
    exact h1
theorem Py (k:Nat) (l0:List Int) (ws:List S40) (hn:l0.length≤8) (hm:ws.length≤16) (hw:∀ w,w∈ws→fQ l0.length w) (hk:100<k):iI.f k l0 ws=some (open Classical in !decide (∃ v,Plus (Edge ws) v v)):=by
 unfold iI.f
 rw[if_pos (by omega),wF k ws l0.length hm hw hk,Option.bind_some]
 obtain⟨r,h1,h2⟩:=Ld (pW ws l0.length l0.length) (by rw[kJ];omega) (pW ws l0.length l0.length).length 0 k (by omega) (by rw[kJ];omega)
 unfold fI.f bV.f
 rw[show ((0:Nat):Int)=0 from rfl]at h1
 rw[h1,Option.bind_some,Option.bind_some,h2,List.drop_zero]
 congr 2
 have key:=ZX ws l0.length hw
 have:(pW ws l0.length l0.length).any id=true↔∃ v,Left (pW ws l0.length l0.length) v:=by
  rw[List.any_eq_true]
  constructor
  ·rintro⟨b,hb,hb2⟩
   obtain⟨v,hv,rfl⟩:=List.mem_iff_getElem.mp hb
   refine⟨v,?_⟩
   unfold Left
   rw[List.getD_eq_getElem?_getD,List.getElem?_eq_getElem hv];exact hb2
  rintro⟨v,hv⟩
  have hl:=JJ hv
  unfold Left at hv
  rw[List.getD_eq_getElem?_getD,List.getElem?_eq_getElem hl]at hv
  exact⟨_,List.getElem_mem hl,hv⟩
 rw[Bool.eq_iff_iff,this,key,@decide_eq_true_iff _ (Classical.propDecidable _)]
theorem Pz (k0:Nat) (l0:List Int) (ws:List S40) (hn:l0.length≤8) (hm:ws.length≤16) (hw:∀ w,w∈ws→fQ l0.length w):∀ (d i k:Nat),i+d=l0.length→d+1001<k→
  ((∃ v,i≤v∧v<l0.length∧yF ws v=true)→bN.l0 k i l0 ws=some false)∧((∀ v,i≤v→v<l0.length→yF ws v=false)→bN.l0 k i l0 ws=some true)
 |0,i,k,hi,hk=>by
  cases k with
  |zero=>omega
  |succ k=>
   rw[bN.l0,if_neg (by omega)]
   exact⟨fun⟨v,h1,h2,_⟩=>by omega,fun _=>rfl⟩
 |d+1,i,k,hi,hk=>by
  cases k with
  |zero=>omega
  |succ k=>
   obtain⟨ih1,ih2⟩:=Pz k0 l0 ws hn hm hw d (i+1) k (by omega) (by omega)
   rw[Int.natCast_add,Int.natCast_one]at ih1 ih2
   rw[bN.l0,if_pos (by omega),Zm ws l0 l0.length i (by omega) hn hm hw k (by omega),Option.bind_some,w64 (by omega) (by omega)]
   cases hb:yF ws i with
   |true=>exact⟨fun _=>by rw[if_pos rfl],fun h=>by have:=h i (by omega) (by omega);rw[hb]at this;simp at this⟩
   |false=>
    refine⟨fun⟨v,h1,h2,h3⟩=>?_,fun h=>?_⟩
    ·rw[if_neg (by decide)]
     refine ih1 ⟨v,?_,h2,h3⟩
     by_cases e:v=i
     ·subst e;rw[hb]at h3;simp at h3
     omega
    ·rw[if_neg (by decide)]
     exact ih2 fun v h1 h2=>h v (by omega) h2
noncomputable def iV (l0:List Int) (ws:List S40):Bool:=wE l0 ws&&(open Classical in !decide (∃ v,Plus (Edge ws) v v))
theorem JK (k:Nat) (l0:List Int) (ws:List S40) (h0:l0.length≤9223372036854775807) (h1:ws.length≤9223372036854775807) (hk:2000<k):bN.f k l0 ws=some (iV l0 ws):=by
 unfold bN.f iV
 rw[La k l0 ws h0 h1 (by omega),Option.bind_some]
 cases hf:wE l0 ws with
 |false=>rfl
 |true=>
  obtain⟨hn,hm,_,hw⟩:=tN hf
  rw[if_pos rfl,Bool.true_and]
  obtain⟨i1,i2⟩:=Pz k l0 ws hn.2 hm hw l0.length 0 k (by omega) (by omega)
  rw[show ((0:Nat):Int)=0 from rfl]at i1 i2
  by_cases hr:∃ v,Plus (Edge ws) v v
  ·obtain⟨v,hv⟩:=hr
   obtain⟨u,_,hu⟩:=zJ hv
   rw[i1 ⟨v,Nat.zero_le _,(hu.lt hw).2,Dc hv⟩,@decide_eq_true _ (Classical.propDecidable _) ⟨v,hv⟩];rfl
  ·rw[i2 fun v _ _=>vF fun h=>hr ⟨v,h⟩,@decide_eq_false _ (Classical.propDecidable _) hr];rfl
theorem mZ (k:Nat) (l0:List Int) (ws:List S40) (hk:2000<k):aX.f k l0 ws=some (iV l0 ws):=by
 unfold aX.f iV
 rw[Lb k l0 ws (by omega),Option.bind_some]
 cases hf:wE l0 ws with
 |false=>rfl
 |true=>
  obtain⟨hn,hm,_,hw⟩:=tN hf
  rw[if_pos rfl,Py k l0 ws hn.2 hm hw (by omega)];rfl
end Go.Proofs.YtalkmhnlgfncmaaGreatDoor.X
end
section
namespace Go.Proofs.YtalkmhnlgfncmaaGreatDoor.X
open Go.RowKit Go.Proofs.YtalkmhnlgfncmaaGreatDoorW.aC Go.Proofs.YtalkmhnlgfncmaaGreatDoorW.aN Go.Proofs.YtalkmhnlgfncmaaGreatDoorW.aT
attribute [local go_sem] fq fu gJ gK dN dO fA fB
/-! ### spec_l08Moves: function 65 -/
def bO.l0:Nat→Int→List Int→Int→Option (Bool)
 |0,_,_,_=>none
 |k+1,x0,x1,x5=>if x5<x0 then(if 0≤x5 then(if x5<(x1.length:Int)then((bM.f (rd x1 x5) (-20) 20).bind fun ajm=>(if ajm=true then(bO.l0 k x0 x1 (wrap64 (x5+1)))else(some false)))else(none))else(none))else(some true)
def bO.f (k:Nat) (a0:Int) (l1:List Int):Option (Bool):=if (l1.length:Int)=a0 then(bO.l0 k a0 l1 0)else(some false)
theorem bO.mY:∀ k,(∀ y0 y1 y2,LeO (bO.l0 k y0 y1 y2) (bO.l0 (k+1) y0 y1 y2))
 |0=>fun _ _ _ r h=>by simp[bO.l0]at h
 |k+1=>by
  have ih0:=bO.mY k
  ·intro y0 y1 y2
   unfold bO.l0
   repeat' first
   |(with_reducible exact ih0 _ _ _)
   |(with_reducible exact LeO.refl _)
   |(with_reducible exact LeO.none _)
   |(with_reducible refine LeO.ite ?_ ?_)
   |(with_reducible refine LeO.bind ?_ (fun _=>?_))
   |exact ih0 _ _ _
   |exact LeO.none _
   |refine LeO.ite ?_ ?_
   |refine LeO.bind ?_ (fun _=>?_)
theorem bO.mono:∀ a0 a1 k,LeO (bO.f k a0 a1) (bO.f (k+1) a0 a1):=by
 intro a0 a1 k
 have ih0:=bO.mY k
 unfold bO.f
 repeat' first
  |(with_reducible exact ih0 _ _ _)
  |(with_reducible exact LeO.refl _)
  |(with_reducible exact LeO.none _)
  |(with_reducible refine LeO.ite ?_ ?_)
  |(with_reducible refine LeO.bind ?_ (fun _=>?_))
  |exact ih0 _ _ _
  |exact LeO.none _
  |refine LeO.ite ?_ ?_
  |refine LeO.bind ?_ (fun _=>?_)
set_option maxHeartbeats 8000000 in
set_option maxRecDepth 100000 in
theorem bO.calls (k:Nat) (a0:Int) (A1:Option Addr) (c1:Nat) (l1:List Int) (r:Bool) (w:World) (hr1:Kd.C (Kd.int .i64) w A1 l1.length l1) (hc1:l1.length≤c1) (h:bO.f k a0 l1=some r):
  Calls Tryz.prog 65 #[.int .i64 a0,.slice A1 l1.length c1] w fun e w'=>e= .returned (.bool r)∧gQ w w':=by
 have HR1:=ah.mk hr1
 have HC1:=ah.mk hc1
 clear hr1 hc1
 have H:(if (l1.length:Int)=a0 then(bO.l0 k a0 l1 0)else(some false))=some r:=h
 clear h
 by_cases c3:(l1.length:Int)=a0
 ·rw[if_pos c3]at H
  have Cy:((l1.length:Int)==a0)=true:=beq_iff_eq.mpr c3
  have Ww:((l1.length:Int)!=a0)=false:=bne_eq_false_iff_eq.mpr c3
  clear c3
  have H':=ah.mk H
  clear H
  go_enter Tryz.func65,Tryz.ntmps65
  go_wp2
  go_loopg [5] k (fun kq v5 w'=>∃ (mF:Int),v5= .int .i64 mF∧ah (bO.l0 kq a0 l1 mF=some r)∧ah (kq≤k)∧gQ w w')
  case atStart=>exact⟨(0),iY,H',⟨Nat.le_refl _⟩,vM⟩
  case round=>
   clear H'
   try clear c1
   try clear p2
   try clear c3
   try clear Cy
   try clear Ww
   obtain⟨mF,rfl,HA,HK1,⟨m1,rfl⟩⟩:=hrel
   cases gk with
   |zero=>exact absurd HA.out (by simp[bO.l0])
   |succ k1=>
    have H:=HA.out
    clear HA
    simp only[bO.l0]at H
    by_cases c4:mF<a0
    ·rw[if_pos c4]at H
     have Il:decide (mF<a0)=true:=decide_eq_true c4
     clear c4
     by_cases c5:0≤mF
     ·rw[if_pos c5]at H
      have Cx:decide (0≤mF)=true:=decide_eq_true c5
      clear c5
      by_cases c6:mF<(l1.length:Int)
      ·rw[if_pos c6]at H
       have adT:decide (mF<(l1.length:Int))=true:=decide_eq_true c6
       clear c6
       obtain⟨ajm,A70,H⟩:=Option.bind_eq_some_iff.mp H
       have A7:=ah.mk A70
       clear A70
       by_cases c8:ajm=true
       ·subst c8
        rw[if_pos rfl]at H
        have H':=ah.mk H
        clear H
        have ZY:0≤(mF:Int):=of_decide_eq_true gN
        have aac:mF<(l1.length:Int):=of_decide_eq_true gN
        obtain⟨ajn,e272,aad⟩:=Kd.iC HR1.out mF ZY aac
        cases e272
        replace ZY:=eq_true ZY
        replace aac:=eq_true aac
        go_wp2_with (first|((with_reducible refine aK (f:=22) rfl ?_);refine dH (some 19) rfl rfl Tryz.func22 qz9 rfl #[.int .i64 (rd l1 mF),.int .i64 (-20),.int .i64 20] rfl jh ?_;(with_reducible refine(bM.calls (rd l1 mF) (-20) 20 true _ A7.out).mono ?_);rintro e w' ⟨rfl,⟨nd,rfl⟩⟩;refine⟨_,rfl,?_⟩))
        go_roundg k1
        case measure=>have:=HK1.out;omega
        case rel=>exact⟨(wrap64 (mF+1)),iY,H',⟨qz3 HK1⟩,vM⟩
       replace c8:=Bool.eq_false_iff.mpr c8
       subst c8
       rw[if_neg (show ¬(false=true) by decide)]at H
       obtain rfl:=Option.some.inj H
       have ZY:0≤(mF:Int):=of_decide_eq_true gN
       have aac:mF<(l1.length:Int):=of_decide_eq_true gN
       obtain⟨ajn,e272,aad⟩:=Kd.iC HR1.out mF ZY aac
       cases e272
       replace ZY:=eq_true ZY
       replace aac:=eq_true aac
       go_wp2_with (first|((with_reducible refine aK (f:=22) rfl ?_);refine dH (some 19) rfl rfl Tryz.func22 qz9 rfl #[.int .i64 (rd l1 mF),.int .i64 (-20),.int .i64 20] rfl jh ?_;(with_reducible refine(bM.calls (rd l1 mF) (-20) 20 false _ A7.out).mono ?_);rintro e w' ⟨rfl,⟨nd,rfl⟩⟩;refine⟨_,rfl,?_⟩))
       go_ret
       exact⟨iY,vM⟩
      rw[if_neg c6]at H
      exact absurd H (by simp)
     rw[if_neg c5]at H
     exact absurd H (by simp)
    ·rw[if_neg c4]at H
     have Il:decide (mF<a0)=false:=decide_eq_false c4
     clear c4
     obtain rfl:=Option.some.inj H
     go_wp2
     go_ret
     exact⟨iY,vM⟩
 ·rw[if_neg c3]at H
  have Cy:((l1.length:Int)==a0)=false:=beq_eq_false_iff_ne.mpr c3
  have Ww:((l1.length:Int)!=a0)=true:=bne_iff_ne.mpr c3
  obtain rfl:=Option.some.inj H
  go_enter Tryz.func65,Tryz.ntmps65
  go_wp2
  go_ret
  exact⟨iY,vM⟩
end Go.Proofs.YtalkmhnlgfncmaaGreatDoor.X
end
section
/- Numbers, their bounds and their copies. Conditions: as each lemma says. -/
namespace Go.Proofs.YtalkmhnlgfncmaaGreatDoor.X
open Go.RowKit Go.Proofs.YtalkmhnlgfncmaaGreatDoorW.aC Go.Proofs.YtalkmhnlgfncmaaGreatDoorW.aN Go.Proofs.YtalkmhnlgfncmaaGreatDoorW.aT
theorem tO (a b c:Int):aU.f a b c=some (decide (b≤a∧a≤c)):=by
 unfold aU.f;by_cases h:a≥b<;>simp[h]<;>omega
theorem UD (a b c:Int):bM.f a b c=some (decide (b≤a∧a≤c)):=by
 unfold bM.f;by_cases h:a≥b<;>simp[h]<;>omega
def mv (x:Int):Bool:=decide (-20≤x∧x≤20)
theorem Lf (k:Nat) (l:List Int) (n i:Int):@aJ.l0 ab2 (k+1) l n i=(if i<n then(if 0≤i then(if i<(l.length:Int)then(if (!mv (rd l i))=true then some i else @aJ.l0 ab2 k l n (wrap64 (i+1)))else none)else none)else some (-1)):=rfl
theorem Lg (l:List Int) (hl:l.length≤4000000):∀ (d k i:Nat),i+d=l.length→d<k→∃ r:Int,@aJ.l0 ab2 k l l.length i=some r∧(r≥0↔(l.drop i).all mv=false)
 |0,k,i,hi,hk=>by
  cases k with
  |zero=>omega
  |succ k=>
   refine⟨-1,by rw[Lf,if_neg (by omega)],?_⟩
   rw[List.drop_eq_nil_of_le (by omega)];simp
 |d+1,k,i,hi,hk=>by
  cases k with
  |zero=>omega
  |succ k=>
   obtain⟨r,hr,hm⟩:=Lg l hl d k (i+1) (by omega) (by omega)
   have hi2:i<l.length:=by omega
   rw[Int.natCast_add,Int.natCast_one]at hr
   rw[Lf,if_pos (by omega),if_pos (by omega),if_pos (by omega),w64 (n:=(i:Int)+1) (by omega) (by omega),qQ l i hi2]
   cases h:mv l[i]
   ·rw[if_pos (show (!false)=true from rfl)]
    refine⟨i,rfl,?_⟩
    rw[List.drop_eq_getElem_cons hi2,List.all_cons,h]
    simp
   ·rw[if_neg (by decide)]
    refine⟨r,hr,?_⟩
    rw[hm,List.drop_eq_getElem_cons hi2,List.all_cons,h,Bool.true_and]
theorem PD (k:Nat) (l:List Int) (hl:l.length≤4000000) (hk:l.length<k):fH.f k l=some (l.all mv):=by
 unfold fH.f aJ.f
 obtain⟨r,hr,hm⟩:=Lg l hl l.length k 0 (by omega) hk
 rw[Int.natCast_zero]at hr
 rw[hr,Option.bind_some]
 congr 1
 rw[List.drop_zero]at hm
 by_cases h:r≥0
 ·rw[decide_eq_true h,hm.1 h];rfl
 rw[decide_eq_false h]
 cases ha:l.all mv
 ·exact absurd (hm.2 ha) h
 rfl
theorem Dk (l:List Int) (hl:l.length≤4000000):∀ (d k i:Nat),i+d=l.length→d<k→bO.l0 k l.length l i=some ((l.drop i).all mv)
 |0,k,i,hi,hk=>by
  cases k with
  |zero=>omega
  |succ k=>rw[bO.l0,if_neg (by omega),List.drop_eq_nil_of_le (by omega)];rfl
 |d+1,k,i,hi,hk=>by
  cases k with
  |zero=>omega
  |succ k=>
   have ih:=Dk l hl d k (i+1) (by omega) (by omega)
   have hi2:i<l.length:=by omega
   rw[Int.natCast_add,Int.natCast_one]at ih
   rw[bO.l0,if_pos (by omega),if_pos (by omega),if_pos (by omega),UD,Option.bind_some,w64 (n:=(i:Int)+1) (by omega) (by omega),qQ l i hi2,ih,List.drop_eq_getElem_cons hi2,List.all_cons]
   have:decide (-20≤l[i]∧l[i]≤20)=mv l[i]:=rfl
   rw[this]
   cases mv l[i]<;>rfl
theorem UE (k:Nat) (l:List Int) (hl:l.length≤4000000) (hk:l.length<k):bO.f k l.length l=some (l.all mv):=by
 unfold bO.f
 rw[if_pos rfl]
 exact Dk l hl l.length k 0 (by omega) hk
end Go.Proofs.YtalkmhnlgfncmaaGreatDoor.X
end
section
/- What the flows' plain laws stand on. Conditions: none. -/
end
section
/- The contract of a printed function over a looser state. Conditions: as printed. -/
namespace Go.Proofs.YtalkmhnlgfncmaaGreatDoor.X
open Go.RowKit Go.Proofs.YtalkmhnlgfncmaaGreatDoorW.aC Go.Proofs.YtalkmhnlgfncmaaGreatDoorW.aN Go.Proofs.YtalkmhnlgfncmaaGreatDoorW.aT
def fT (w0 W:World) (g:Nat) (f0:List Int) (f1:List (S40)):Prop:=∃ A0 c0,∃ A1 c1,W.heap[g]?=some (.cells #[.slice A0 f0.length c0,.slice A1 f1.length c1] 27 (0,0))∧True∧Kd.C (Kd.int .i64) w0 A0 f0.length f0∧Kd.C k40 w0 A1 f1.length f1
theorem fT.grown {w0 W:World} {g:Nat} {f0:List Int} {f1:List (S40)} {W1:World} {row:Option Nat} (h:fT w0 W g f0 f1) (hw:W.grownBy W1 row) (hne:some g≠row):fT w0 W1 g f0 f1:=by
 obtain⟨A0,c0,A1,c1,hb,hg,hr0,hr1⟩:=h
 exact⟨A0,c0,A1,c1,dQ hb hw hne,hg,hr0,hr1⟩
theorem fT.fresh {w0 W:World} {g:Nat} {f0:List Int} {f1:List (S40)} (h:fT w0 W g f0 f1):∀ k,W.heap.size≤k→k≠g:=by
 obtain⟨A0,c0,A1,c1,hb,hg,hr0,hr1⟩:=h
 exact Kd.FX hb
theorem fT.kept {w0 W:World} {g:Nat} {f0:List Int} {f1:List (S40)} {W1:World} {S:Nat→Prop} (h:fT w0 W g f0 f1) (hk:Kept W W1 S) (hne:¬S g):fT w0 W1 g f0 f1:=by
 obtain⟨A0,c0,A1,c1,hb,hg,hr0,hr1⟩:=h
 exact⟨A0,c0,A1,c1,uN hb hk hne,hg,hr0,hr1⟩
theorem fT.below {w0 W:World} {g:Nat} {f0:List Int} {f1:List (S40)} {W1:World} (h:fT w0 W g f0 f1) (hw:Below W.heap.size W W1):fT w0 W1 g f0 f1:=h.grown (oD hw none) (by simp)
theorem fT.alloc {w0 W:World} {g:Nat} {f0:List Int} {f1:List (S40)} (h:fT w0 W g f0 f1) (o:Obj):fT w0 (W.alloc o) g f0 f1:=h.below (bg (Below.refl _ _) o)
theorem fT.drewN {w0 W:World} {g:Nat} {f0:List Int} {f1:List (S40)} (h:fT w0 W g f0 f1) (m:Nat):fT w0 (W.drewN m) g f0 f1:=h
theorem fT.drew {w0 W:World} {g:Nat} {f0:List Int} {f1:List (S40)} (h:fT w0 W g f0 f1):fT w0 W.drew g f0 f1:=h
theorem fT.at_ {w0 W:World} {g:Nat} {f0:List Int} {f1:List (S40)} {w':World} {m:Nat} (hq:W.drewN m=w') (h:fT w0 W g f0 f1):fT w0 w' g f0 f1:=by subst hq;exact fT.drewN h m
theorem fT.apart {w0 W:World} {g:Nat} {f0:List Int} {f1:List (S40)} {α:Type} {d:Kd α} {e:Nat} {base:Nat} {ok:Nat→Prop} {v:Value} {xs:List α} (h:fT w0 W g f0 f1) (ho:d.R e W base ok v xs) (ht:∀ q,q∈e::d.E→q≠27):d.R e W base (fun k=>ok k∧k≠g) v xs:=by
 obtain⟨A0,c0,A1,c1,hb,hg,hr0,hr1⟩:=h
 exact Kd.cO ho hb ht
theorem fT.own_ne {w0 W:World} {g:Nat} {f0:List Int} {f1:List (S40)} {α:Type} {d:Kd α} {e:Nat} {base:Nat} {ok:Nat→Prop} {v:Value} {xs:List α} (h:fT w0 W g f0 f1) (ho:d.R e W base ok v xs) (ht:e≠27):some g≠v.ownBlock:=by
 obtain⟨A0,c0,A1,c1,hb,hg,hr0,hr1⟩:=h
 exact Kd.wT ho hb ht
theorem fT.lt {w0 W:World} {g:Nat} {f0:List Int} {f1:List (S40)} (h:fT w0 W g f0 f1):g<W.heap.size:=by
 obtain⟨A0,c0,A1,c1,hb,hg,hr0,hr1⟩:=h
 exact gD hb
theorem fT.zU {w0 W:World} {g:Nat} {f0:List Int} {f1:List (S40)} {a:Nat} {cs:Array Value} {t:TypeId} {fr:Nat×Nat} (h:fT w0 W g f0 f1) (hb2:W.heap[a]?=some (.cells cs t fr)) (ht:t≠27):g≠a:=by
 obtain⟨A0,c0,A1,c1,hb,hg,hr0,hr1⟩:=h
 rintro rfl
 rw[hb]at hb2
 injection hb2 with hb2
 injection hb2 with _ ht2
 exact ht ht2.symm
theorem fT.far {w0 W:World} {g:Nat} {f0:List Int} {f1:List (S40)} {p:Addr} (h:fT w0 W g f0 f1) (hne:g≠p.block) (u:Value):fT w0 (W.setCell p u) g f0 f1:=by
 obtain⟨A0,c0,A1,c1,hb,hg,hr0,hr1⟩:=h
 exact⟨A0,c0,A1,c1,dJ hb hne u,hg,hr0,hr1⟩
set_option maxHeartbeats 8000000 in
set_option maxRecDepth 100000 in
theorem aD.EN (k:Nat) (g:Nat) (dX:List Int) (bH:List (S40)) (r:Bool) (w0 w:World) (hI:fT w0 w g dX bH) (hB:Below w0.heap.size w0 w) (h:aD.f k dX bH=some r):
  Calls Tryz.prog 39 #[.pointer (some ⟨g,0,none⟩)] w fun e w'=>e= .returned (.bool r)∧fT w0 w' g dX bH∧Below w0.heap.size w0 w'∧aI w w' g none:=by
 have Wh:=Tryz.underlying40
 have HI0:=ah.mk hI
 have HK:=ah.mk (aI.refl w g none)
 have HL:=ah.mk hB.size
 clear hI
 have HW0:=ah.mk hB.size
 have HB:=ah.mk hB
 clear hB
 have H:((bM.f (dX.length:Int) 1 8).bind fun Ui=>(if Ui=true then(aD.j0 k (dX.length:Int) (decide ((bH.length:Int)>16)) dX bH)else(aD.j0 k (dX.length:Int) true dX bH)))=some r:=h
 clear h
 have HC2:=ah.mk H
 clear H
 obtain⟨adq,adr,ads,adt,Ye,aiA,adu,adv⟩:=HI0.out
 have zV:=eZ Ye
 have zW:=fP Ye
 clear Ye aiA
 go_enter Tryz.func39,Tryz.ntmps39
 go_upto_region 2 with(fail)
 go_cut [22] (fun v22 wc=>∃ (kq:Nat) (Eu:Bool),v22= .bool Eu∧ah (aD.j0 kq (dX.length:Int) Eu dX bH=some r)∧ah (kq≤k)∧ah (fT w0 wc g dX bH)∧ah (aI w wc g none)∧ah (Below w0.heap.size w0 wc))
 case first=>
  have H:=HC2.out
  clear HC2
  obtain⟨Ui,A40,H⟩:=Option.bind_eq_some_iff.mp H
  have A4:=ah.mk A40
  clear A40
  by_cases c5:Ui=true
  ·subst c5
   rw[if_pos rfl]at H
   have H':=ah.mk H
   clear H
   go_wp2_with (first|((with_reducible refine aK (f:=22) rfl ?_);refine dH (some 13) rfl rfl Tryz.func22 qz9 rfl #[.int .i64 (dX.length:Int),.int .i64 1,.int .i64 8] rfl jh ?_;(with_reducible refine(bM.calls (dX.length:Int) 1 8 true _ A4.out).mono ?_);rintro e w' ⟨rfl,⟨nd,rfl⟩⟩;refine⟨_,rfl,?_⟩;obtain⟨Wj,Wm,adw,adx,KW,ady,OA,adz⟩:=HI0.out;have vZ:=eZ KW;have wh:=fP KW;clear KW ady))
   go_meet
   case rel=>exact⟨_,(decide ((bH.length:Int)>16)),iY,H',⟨Yf⟩,⟨sF HI0⟩,⟨mM HK⟩,⟨uO HB HI0⟩⟩
  replace c5:=Bool.eq_false_iff.mpr c5
  subst c5
  rw[if_neg (show ¬(false=true) by decide)]at H
  have H':=ah.mk H
  clear H
  go_wp2_with (first|((with_reducible refine aK (f:=22) rfl ?_);refine dH (some 13) rfl rfl Tryz.func22 qz9 rfl #[.int .i64 (dX.length:Int),.int .i64 1,.int .i64 8] rfl jh ?_;(with_reducible refine(bM.calls (dX.length:Int) 1 8 false _ A4.out).mono ?_);rintro e w' ⟨rfl,⟨nd,rfl⟩⟩;refine⟨_,rfl,?_⟩))
  go_meet
  case rel=>exact⟨_,(true),iY,H',⟨Yf⟩,⟨sF HI0⟩,⟨mM HK⟩,⟨uO HB HI0⟩⟩
 case rest=>
  clear HC2
  try clear c2
  try clear p2
  try clear c3
  try clear c5
  try clear zV
  try clear zW
  try clear vZ
  try clear wh
  obtain⟨kq,Eu,rfl,HA,HJ1,HI0,HK,HB⟩:=hcut
  cases kq with
  |zero=>exact absurd HA.out (by simp[aD.j0])
  |succ kj1=>
   have H:=HA.out
   clear HA
   simp only[aD.j0]at H
   by_cases c7:Eu=true
   ·subst c7
    rw[if_pos rfl]at H
    obtain rfl:=Option.some.inj H
    go_wp2
    go_ret
    exact⟨qz7,sF HI0,uO HB HI0,mM HK⟩
   ·replace c7:=Bool.eq_false_iff.mpr c7
    subst c7
    rw[if_neg (show ¬(false=true) by decide)]at H
    have H':=ah.mk H
    clear H
    go_wp2
    go_loopg [4] kj1 (fun kq v4 w'=>∃ (rD:Int),v4= .int .i64 rD∧ah (aD.l0 kq (dX.length:Int) rD dX bH=some r)∧ah (kq≤kj1)∧ah (fT w0 w' g dX bH)∧ah (aI w w' g none)∧ah (Below w0.heap.size w0 w'))
    case atStart=>exact⟨(0),iY,H',⟨Nat.le_refl _⟩,⟨sF HI0⟩,⟨mM HK⟩,⟨uO HB HI0⟩⟩
    case round=>
     clear H'
     try clear c2
     try clear p2
     try clear c3
     try clear c5
     try clear c7
     try clear zV
     try clear zW
     try clear vZ
     try clear wh
     try clear p2
     obtain⟨rD,rfl,HA,HK2,HI0,HK,HB⟩:=hrel
     cases gk with
     |zero=>exact absurd HA.out (by simp[aD.l0])
     |succ k2=>
      have H:=HA.out
      clear HA
      simp only[aD.l0]at H
      by_cases c8:rD<(dX.length:Int)
      ·rw[if_pos c8]at H
       have Ov:decide (rD<(dX.length:Int))=true:=decide_eq_true c8
       clear c8
       by_cases c9:0≤rD
       ·rw[if_pos c9]at H
        have abZ:decide (0≤rD)=true:=decide_eq_true c9
        clear c9
        obtain⟨ado,OB,H⟩:=Option.bind_eq_some_iff.mp H
        have A10:=ah.mk OB
        clear OB
        by_cases c11:ado=true
        ·subst c11
         rw[if_pos rfl]at H
         have H':=ah.mk H
         clear H
         obtain⟨IY,IZ,Ja,Jb,vv,Jc,zX,Ew⟩:=HI0.out
         have xw:=eZ vv
         have xA:=fP vv
         clear vv Jc
         have Gp:0≤(rD:Int):=of_decide_eq_true gN
         have Gq:rD<(dX.length:Int):=of_decide_eq_true gN
         obtain⟨Yg,Yh,om⟩:=Kd.iC zX rD Gp Gq
         cases Yh
         replace om:=aV HB.out om
         replace Gp:=eq_true Gp
         replace Gq:=eq_true Gq
         go_wp2_with (first|((with_reducible refine aK (f:=22) rfl ?_);refine dH (some 39) rfl rfl Tryz.func22 qz9 rfl #[.int .i64 (rd dX rD),.int .i64 0,.int .i64 100] rfl jh ?_;(with_reducible refine(bM.calls (rd dX rD) 0 100 true _ A10.out).mono ?_);rintro e w' ⟨rfl,⟨nd,rfl⟩⟩;refine⟨_,rfl,?_⟩))
         go_roundg k2
         case measure=>have:=HJ1.out;have:=HK2.out;omega
         case rel=>exact⟨(wrap64 (rD+1)),iY,H',⟨Ug HJ1 HK2⟩,⟨sF HI0⟩,⟨mM HK⟩,⟨uO HB HI0⟩⟩
        replace c11:=Bool.eq_false_iff.mpr c11
        subst c11
        rw[if_neg (show ¬(false=true) by decide)]at H
        obtain rfl:=Option.some.inj H
        obtain⟨Yi,Yj,Yk,Yl,Jd,Ym,Je,Yn⟩:=HI0.out
        have xB:=eZ Jd
        have xC:=fP Jd
        clear Jd Ym
        have Gp:0≤(rD:Int):=of_decide_eq_true gN
        have Gq:rD<(dX.length:Int):=of_decide_eq_true gN
        obtain⟨Yg,Yh,om⟩:=Kd.iC Je rD Gp Gq
        cases Yh
        replace om:=aV HB.out om
        replace Gp:=eq_true Gp
        replace Gq:=eq_true Gq
        go_wp2_with (first|((with_reducible refine aK (f:=22) rfl ?_);refine dH (some 39) rfl rfl Tryz.func22 qz9 rfl #[.int .i64 (rd dX rD),.int .i64 0,.int .i64 100] rfl jh ?_;(with_reducible refine(bM.calls (rd dX rD) 0 100 false _ A10.out).mono ?_);rintro e w' ⟨rfl,⟨nd,rfl⟩⟩;refine⟨_,rfl,?_⟩))
        go_ret
        exact⟨qz7,sF HI0,uO HB HI0,mM HK⟩
       rw[if_neg c9]at H
       exact absurd H (by simp)
      ·rw[if_neg c8]at H
       have Ov:decide (rD<(dX.length:Int))=false:=decide_eq_false c8
       clear c8
       have H':=ah.mk H
       clear H
       obtain⟨Yo,Yp,Yq,Yr,Jf,Yt,Yu,Yv⟩:=HI0.out
       have oo:=eZ Jf
       have oq:=fP Jf
       clear Jf Yt
       go_wp2
       go_loopg [5] k2 (fun kq v5 w'=>∃ (lW:Int),v5= .int .i64 lW∧ah (aD.l1 kq (dX.length:Int) lW dX bH=some r)∧ah (kq≤k2)∧ah (fT w0 w' g dX bH)∧ah (aI w w' g none)∧ah (Below w0.heap.size w0 w'))
       case atStart=>exact⟨(0),iY,H',⟨Nat.le_refl _⟩,⟨sF HI0⟩,⟨mM HK⟩,⟨uO HB HI0⟩⟩
       case round=>
        clear H'
        try clear c1
        try clear p1
        try clear q1
        try clear hx1
        try clear c2
        try clear p2
        try clear c3
        try clear c5
        try clear p6
        try clear c7
        try clear c8
        try clear Ov
        try clear c9
        try clear abZ
        try clear p10
        try clear q10
        try clear aqL
        try clear c11
        try clear xw
        try clear xA
        try clear xB
        try clear xC
        try clear oo
        try clear oq
        try clear zV
        try clear zW
        try clear vZ
        try clear wh
        try clear om
        try clear Gp
        try clear p2
        try clear Gq
        obtain⟨lW,rfl,HA,HK3,HI0,HK,HB⟩:=hrel
        cases gk with
        |zero=>exact absurd HA.out (by simp[aD.l1])
        |succ k3=>
         have H:=HA.out
         clear HA
         simp only[aD.l1]at H
         by_cases c15:lW<(bH.length:Int)
         ·rw[if_pos c15]at H
          have Jg:decide (lW<(bH.length:Int))=true:=decide_eq_true c15
          clear c15
          by_cases c16:0≤lW
          ·rw[if_pos c16]at H
           have Jh:decide (0≤lW)=true:=decide_eq_true c16
           clear c16
           obtain⟨t107,adA,H⟩:=Option.bind_eq_some_iff.mp H
           have A17:=ah.mk adA
           clear adA
           by_cases c18:t107=true
           ·subst c18
            rw[if_pos rfl]at H
            obtain⟨adp,adB,H⟩:=Option.bind_eq_some_iff.mp H
            have A19:=ah.mk adB
            clear adB
            by_cases c20:adp=true
            ·subst c20
             rw[if_pos rfl]at H
             obtain⟨t109,adC,H⟩:=Option.bind_eq_some_iff.mp H
             have A21:=ah.mk adC
             clear adC
             by_cases c22:t109=true
             ·subst c22
              rw[if_pos rfl]at H
              have H':=ah.mk H
              clear H
              obtain⟨Yw,Yx,Yy,Yz,Ji,YA,YB,Jj⟩:=HI0.out
              have oK:=eZ Ji
              have oL:=fP Ji
              clear Ji YA
              have vw:0≤(lW:Int):=of_decide_eq_true gN
              have vB:lW<(bH.length:Int):=of_decide_eq_true gN
              obtain⟨Jk,Jl,jv,jw,jy⟩:=kH Jj lW vw vB
              cases Jl
              replace jv:=aV HB.out jv
              replace jw:=aV HB.out jw
              replace jy:=aV HB.out jy
              replace vw:=eq_true vw
              replace vB:=eq_true vB
              go_wp2_with (first|((with_reducible refine aH (N:=6) rfl ?_);(try(refine iq (by rfl) ?_;dsimp only));refine qbx (N:=6) (cs:=#[.int .i64 0,.int .i64 0,.int .i64 0]) (t:=40) ?_;intro gU hg w24 bR hb;replace HB:=ah.mk (av (uO HB HI0) hb);have iN:=ah.mk (bR);have vC:=ah.mk ((yR HK:w.heap.size≤gU));have vD:=ah.mk ((Nat.le_trans HW0.out (yR HK:w.heap.size≤gU):w0.heap.size≤gU));replace HK:=ah.mk (aI.trans (mM HK) (aI.of_below hb g none) (.inl rfl));have jA:=ah.mk ((aae HI0:g≠gU));have mO:=ah.mk ((aaf HI0:gU≠g));replace HI0:=ah.mk (fT.below (sF HI0) hb);clear hb bR hg;have Uj:=mO.out;have Uk:=jA.out;have Eh:w24.cell? ⟨gU,0,none⟩=some (.int .i64 0):=(aj iN.out 0).trans rfl;have Ei:w24.cell? ⟨gU,1,none⟩=some (.int .i64 0):=(aj iN.out 1).trans rfl;have NZ:w24.cell? ⟨gU,2,none⟩=some (.int .i64 0):=(aj iN.out 2).trans rfl;have Ej:=ak iN.out 0;have El:=ak iN.out 1;have Oa:=ak iN.out 2)|((with_reducible refine aK (f:=22) rfl ?_);refine dH (some 61) rfl rfl Tryz.func22 qz9 rfl #[.int .i64 ((au bH lW).f0),.int .i64 0,.int .i64 (wrap64 ((dX.length:Int) - 1))] rfl jh ?_;(with_reducible refine(bM.calls ((au bH lW).f0) 0 (wrap64 ((dX.length:Int) - 1)) true _ A17.out).mono ?_);rintro e w' ⟨rfl,⟨nd,rfl⟩⟩;refine⟨_,rfl,?_⟩)|(go_at_call 22;(with_reducible refine(bM.calls ((au bH lW).f1) 0 (wrap64 ((dX.length:Int) - 1)) true _ A19.out).mono ?_);rintro e w' ⟨rfl,⟨nd,rfl⟩⟩)|(go_at_call 22;(with_reducible refine(bM.calls ((au bH lW).f2) 0 20 true _ A21.out).mono ?_);rintro e w' ⟨rfl,⟨nd,rfl⟩⟩))
              go_roundg k3
              case measure=>have:=HJ1.out;have:=HK2.out;have:=HK3.out;omega
              case rel=>exact⟨(wrap64 (lW+1)),iY,H',⟨by have:=HJ1.out;have:=HK2.out;have:=HK3.out;omega⟩,⟨Io HI0 jA⟩,⟨uP HK vC⟩,⟨Ip HB HI0 vD⟩⟩
             replace c22:=Bool.eq_false_iff.mpr c22
             subst c22
             rw[if_neg (show ¬(false=true) by decide)]at H
             obtain rfl:=Option.some.inj H
             obtain⟨YC,YD,YE,YF,Jm,YG,YH,Jo⟩:=HI0.out
             have Ey:=eZ Jm
             have Ez:=fP Jm
             clear Jm YG
             have vw:0≤(lW:Int):=of_decide_eq_true gN
             have vB:lW<(bH.length:Int):=of_decide_eq_true gN
             obtain⟨Jk,Jl,jv,jw,jy⟩:=kH Jo lW vw vB
             cases Jl
             replace jv:=aV HB.out jv
             replace jw:=aV HB.out jw
             replace jy:=aV HB.out jy
             replace vw:=eq_true vw
             replace vB:=eq_true vB
             go_wp2_with (first|((with_reducible refine aH (N:=6) rfl ?_);(try(refine iq (by rfl) ?_;dsimp only));refine qbx (N:=6) (cs:=#[.int .i64 0,.int .i64 0,.int .i64 0]) (t:=40) ?_;intro gU hg w28 bR hb;replace HB:=ah.mk (av (uO HB HI0) hb);have iN:=ah.mk (bR);have vC:=ah.mk ((yR HK:w.heap.size≤gU));have vD:=ah.mk ((Nat.le_trans HW0.out (yR HK:w.heap.size≤gU):w0.heap.size≤gU));replace HK:=ah.mk (aI.trans (mM HK) (aI.of_below hb g none) (.inl rfl));have jA:=ah.mk ((aae HI0:g≠gU));have mO:=ah.mk ((aaf HI0:gU≠g));replace HI0:=ah.mk (fT.below (sF HI0) hb);clear hb bR hg;have ac8:=mO.out;have ac9:=jA.out;have Ob:w28.cell? ⟨gU,0,none⟩=some (.int .i64 0):=(aj iN.out 0).trans rfl;have Oc:w28.cell? ⟨gU,1,none⟩=some (.int .i64 0):=(aj iN.out 1).trans rfl;have Od:w28.cell? ⟨gU,2,none⟩=some (.int .i64 0):=(aj iN.out 2).trans rfl;have Oe:=ak iN.out 0;have Og:=ak iN.out 1;have Oh:=ak iN.out 2)|((with_reducible refine aK (f:=22) rfl ?_);refine dH (some 61) rfl rfl Tryz.func22 qz9 rfl #[.int .i64 ((au bH lW).f0),.int .i64 0,.int .i64 (wrap64 ((dX.length:Int) - 1))] rfl jh ?_;(with_reducible refine(bM.calls ((au bH lW).f0) 0 (wrap64 ((dX.length:Int) - 1)) true _ A17.out).mono ?_);rintro e w' ⟨rfl,⟨nd,rfl⟩⟩;refine⟨_,rfl,?_⟩)|(go_at_call 22;(with_reducible refine(bM.calls ((au bH lW).f1) 0 (wrap64 ((dX.length:Int) - 1)) true _ A19.out).mono ?_);rintro e w' ⟨rfl,⟨nd,rfl⟩⟩)|(go_at_call 22;(with_reducible refine(bM.calls ((au bH lW).f2) 0 20 false _ A21.out).mono ?_);rintro e w' ⟨rfl,⟨nd,rfl⟩⟩))
             go_ret
             exact⟨qz7,Io HI0 jA,Ip HB HI0 vD,uP HK vC⟩
            replace c20:=Bool.eq_false_iff.mpr c20
            subst c20
            rw[if_neg (show ¬(false=true) by decide)]at H
            obtain rfl:=Option.some.inj H
            obtain⟨YI,YJ,YK,YL,Jp,YM,YN,Jq⟩:=HI0.out
            have EA:=eZ Jp
            have EB:=fP Jp
            clear Jp YM
            have vw:0≤(lW:Int):=of_decide_eq_true gN
            have vB:lW<(bH.length:Int):=of_decide_eq_true gN
            obtain⟨Jk,Jl,jv,jw,jy⟩:=kH Jq lW vw vB
            cases Jl
            replace jv:=aV HB.out jv
            replace jw:=aV HB.out jw
            replace jy:=aV HB.out jy
            replace vw:=eq_true vw
            replace vB:=eq_true vB
            go_wp2_with (first|((with_reducible refine aH (N:=6) rfl ?_);(try(refine iq (by rfl) ?_;dsimp only));refine qbx (N:=6) (cs:=#[.int .i64 0,.int .i64 0,.int .i64 0]) (t:=40) ?_;intro gU hg w32 bR hb;replace HB:=ah.mk (av (uO HB HI0) hb);have iN:=ah.mk (bR);have vC:=ah.mk ((yR HK:w.heap.size≤gU));have vD:=ah.mk ((Nat.le_trans HW0.out (yR HK:w.heap.size≤gU):w0.heap.size≤gU));replace HK:=ah.mk (aI.trans (mM HK) (aI.of_below hb g none) (.inl rfl));have jA:=ah.mk ((aae HI0:g≠gU));have mO:=ah.mk ((aaf HI0:gU≠g));replace HI0:=ah.mk (fT.below (sF HI0) hb);clear hb bR hg;have adF:=mO.out;have adG:=jA.out;have YO:w32.cell? ⟨gU,0,none⟩=some (.int .i64 0):=(aj iN.out 0).trans rfl;have YP:w32.cell? ⟨gU,1,none⟩=some (.int .i64 0):=(aj iN.out 1).trans rfl;have YQ:w32.cell? ⟨gU,2,none⟩=some (.int .i64 0):=(aj iN.out 2).trans rfl;have YR:=ak iN.out 0;have YS:=ak iN.out 1;have YT:=ak iN.out 2)|((with_reducible refine aK (f:=22) rfl ?_);refine dH (some 61) rfl rfl Tryz.func22 qz9 rfl #[.int .i64 ((au bH lW).f0),.int .i64 0,.int .i64 (wrap64 ((dX.length:Int) - 1))] rfl jh ?_;(with_reducible refine(bM.calls ((au bH lW).f0) 0 (wrap64 ((dX.length:Int) - 1)) true _ A17.out).mono ?_);rintro e w' ⟨rfl,⟨nd,rfl⟩⟩;refine⟨_,rfl,?_⟩)|(go_at_call 22;(with_reducible refine(bM.calls ((au bH lW).f1) 0 (wrap64 ((dX.length:Int) - 1)) false _ A19.out).mono ?_);rintro e w' ⟨rfl,⟨nd,rfl⟩⟩))
            go_ret
            exact⟨qz7,Io HI0 jA,Ip HB HI0 vD,uP HK vC⟩
           replace c18:=Bool.eq_false_iff.mpr c18
           subst c18
           rw[if_neg (show ¬(false=true) by decide)]at H
           obtain rfl:=Option.some.inj H
           obtain⟨YU,YV,YW,YX,Jr,YZ,Za,Js⟩:=HI0.out
           have sV:=eZ Jr
           have sW:=fP Jr
           clear Jr YZ
           have vw:0≤(lW:Int):=of_decide_eq_true gN
           have vB:lW<(bH.length:Int):=of_decide_eq_true gN
           obtain⟨Jk,Jl,jv,jw,jy⟩:=kH Js lW vw vB
           cases Jl
           replace jv:=aV HB.out jv
           replace jw:=aV HB.out jw
           replace jy:=aV HB.out jy
           replace vw:=eq_true vw
           replace vB:=eq_true vB
           go_wp2_with (first|((with_reducible refine aH (N:=6) rfl ?_);(try(refine iq (by rfl) ?_;dsimp only));refine qbx (N:=6) (cs:=#[.int .i64 0,.int .i64 0,.int .i64 0]) (t:=40) ?_;intro gU hg w36 bR hb;replace HB:=ah.mk (av (uO HB HI0) hb);have iN:=ah.mk (bR);have vC:=ah.mk ((yR HK:w.heap.size≤gU));have vD:=ah.mk ((Nat.le_trans HW0.out (yR HK:w.heap.size≤gU):w0.heap.size≤gU));replace HK:=ah.mk (aI.trans (mM HK) (aI.of_below hb g none) (.inl rfl));have jA:=ah.mk ((aae HI0:g≠gU));have mO:=ah.mk ((aaf HI0:gU≠g));replace HI0:=ah.mk (fT.below (sF HI0) hb);clear hb bR hg;have adH:=mO.out;have adI:=jA.out;have EC:w36.cell? ⟨gU,0,none⟩=some (.int .i64 0):=(aj iN.out 0).trans rfl;have ED:w36.cell? ⟨gU,1,none⟩=some (.int .i64 0):=(aj iN.out 1).trans rfl;have Zb:w36.cell? ⟨gU,2,none⟩=some (.int .i64 0):=(aj iN.out 2).trans rfl;have EF:=ak iN.out 0;have EG:=ak iN.out 1;have Zc:=ak iN.out 2)|((with_reducible refine aK (f:=22) rfl ?_);refine dH (some 61) rfl rfl Tryz.func22 qz9 rfl #[.int .i64 ((au bH lW).f0),.int .i64 0,.int .i64 (wrap64 ((dX.length:Int) - 1))] rfl jh ?_;(with_reducible refine(bM.calls ((au bH lW).f0) 0 (wrap64 ((dX.length:Int) - 1)) false _ A17.out).mono ?_);rintro e w' ⟨rfl,⟨nd,rfl⟩⟩;refine⟨_,rfl,?_⟩))
           go_ret
           exact⟨qz7,Io HI0 jA,Ip HB HI0 vD,uP HK vC⟩
          rw[if_neg c16]at H
          exact absurd H (by simp)
         ·rw[if_neg c15]at H
          have Jg:decide (lW<(bH.length:Int))=false:=decide_eq_false c15
          clear c15
          obtain rfl:=Option.some.inj H
          obtain⟨Zd,Ze,Zf,Zg,Jt,Zh,Zi,Zj⟩:=HI0.out
          have Ju:=eZ Jt
          have Jv:=fP Jt
          clear Jt Zh
          go_wp2
          go_ret
          exact⟨qz7,sF HI0,uO HB HI0,mM HK⟩
end Go.Proofs.YtalkmhnlgfncmaaGreatDoor.X
end
