/- My own texts of this seat and its words, merged: CForS, XFor, CPeriod, CMvSame, XSMov, Xp6, CMovesFor. Conditions: as each lemma says. -/
import Derived.Test.YtalkmhnlgfncmaaGreatDoorI27
import Derived.BigRegion
import Derived.Test.YtalkmhnlgfncmaaGreatDoorI25
import Derived.Test.YtalkmhnlgfncmaaGreatDoorI24
import Derived.Test.YtalkmhnlgfncmaaGreatDoorI21
import Derived.Test.YtalkmhnlgfncmaaGreatDoorI26
import Derived.Test.YtalkmhnlgfncmaaGreatDoorI22
import Derived.Test.YtalkmhnlgfncmaaGreatDoorI23
import Derived.Test.YtalkmhnlgfncmaaGreatDoorXSlim
set_option linter.unusedVariables false
set_option linter.unusedSimpArgs false
section
/- The reference's l08For, whole: the least solution, or moves that are too great. Plain; conditions: as each lemma says. -/
namespace Go.Proofs.YtalkmhnlgfncmaaGreatDoor.lU
open Go.RowKit Go.Proofs.YtalkmhnlgfncmaaGreatDoorW.aC Go.Proofs.YtalkmhnlgfncmaaGreatDoorW.aN Go.Proofs.YtalkmhnlgfncmaaGreatDoorW.aT
open Go.Proofs.YtalkmhnlgfncmaaGreatDoor.X Go.Proofs.YtalkmhnlgfncmaaGreatDoor.iP
open Go.Proofs.YtalkmhnlgfncmaaGreatDoor.jF (Fl T Wi WI dl Im U Sound Full Bd key hit)
/-- What is known of the program's table. -/
structure Tab (d:List Int) (ws:List S40) (n:Nat) (M:Nat→Nat→Bt):Prop where
 fl:Fl d ws n
 bd:∀ i j,Bd 9000 (M i j)
 snd:∀ i j,(M i j).f=true→∃ k,k≤n∧T (Wi ws) (dl d) i k j (1000000*(M i j).r - (M i j).d)
 full:∀ i k j x,T (Wi ws) (dl d) i k j x→(M i j).f=true∧1000000*(M i j).r - (M i j).d≤x
theorem aeB {d:List Int} {ws:List S40} {n:Nat} {M:Nat→Nat→Bt} (h:Fl d ws n) (hb:∀ u,Bd 9000 ((U (M,false)).1 u)) (hs:Sound (WI d ws) (U (M,false)).1) (hf:Full (WI d ws) (U (M,false)).1):Tab d ws n M where
 fl:=h
 bd:=fun i j=>hb (i,j)
 full:=fun i k j x hT=>hf k (i,j) x hT.rev
 snd:=fun i j hM=>by
  obtain⟨k,hk⟩:=hs (i,j) hM
  have hk:T (Im (Wi ws)) (dl d) j k i (key (M i j)):=hk
  obtain⟨k',x',h1,h2,h3⟩:=jF.short h.aiD _ _ _ hk
  have h4:=hf k' (i,j) x' h3
  have h5:key (M i j)≤x':=h4.2
  have e:x'=1000000*(M i j).r - (M i j).d:=by unfold key at h2 h5;omega
  subst e
  exact⟨k',h1,h3.rev⟩
variable {d:List Int} {ws:List S40} {n:Nat} {P:Int} {M:Nat→Nat→Bt}
/-- Moves that keep all registers from being less than none. -/
structure Keep (ws:List S40) (n:Nat) (m:List Int):Prop where
 len:m.length=n
 pos:∀ v:Nat,0≤rd m (v:Int)∧rd m (v:Int)≤1000
 far:∀ w,w∈ws→rd m w.f0 - w.f2≤rd m w.f1
theorem Qo (hw:∀ w,w∈ws→fQ n w) {m:List Int} (hm:Keep ws n m) {w:S40} (h:w∈ws):(mvW m w).f2=w.f2+rd m w.f1 - rd m w.f0:=by
 obtain⟨o1,o2,o3,o4,o5,o6⟩:=hw w h
 have a:=hm.pos w.f0.toNat
 have b:=hm.pos w.f1.toNat
 rw[Int.toNat_of_nonneg o1]at a
 rw[Int.toNat_of_nonneg o3]at b
 unfold mvW
 simp only
 rw[w64 (n:=w.f2+rd m w.f1) (by omega) (by omega),w64 (by omega) (by omega)]
theorem aaD (hw:∀ w,w∈ws→fQ n w) {m:List Int} (hm:Keep ws n m) {u v:Nat} {x:Int}:Zr d (ws.map (mvW m)) u v x↔∃ c,Wi ws u v c∧rd m (v:Int)=rd m (u:Int) - c∧x=dl d u:=by
 rw[WO]
 constructor
 ·rintro⟨w',h1,h2,rfl,rfl,rfl⟩
  obtain⟨w,hm',rfl⟩:=List.mem_map.1 h1
  rw[Qo hw hm hm']at h2
  have ho:=hw w hm'
  refine⟨w.f2,jF.Wi.of hm' ho,?_,rfl⟩
  obtain⟨o1,o2,o3,o4,o5,o6⟩:=ho
  show rd m ((w.f1.toNat:Nat):Int)=rd m ((w.f0.toNat:Nat):Int) - w.f2
  rw[Int.toNat_of_nonneg o1,Int.toNat_of_nonneg o3]
  omega
 rintro⟨c,⟨w,h1,h2,h3,h4⟩,h5,rfl⟩
 refine⟨mvW m w,List.mem_map.2 ⟨w,h1,rfl⟩,?_,?_,?_,?_⟩
 ·rw[Qo hw hm h1,h2,h3];omega
 ·show u=w.f0.toNat;omega
 ·show v=w.f1.toNat;omega
 show dl d u=rd d w.f0
 rw[jF.Um,show w.f0.toNat=u by omega]
theorem akz (hw:∀ w,w∈ws→fQ n w) {m:List Int} (hm:Keep ws n m) {k v:Nat} {s:Int} (h:Cw (Zr d (ws.map (mvW m))) n k v s):(k=0∧s=0)∨∃ a r,a<n∧T (Wi ws) (dl d) a k v (1000000*r - (s+dl d v))∧rd m (v:Int)=rd m (a:Int) - r:=by
 induction h with
 |start hv=>exact .inl ⟨rfl,rfl⟩
 |@step k u v s x h hc ih=>
  obtain⟨c,h1,h2,h3⟩:=(aaD hw hm).1 hc
  subst h3
  right
  rcases ih with⟨rfl,rfl⟩|⟨a,r,g1,g2,g3⟩
  ·have hu:u<n:=by cases h with
    |start hv=>exact hv
   exact⟨u,c,hu,(T.one (d:=dl d) h1).eqv (by omega),h2⟩
  ·exact⟨a,r+c,g1,(g2.snoc h1).eqv (by omega),by omega⟩
theorem akA (hd:∀ v,0≤dl d v∧dl d v≤100) (hw:∀ w,w∈ws→fQ n w) {m:List Int} (hm:Keep ws n m) {a k v:Nat} {x:Int} (h:T (Wi ws) (dl d) a k v x):∃ r D,x=1000000*r - D∧0≤D∧D≤100*(k+1)∧rd m (a:Int) - r≤rd m (v:Int)∧(rd m (a:Int) - r=rd m (v:Int)→Cw (Zr d (ws.map (mvW m))) n k v (D - dl d v)):=by
 induction h with
 |@one v c h=>
  obtain⟨w,h1,h2,h3,h4⟩:=h
  have hf:=hm.far w h1
  have ho:=hw w h1
  unfold fQ at ho
  have da:=hd a
  have dv:=hd v
  rw[h2,h3,h4]at hf
  refine⟨c,dl d a+dl d v,by omega,by omega,by omega,hf,fun he=>?_⟩
  have hz:Zr d (ws.map (mvW m)) a v (dl d a):=(aaD hw hm).2 ⟨c,⟨w,h1,h2,h3,h4⟩,he.symm,rfl⟩
  exact((Cw.start (by omega)).step hz).eqv (by omega)
 |@snoc k u v x c h hE ih=>
  obtain⟨r,D,g1,g2,g3,g4,g5⟩:=ih
  obtain⟨w,h1,h2,h3,h4⟩:=hE
  have hf:=hm.far w h1
  have dv:=hd v
  rw[h2,h3,h4]at hf
  refine⟨r+c,D+dl d v,by omega,by omega,by omega,by omega,fun he=>?_⟩
  have hz:Zr d (ws.map (mvW m)) u v (dl d u):=(aaD hw hm).2 ⟨c,⟨w,h1,h2,h3,h4⟩,by omega,rfl⟩
  exact((g5 (by omega)).step hz).eqv (by omega)
/-- The moves at the two ends of a pair of the table. -/
theorem Tab.way (h:Tab d ws n M) {m:List Int} (hm:Keep ws n m) {i j:Nat} (hf:(M i j).f=true):rd m (i:Int) - (M i j).r≤rd m (j:Int)∧(rd m (i:Int) - (M i j).r=rd m (j:Int)→∃ k,k≤n∧Cw (Zr d (ws.map (mvW m))) n k j ((M i j).d - dl d j)):=by
 obtain⟨k,h1,h2⟩:=h.snd i j hf
 obtain⟨r,D,g1,g2,g3,g4,g5⟩:=akA h.fl.del h.fl.wok hm h2
 have hb:=h.bd i j hf
 have h8:=h.fl.n8
 have er:r=(M i j).r:=by omega
 have eD:D=(M i j).d:=by omega
 subst er eD
 exact⟨g4,fun he=>⟨k,h1,g5 he⟩⟩
theorem Ka {m:List Int} (hw:∀ w,w∈ws→fQ n w):∀ w,w∈ws.map (mvW m)→jg n w:=by
 intro w h
 obtain⟨x,hx,rfl⟩:=List.mem_map.1 h
 have:=hw x hx
 unfold fQ at this
 show 0≤x.f0∧x.f0<n∧0≤x.f1∧x.f1<n
 omega
/-- A slow end: whatever answers the constraints and is not less needs one more there. -/
theorem Tab.Qp (h:Tab d ws n M) {m:List Int} (hm:Keep ws n m) (hP:∀ v:Nat,v<n→rd d (v:Int)≤P) {v:Nat} (hv:v<n) (he:rd (dY d (ws.map (mvW m)) n) (v:Int)>P) {L:Nat→Int} (hL:Sol (Cn P n ws M) n L) (hle:∀ v,v<n→rd m (v:Int)≤L v):rd m (v:Int)+1≤L v:=by
 obtain⟨g1,g2,g3,g4⟩:=xK h.fl.len (fun v=>h.fl.del v) (by rw[List.length_map];exact h.fl.m16) (Ka (m:=m) h.fl.wok) n h.fl.n8
 obtain⟨k,hk⟩:=g3 v hv
 have hb:=g2 v
 have h8:=h.fl.n8
 have hdv:=h.fl.del v
 have hx:gd d (dY d (ws.map (mvW m)) n) v=rd (dY d (ws.map (mvW m)) n) (v:Int) - dl d v:=rfl
 rw[hx]at hk hb
 rcases akz h.fl.wok hm hk with⟨_,e⟩|⟨a,r,ha,hT,hr⟩
 ·have:=hP v hv
  have e2:rd d (v:Int)=dl d v:=rfl
  omega
 obtain⟨hf,hkey⟩:=h.full a k v _ hT
 have hbd:=h.bd a v hf
 obtain⟨w1,_⟩:=h.way hm hf
 have hc:=hL.far _ _ _ (aaA (P:=P) (ws:=ws) ha hv hf (by omega))
 have:=hle a ha
 omega
/-- No slow end: the moves answer the constraints. -/
theorem Tab.Qq (h:Tab d ws n M) {m:List Int} (hm:Keep ws n m) (he:∀ v:Nat,v<n→¬rd (dY d (ws.map (mvW m)) n) (v:Int)>P):Sol (Cn P n ws M) n fun v=>rd m (v:Int):=by
 obtain⟨g1,g2,g3,g4⟩:=xK h.fl.len (fun v=>h.fl.del v) (by rw[List.length_map];exact h.fl.m16) (Ka (m:=m) h.fl.wok) n h.fl.n8
 refine⟨fun v hv=>(hm.pos v).1,fun u v x hc=>?_⟩
 rcases Li hc with⟨w,h1,rfl,rfl,rfl⟩|⟨h1,h2,hf,hd,rfl⟩
 ·have:=hm.far w h1
  obtain⟨o1,o2,o3,o4,o5,o6⟩:=h.fl.wok w h1
  show rd m ((w.f0.toNat:Nat):Int)+ - w.f2≤rd m ((w.f1.toNat:Nat):Int)
  rw[Int.toNat_of_nonneg o1,Int.toNat_of_nonneg o3]
  omega
 obtain⟨w1,w2⟩:=h.way hm hf
 show rd m (u:Int)+(1 - (M u v).r)≤rd m (v:Int)
 by_cases e:rd m (u:Int) - (M u v).r=rd m (v:Int)
 ·obtain⟨k,k1,k2⟩:=w2 e
  have:=g4 k v _ k1 k2
  have hx:gd d (dY d (ws.map (mvW m)) n) v=rd (dY d (ws.map (mvW m)) n) (v:Int) - dl d v:=rfl
  have:=he v h2
  omega
 omega
/-! ### The loop -/
theorem aeC (h:Tab d ws n M) (hP:∀ v:Nat,v<n→rd d (v:Int)≤P) (K:Nat) (hK:4000000<K):
  ∀ (e:Nat) (m:List Int),161≤e+Ph (fun v=>rd m (v:Int)) n→m.length=n→(∀ v:Nat,0≤rd m (v:Int)∧rd m (v:Int)≤20)→(∀ L,Sol (Cn P n ws M) n L→∀ v:Nat,v<n→rd m (v:Int)≤L v)→
  ∃ R,Co K P n d ws e m=some R∧((R=([],false)∧∀ L,Sol (Cn P n ws M) n L→∃ v:Nat,v<n∧20<L v)∨∃ m',Best (Cn P n ws M) n m'∧R=(m',yg d ws m')):=by
 have h8:=h.fl.n8
 have h16:=h.fl.m16
 have hw:=h.fl.wok
 have hlen:=h.fl.len
 have hC:=aaB (P:=P) (M:=M) hw
 intro e
 induction e with
 |zero=>
  intro m h0 _ hb _
  have:=WM (f:=fun v=>rd m (v:Int)) (t:=20) n fun v _=>(hb v).2
  omega
 |succ e ih=>
  intro m h0 hl hb hle
  have hb0:Bn 20 (mU (m,false)).1:=fun v=>hb v
  have next:∀ m1:List Int,m1.length=n→(∀ v:Nat,0≤rd m1 (v:Int))→(∀ v:Nat,v<n→rd m (v:Int)≤rd m1 (v:Int))→(∃ v:Nat,v<n∧rd m (v:Int)<rd m1 (v:Int))→(∀ L,Sol (Cn P n ws M) n L→∀ v:Nat,v<n→rd m1 (v:Int)≤L v)→
    ∃ R,(if lJ 20 m1 n=true then some (([]:List Int),false)else Co K P n d ws e m1)=some R∧((R=([],false)∧∀ L,Sol (Cn P n ws M) n L→∃ v:Nat,v<n∧20<L v)∨∃ m',Best (Cn P n ws M) n m'∧R=(m',yg d ws m')):=by
   intro m1 q1 q2 q3 q4 q5
   by_cases ho:lJ 20 m1 n=true
   ·rw[if_pos ho]
    obtain⟨v,g1,g2⟩:=(wI 20 m1 n).1 ho
    exact⟨_,rfl,.inl ⟨rfl,fun L hL=>⟨v,g1,by have:=q5 L hL v g1;omega⟩⟩⟩
   ·rw[if_neg ho]
    have ho':∀ v:Nat,v<n→rd m1 (v:Int)≤20:=fun v hv=>by
     rcases Int.lt_or_le 20 (rd m1 (v:Int))with hx|hx
     ·exact absurd ((wI 20 m1 n).2 ⟨v,hv,hx⟩) ho
     exact hx
    have hlt:=aey (f:=fun v=>rd m (v:Int)) (g:=fun v=>rd m1 (v:Int)) n q3 q4
    refine ih m1 (by omega) q1 (fun v=>⟨q2 v,?_⟩) q5
    rcases Nat.lt_or_ge v n with hv|hv
    ·exact ho' v hv
    rw[Qj m1 v (by omega)];omega
  have hU:=Pv hw (s:=(m,false)) hl (t:=20) (by omega) hb0 ws.length (Nat.le_refl _)
  rw[List.take_length]at hU
  have hB:=GH (ws.map eW) 20 (mU (m,false)) hb0 (fun e he=>by
   obtain⟨w,h1,rfl⟩:=List.mem_map.1 he
   have:=hw w h1
   unfold fQ at this
   show - w.f2≤1
   omega)
  rw[List.length_map]at hB
  have hF:fwN ws (m,false) ws.length=mwN ws (m,false) ws.length:=aez hw _ _ (Nat.le_refl _)
  rw[Co,hF]
  have hS1:(fun v:Nat=>rd (mwN ws (m,false) ws.length).1 (v:Int))=(ups (ws.map eW) (mU (m,false))).1:=congrArg Prod.fst hU
  have hS2:(mwN ws (m,false) ws.length).2=(ups (ws.map eW) (mU (m,false))).2:=congrArg Prod.snd hU
  have hSl:(mwN ws (m,false) ws.length).1.length=n:=by rw[Az];exact hl
  obtain⟨S,hS⟩:∃ S,S=mwN ws (m,false) ws.length:=⟨_,rfl⟩
  rw[← hS]at hS1 hS2 hSl ⊢
  have aeD:∀ v:Nat,rd S.1 (v:Int)=(ups (ws.map eW) (mU (m,false))).1 v:=fun v=>congrFun hS1 v
  by_cases hfl:S.2=true
  ·rw[if_pos hfl,Option.bind_some,if_pos hfl]
   refine next S.1 hSl (fun v=>?_) (fun v hv=>?_) ?_ (fun L hL v hv=>?_)
   ·rw[aeD];exact(hB v).1
   ·rw[aeD];exact Gd _ (mU (m,false)) v
   ·rw[hS2]at hfl
    rcases Lj _ _ hfl with hx|⟨x,x1,x2⟩
    ·exact Bool.noConfusion hx
    obtain⟨w,w1,rfl⟩:=List.mem_map.1 x1
    refine⟨w.f1.toNat,?_,by rw[aeD];exact x2⟩
    have:=hw w w1
    unfold fQ at this
    omega
   rw[aeD]
   refine WL (n:=n) _ _ (fun x hx=>?_) (fun v hv=>hle L hL v hv) v hv
   obtain⟨w,w1,rfl⟩:=List.mem_map.1 hx
   have hc:=aaz (P:=P) (n:=n) (M:=M) w1
   exact⟨(hC _ _ _ hc).1,hL.far _ _ _ hc⟩
  ·rw[if_neg hfl]
   have hfl:S.2=false:=by simpa using hfl
   rw[hfl]at hS2
   obtain⟨_,q2,q3⟩:=DT _ _ hS2.symm
   have hSm:S.1=m:=WJ (by omega) fun v hv=>by rw[aeD,q2];rfl
   rw[hSm]
   have hk:Keep ws n m:=⟨hl,fun v=>by have:=hb v;omega,fun w w1=>by
    have h1:=q3 (eW w) (List.mem_map.2 ⟨w,w1,rfl⟩)
    obtain⟨o1,o2,o3,o4,o5,o6⟩:=hw w w1
    have h2:rd m ((w.f0.toNat:Nat):Int)+ - w.f2≤rd m ((w.f1.toNat:Nat):Int):=h1
    rw[Int.toNat_of_nonneg o1,Int.toNat_of_nonneg o3]at h2
    omega⟩
   have hE:JY K P n d ws m=some (feN (lI P n (dY d (ws.map (mvW m)) n) n) (m,false) n):=by
    unfold JY
    rw[GV K d ws m (by omega) h16 (by rw[hl];exact hw) (by omega),Option.bind_some,if_pos ⟨hlen,zT,Ka hw⟩]
   rw[hE,Option.bind_some]
   obtain⟨f1,f2,f3,f4⟩:=WQ (lI P n (dY d (ws.map (mvW m)) n) n) m hl (t:=20) (by omega) (fun v=>hb v) n (Nat.le_refl _)
   have hat:∀ v:Nat,v<n→(lS false (lI P n (dY d (ws.map (mvW m)) n) n) (v:Int)=true↔rd (dY d (ws.map (mvW m)) n) (v:Int)>P):=fun v hv=>by
    rw[He P n _ n v (Nat.le_refl _),decide_eq_true hv,Bool.true_and,decide_eq_true_eq]
   obtain⟨E,hEE⟩:∃ E,E=feN (lI P n (dY d (ws.map (mvW m)) n) n) (m,false) n:=⟨_,rfl⟩
   rw[← hEE]at f1 f2 f3 f4 ⊢
   by_cases hfe:E.2=true
   ·rw[if_pos hfe]
    obtain⟨v0,g1,g2⟩:=f4 hfe
    refine next E.1 f1 (fun v=>?_) (fun v hv=>?_) ⟨v0,g1,?_⟩ (fun L hL v hv=>?_)
    ·rw[f2];have:=hb v;split<;>omega
    ·rw[f2];split<;>omega
    ·rw[f2,if_pos ⟨g1,g2⟩];omega
    rw[f2]
    split
    ·rename_i hc
     exact h.Qp hk hP hv ((hat v hv).1 hc.2) hL (hle L hL)
    have:=hle L hL v hv;omega
   have hfe:E.2=false:=by simpa using hfe
   obtain⟨e1,e2⟩:=f3 hfe
   rw[if_neg (by rw[hfe];decide),e1,UL K d ws m (by omega) (by omega) (by omega) hK,Option.bind_some]
   refine⟨_,rfl,.inr ⟨m,⟨hl,h.Qq hk fun v hv hx=>?_,fun L hL v hv=>hle L hL v hv⟩,rfl⟩⟩
   have:=e2 v hv
   rw[(hat v hv).2 hx]at this
   exact Bool.noConfusion this
theorem aaE (h:Tab d ws n M) (hP:∀ v:Nat,v<n→rd d (v:Int)≤P) (K:Nat) (hK:4000000<K):
  ∃ R,Co K P n d ws K (List.replicate n 0)=some R∧((R=([],false)∧∀ L,Sol (Cn P n ws M) n L→∃ v:Nat,v<n∧20<L v)∨∃ m',Best (Cn P n ws M) n m'∧R=(m',yg d ws m')):=by
 refine aeC h hP K hK K _ ?_ (List.length_replicate ..) (fun v=>by rw[Dl];omega) (fun L hL v hv=>by rw[Dl];exact hL.pos v hv)
 have:∀ m:Nat,0≤Ph (fun v=>rd (List.replicate n 0) (v:Int)) m:=by
  intro m
  induction m with
  |zero=>exact Int.le_refl _
  |succ m ih=>rw[Ph,Dl];omega
 have:=this n
 omega
end Go.Proofs.YtalkmhnlgfncmaaGreatDoor.lU
end
section
/- The reference's l08For: its loops. Conditions: as each lemma says. -/
namespace Go.Proofs.YtalkmhnlgfncmaaGreatDoor.X
open Go.RowKit Go.Proofs.YtalkmhnlgfncmaaGreatDoorW.aC Go.Proofs.YtalkmhnlgfncmaaGreatDoorW.aN Go.Proofs.YtalkmhnlgfncmaaGreatDoorW.aT
/-- The state, and the moves. -/
structure CG (w0 w:World) (g n gm cm:Nat) (l0:List Int) (l1:List S40) (mv:List Int) (W:World):Prop where
 I:dK w0 W g l0 l1
 B:Below w0.heap.size w0 W
 K:aI w W g none
 R:Kd.R (Kd.int .i64) 2 W w.heap.size (fun _=>True) (.slice (some ⟨gm,0,none⟩) n cm) mv
variable {w0 w W W1:World} {g n gm cm:Nat} {l0:List Int} {l1:List S40} {mv:List Int}
theorem CG.move (h:CG w0 w g n gm cm l0 l1 mv W) (hb:Below W.heap.size W W1):CG w0 w g n gm cm l0 l1 mv W1:=
 ⟨h.I.below hb,av h.B hb,aI.trans h.K (aI.of_below hb g none) (.inl rfl),Kd.aM h.R hb⟩
theorem CG.call (h:CG w0 w g n gm cm l0 l1 mv W) (hi:dK w0 W1 g l0 l1) (hb:Below w0.heap.size w0 W1) (hk:aI W W1 g none):CG w0 w g n gm cm l0 l1 mv W1:=
 ⟨hi,hb,aI.trans h.K hk (.inl rfl),Kd.bS (Kd.acE (h.I.apart h.R (by decide)) hk (fun _ hh=>hh.2)) (fun _ _=>trivial)⟩
theorem CG.rng (h:CG w0 w g n gm cm l0 l1 mv W):w.heap.size≤gm∧gm<W.heap.size:=⟨Kd.iJ h.R gm Wq,Kd.qo h.R gm Wq⟩
theorem CG.ne (h:CG w0 w g n gm cm l0 l1 mv W):g≠gm:=fun e=>h.I.own_ne h.R (by decide) (by rw[e];rfl)
theorem CG.put (h:CG w0 w g n gm cm l0 l1 mv W) (h0:w0.heap.size≤w.heap.size) (i:Nat) (x:Int):CG w0 w g n gm cm l0 l1 (mv.set i x) (W.setCell ⟨gm,i,none⟩ (.int .i64 x)):=by
 have hr:=h.rng
 have hR:=Kd.CW h.R (i:Int) x
 rw[Int.toNat_natCast]at hR
 refine⟨h.I.far (p:=⟨gm,i,none⟩) h.ne _,h.B.setCell (p:=⟨gm,i,none⟩) (by show w0.heap.size≤gm;omega) _,⟨?_,fun k hk hg hn=>?_⟩,hR⟩
 ·have:=h.K.1;simpa [World.setCell]using this
 exact(Below.heap_setCell W ⟨gm,i,none⟩ _ k (by show k≠gm;omega)).trans (h.K.2 k hk hg hn)
theorem CG.cel (h:CG w0 w g n gm cm l0 l1 mv W) (i:Nat) (hi:i<n):W.cell? ⟨gm,i,none⟩=some (.int .i64 (rd mv (i:Int)))∧W.frozen? ⟨gm,i,none⟩=false:=by
 have:=Kd.sK 0 h.R (i:Int) (by omega) (by omega)
 rw[Int.toNat_natCast]at this
 exact this
theorem pO (P:Int) (n:Nat) (x:List Int):∀ i,(lI P n x i).length=n
 |0=>by simp[lI]
 |i+1=>by rw[lI,List.length_set];exact pO P n x i
set_option maxHeartbeats 16000000 in
set_option maxRecDepth 100000 in
theorem UN (k:Nat) (g:Nat) (l0:List Int) (l1:List S40) (P:Int) (r1:List Int) (r2:Bool) (w0 w:World) (n m:Nat) (hn0:n=l0.length) (hm0:m=l1.length) (h1:1≤n) (hn:n≤1000000) (hm:m≤1000000) (hw:∀ j:Nat,j<m→jg n (au l1 (j:Int))) (hI:dK w0 w g l0 l1) (hB:Below w0.heap.size w0 w)
  (hR:(if lJ P l0 n=true then some (([]:List Int),false)else Co k P n l0 l1 k (List.replicate n 0))=some (r1,r2)):
  Calls Tryz.prog 23 #[.pointer (some ⟨g,0,none⟩),.int .i64 P] w fun e w'=>∃ v:Value,e= .returned (.tuple #[v,.bool r2])∧Kd.R (Kd.int .i64) 2 w' w.heap.size (fun _=>True) v r1∧dK w0 w' g l0 l1∧Below w0.heap.size w0 w'∧aI w w' g none:=by
 have h0:w0.heap.size≤w.heap.size:=aG hB
 have HW:=ah.mk hw
 have HN0:=ah.mk hn0
 have HM0:=ah.mk hm0
 have HI:=ah.mk hI
 have HB:=ah.mk hB
 have HRR:=ah.mk hR
 have H0:=ah.mk h0
 clear hw hI hB hR h0
 obtain⟨A0,c0,A1,c1,hg,hgg,q0,q1⟩:=HI.out
 have hg':=hg
 rw[← hn0, ← hm0]at hg'
 rw[← hn0]at q0
 rw[← hm0]at q1
 have BK:=ah.mk hg'
 have HR0:=ah.mk q0
 have HR1:=ah.mk q1
 clear hn0 hm0 hg hg' hgg q0 q1
 have oI:w.cell? ⟨g,0,none⟩=some (.slice A0 n c0):=(aj BK.out 0).trans rfl
 go_enter Tryz.func23,Tryz.ntmps23
 go_wp2
 clear oI
 go_loopg [7] n (fun kq v7 w'=>∃ i:Nat,v7= .int .i64 i∧ah (i+kq=n)∧ah (lJ P l0 i=false)∧ah (w'.heap=w.heap)∧ah (Below w.heap.size w w'))
 case atStart=>exact⟨0,Db,⟨by omega⟩,⟨rfl⟩,⟨rfl⟩,⟨Below.refl _ _⟩⟩
 case round=>
  obtain⟨i,rfl,HE,HO,HH,QB⟩:=hrel
  have oI:wr.cell? ⟨g,0,none⟩=some (.slice A0 n c0):=(aj (by rw[HH.out];exact BK.out) 0).trans rfl
  by_cases hlt:i<n
  ·cases gk with
   |zero=>have:=HE.out;omega
   |succ gq=>
   obtain⟨ad,hA,dA⟩:=Kd.iC (Kd.gX HR0.out (av HB.out QB.out)) (i:Int) (by omega) (by omega)
   cases hA
   rw[Int.toNat_natCast]at dA
   have p0:(0≤(i:Int))=True:=eq_true (by omega)
   have p1:((i:Int)<(n:Int))=True:=eq_true (by omega)
   have wi:IntKind.i64.wrap ((i:Int)+1)=(i:Int)+1:=IntWalk.i64_in _ ⟨by omega,by omega⟩
   cases hv:decide (P<rd l0 (i:Int))with
   |true=>
    have HV:ah (r1=[]∧r2=false):=⟨by
     have h:=HRR.out
     have ho:lJ P l0 n=true:=by
      have hs:∀ d,i+1+d≤n→lJ P l0 (i+1+d)=true:=by
       intro d
       induction d with
       |zero=>intro _;rw[Nat.add_zero,lJ,show decide (rd l0 (i:Int)>P)=true from hv,Bool.or_true]
       |succ d ih=>intro hd;rw[← Nat.add_assoc,lJ,ih (by omega),Bool.true_or]
      have:=hs (n - (i+1)) (by omega)
      rwa [show i+1+(n - (i+1))=n by omega]at this
     rw[if_pos ho]at h
     injection h with h
     injection h with h3 h4
     exact⟨h3.symm,h4.symm⟩⟩
    have HRL:=ah.mk (Kd.yN (enc:=Value.int .i64) (h1:=fun _=>rfl) (ok:=fun _=>True) (uI (enc:=Value.int .i64) wr w.heap.size 2 ([]:List Int) (aG QB.out) (by simp)) (fun _ _=>trivial))
    go_wp2
    go_ret2
    obtain⟨e1,e2⟩:=HV.out
    subst e1 e2
    have hb2:=av QB.out (bg (Below.refl wr.heap.size wr) (.cells #[] 2))
    exact⟨_,rfl,HRL.out,HI.out.below hb2,av HB.out hb2,aI.of_below hb2 g none⟩
   |false=>
    have HO2:ah (lJ P l0 (i+1)=false):=⟨by rw[lJ,HO.out,Bool.false_or];exact hv⟩
    go_wp2
    go_roundg gq
    case measure=>omega
    case rel=>exact⟨i+1,by go_num,⟨qz3 HE⟩,HO2,HH,QB⟩
  have e:i=n:=by have:=HE.out;omega
  have f1:decide ((i:Int)<(n:Int))=false:=decide_eq_false (by omega)
  have f2:decide (i<n)=false:=decide_eq_false hlt
  have HF:ah (Co k P n l0 l1 k (List.replicate n 0)=some (r1,r2)):=⟨by have h:=HRR.out;rw[← e,if_neg (by rw[HO.out];decide)]at h;rw[← e];exact h⟩
  have HS:=ah.mk (show dK w0 wr g l0 l1∧Below w0.heap.size w0 wr∧aI w wr g none from⟨HI.out.below QB.out,av HB.out QB.out,aI.of_below QB.out g none⟩)
  clear hlt e HO HRR HH oI HE BK HI HB
  have hmk:decide (0≤(n:Int))=true:=decide_eq_true (by omega)
  go_wp2_with ((with_reducible refine aH (N:=38) rfl ?_);refine Kd.FW (Kd.int .i64) _ 2 rfl (N:=38) rfl 24 _ _ rfl (n:Int) rfl rfl Tryz.underlying24 (.int .i64 0) 8 sS rfl (by decide) (by omega) 0 (ok:=fun _=>True) (okp:=fun _=>True) rfl (fun _ hk=>hk) trivial (by omega) (by omega) (Below.refl _ _) (Nat.le_refl _) ?_;intro v20 w4 ho5 hb hg_ lF;clear hg_ lF;rw[Int.toNat_natCast]at ho5;obtain⟨gm,cm,hv,_,_,_⟩:=Kd.zw ho5 (by rw[List.length_replicate];omega);rw[List.length_replicate]at hv;subst hv;have HS2:=ah.mk (show CG w0 w g n gm cm l0 l1 (List.replicate n 0) w4 from⟨HS.out.1.below hb,av HS.out.2.1 hb,aI.trans HS.out.2.2 (aI.of_below hb g none) (.inl rfl),Kd.dV ho5 (aG QB.out)⟩);clear HS QB hb ho5)
  go_loopg [9] k (fun kq v9 w'=>∃ mv:List Int,ah (Co k P n l0 l1 kq mv=some (r1,r2))∧ah (CG w0 w g n gm cm l0 l1 mv w'))
  case atStart=>exact⟨_,HF,HS2⟩
  case round=>
   clear HF HS2 f1 f2
   obtain⟨mv,HF,HS⟩:=hrel
   cases gk with
   |zero=>have:=HF.out;simp[Co]at this
   |succ gq=>
   go_wp2
   go_loopg [10,9] m (fun kq v10 v9 w'=>∃ j:Nat,v10= .int .i64 j∧v9= .bool (fwN l1 (mv,false) j).2∧ah (j+kq=m)∧ah (CG w0 w g n gm cm l0 l1 (fwN l1 (mv,false) j).1 w'))
   case atStart=>exact⟨0,Db,rfl,⟨by omega⟩,HS⟩
   case round=>
    clear HS
    obtain⟨j,rfl,rfl,HJ,HS⟩:=hrel
    obtain⟨B0,d0,B1,d1,hg,hgg,_,q1⟩:=HS.out.I
    rw[← HM0.out]at hg q1
    have BG:=ah.mk hg
    have HRW:=ah.mk (Kd.gX q1 HS.out.B)
    have uV:wr.cell? ⟨g,1,none⟩=some (.slice B1 m d1):=(aj BG.out 1).trans rfl
    clear hg hgg q1
    by_cases hlj:j<m
    ·cases gk with
     |zero=>have:=HJ.out;omega
     |succ gq2=>
     obtain⟨ad,hA,x0,x1,x2⟩:=kH HRW.out (j:Int) (by omega) (by omega)
     cases hA
     rw[Int.toNat_natCast]at x0 x1 x2
     obtain⟨o0,o1,o2,o3⟩:=HW.out j hlj
     obtain⟨S,hS⟩:∃ S,S=fwN l1 (mv,false) j:=⟨_,rfl⟩
     have HX:ah (fwN l1 (mv,false) (j+1)=Dm (au l1 (j:Int)) S):=⟨by rw[hS];rfl⟩
     rw[← hS]at HS
     rw[← hS]
     clear hS
     obtain⟨el,hel⟩:∃ el,el=au l1 (j:Int):=⟨_,rfl⟩
     rw[← hel]at x0 x1 x2 o0 o1 o2 o3 HX
     clear hel
     obtain⟨a,ha⟩:∃ a:Nat,el.f0=a:=⟨el.f0.toNat,by omega⟩
     obtain⟨b,hb⟩:∃ b:Nat,el.f1=b:=⟨el.f1.toNat,by omega⟩
     obtain⟨f0,f1',f2⟩:=el
     simp only at x0 x1 x2 o0 o1 o2 o3 ha hb
     subst ha
     subst hb
     have hi0:a<n:=by omega
     have hi1:b<n:=by omega
     have p0:(0≤(a:Int))=True:=eq_true (by omega)
     have p1:((a:Int)<(n:Int))=True:=eq_true (by omega)
     have q0:(0≤(b:Int))=True:=eq_true (by omega)
     have q1:((b:Int)<(n:Int))=True:=eq_true (by omega)
     have p2:(0≤(j:Int))=True:=eq_true (by omega)
     have p3:((j:Int)<(m:Int))=True:=eq_true (by omega)
     have wj:IntKind.i64.wrap ((j:Int)+1)=(j:Int)+1:=IntWalk.i64_in _ ⟨by omega,by omega⟩
     go_wp2_with ((with_reducible refine aH (N:=11) rfl ?_);refine qbx (N:=11) (cs:=#[.int .i64 0,.int .i64 0,.int .i64 0]) (t:=40) ?_;intro g5 hg wn bR hb5;have B5:=ah.mk bR;have HB5:=ah.mk hb5;have GE5:=ah.mk (show wr.heap.size≤g5 from Mi);clear hg hb5 bR;have agr:=ak B5.out 0;have ags:=ak B5.out 1;have agt:=ak B5.out 2;have agu:wn.cell? ⟨g5,0,none⟩=some (.int .i64 0):=(aj B5.out 0).trans rfl;have agv:wn.cell? ⟨g5,1,none⟩=some (.int .i64 0):=(aj B5.out 1).trans rfl;have agw:wn.cell? ⟨g5,2,none⟩=some (.int .i64 0):=(aj B5.out 2).trans rfl)
     have HBX:=bF (j:=2) (v:=.int .i64 f2) (bF (j:=1) (v:=.int .i64 (b:Int)) (bF (j:=0) (v:=.int .i64 (a:Int)) HB5.out GE5.out) GE5.out) GE5.out
     have HA:=ah.mk (HS.out.move HBX)
     have p5:=ah.mk (aW (cs':=#[.int .i64 (a:Int),.int .i64 (b:Int),.int .i64 f2]) (aW (cs':=#[.int .i64 (a:Int),.int .i64 (b:Int),.int .i64 0]) (aW (cs':=#[.int .i64 (a:Int),.int .i64 0,.int .i64 0]) B5.out 0 (.int .i64 (a:Int)) rfl) 1 (.int .i64 (b:Int)) rfl) 2 (.int .i64 f2) rfl)
     clear agu agv agw agr ags agt B5 HBX HB5 GE5 uV x0 x1 x2 BG HRW HS
     generalize ((wn.setCell ⟨g5,0,none⟩ (.int .i64 (a:Int))).setCell ⟨g5,1,none⟩ (.int .i64 (b:Int))).setCell ⟨g5,2,none⟩ (.int .i64 f2)=W5 at p5 HA ⊢
     have aoa:W5.cell? ⟨g5,0,none⟩=some (.int .i64 (a:Int)):=(aj p5.out 0).trans rfl
     have aob:W5.cell? ⟨g5,1,none⟩=some (.int .i64 (b:Int)):=(aj p5.out 1).trans rfl
     have avk:W5.cell? ⟨g5,2,none⟩=some (.int .i64 f2):=(aj p5.out 2).trans rfl
     obtain⟨ka,za⟩:=HA.out.cel a hi0
     obtain⟨kb,zb⟩:=HA.out.cel b hi1
     clear za p5
     cases hv:decide (rd S.1 (b:Int)<wrap64 (rd S.1 (a:Int) - f2))with
     |false=>
      have HV:ah (fwN l1 (mv,false) (j+1)=S):=⟨by rw[HX.out];unfold Dm;rw[if_neg (show ¬wrap64 (rd S.1 (a:Int) - f2)>rd S.1 (b:Int) from of_decide_eq_false hv)]⟩
      go_quiet (fail)
      have HA2:=ah.mk (HA.out.move (bZ (Below.refl _ _) nq))
      clear HA
      go_wp2
      go_roundg gq2
      case measure=>omega
      case rel=>exact⟨j+1,by go_num,by rw[HV.out],⟨qz3 HJ⟩,by rw[HV.out];exact HA2⟩
     |true=>
      have HV:ah (fwN l1 (mv,false) (j+1)=(S.1.set b (wrap64 (rd S.1 (a:Int) - f2)),true)):=⟨by rw[HX.out];unfold Dm;rw[if_pos (show wrap64 (rd S.1 (a:Int) - f2)>rd S.1 (b:Int) from of_decide_eq_true hv),Int.toNat_natCast]⟩
      go_quiet (fail)
      have zb2:(W5.drewN nq).frozen? ⟨gm,b,none⟩=false:=zb
      have kb2:(W5.drewN nq).cell? ⟨gm,b,none⟩=some (.int .i64 (rd S.1 (b:Int))):=kb
      have HA2:=ah.mk ((HA.out.move (bZ (Below.refl _ _) nq)).put H0.out b (wrap64 (rd S.1 (a:Int) - f2)))
      clear HA
      go_wp2
      go_roundg gq2
      case measure=>omega
      case rel=>exact⟨j+1,by go_num,by rw[HV.out],⟨qz3 HJ⟩,by rw[HV.out];exact HA2⟩
    have hj:j=m:=by have:=HJ.out;omega
    have f1:decide ((j:Int)<(m:Int))=false:=decide_eq_false (by omega)
    have f2:decide (j<m)=false:=decide_eq_false hlj
    obtain⟨⟨mv1,ch⟩,hS⟩:∃ S:MC,S=fwN l1 (mv,false) j:=⟨_,rfl⟩
    have HSE:ah (fwN l1 (mv,false) l1.length=(mv1,ch)):=⟨by rw[hS,hj,HM0.out]⟩
    have e1:(fwN l1 (mv,false) j).1=mv1:=by rw[← hS]
    have e2:(fwN l1 (mv,false) j).2=ch:=by rw[← hS]
    rw[e1]at HS
    rw[e2]
    clear hS hj hlj BG HRW e1 e2
    cases ch with
    |true=>
     have HF2:ah ((if lJ 20 mv1 n=true then some (([]:List Int),false)else Co k P n l0 l1 gq mv1)=some (r1,r2)):=⟨by have h:=HF.out;rw[Co,HSE.out,if_pos rfl,Option.bind_some,if_pos rfl]at h;exact h⟩
     clear HF HSE
     go_wp2
     clear uV
     go_loopg [16] n (fun kq v16 w'=>∃ p:Nat,v16= .int .i64 p∧ah (p+kq=n)∧ah (lJ 20 mv1 p=false)∧ah (CG w0 w g n gm cm l0 l1 mv1 w'))
     case atStart=>exact⟨0,Db,⟨by omega⟩,⟨rfl⟩,HS⟩
     case round=>
      clear HS
      obtain⟨p,rfl,HP,HO,HS⟩:=hrel
      by_cases hlp:p<n
      ·cases gk with
       |zero=>have:=HP.out;omega
       |succ gq3=>
       obtain⟨kp,zp⟩:=HS.out.cel p hlp
       clear zp
       have p0:(0≤(p:Int))=True:=eq_true (by omega)
       have p1:((p:Int)<(n:Int))=True:=eq_true (by omega)
       have wp:IntKind.i64.wrap ((p:Int)+1)=(p:Int)+1:=IntWalk.i64_in _ ⟨by omega,by omega⟩
       cases hv:decide (20<rd mv1 (p:Int))with
       |true=>
        have HV:ah (r1=[]∧r2=false):=⟨by
         have h:=HF2.out
         have ho:lJ 20 mv1 n=true:=by
          have hs:∀ d,p+1+d≤n→lJ 20 mv1 (p+1+d)=true:=by
           intro d
           induction d with
           |zero=>intro _;rw[Nat.add_zero,lJ,show decide (rd mv1 (p:Int)>20)=true from hv,Bool.or_true]
           |succ d ih=>intro hd;rw[← Nat.add_assoc,lJ,ih (by omega),Bool.true_or]
          have:=hs (n - (p+1)) (by omega)
          rwa [show p+1+(n - (p+1))=n by omega]at this
         rw[if_pos ho]at h
         injection h with h
         injection h with h3 h4
         exact⟨h3.symm,h4.symm⟩⟩
        have HWS:ah (w.heap.size≤wr.heap.size):=⟨HS.out.K.1⟩
        have HRL:=ah.mk (Kd.yN (enc:=Value.int .i64) (h1:=fun _=>rfl) (ok:=fun _=>True) (uI (enc:=Value.int .i64) wr w.heap.size 2 ([]:List Int) HWS.out (by simp)) (fun _ _=>trivial))
        go_wp2
        go_ret2
        obtain⟨e1,e2⟩:=HV.out
        subst e1 e2
        have H2:=HS.out.move (bg (Below.refl wr.heap.size wr) (.cells #[] 2))
        exact⟨_,rfl,HRL.out,H2.I,H2.B,H2.K⟩
       |false=>
        have HO2:ah (lJ 20 mv1 (p+1)=false):=⟨by rw[lJ,HO.out,Bool.false_or];exact hv⟩
        go_wp2
        go_roundg gq3
        case measure=>omega
        case rel=>exact⟨p+1,by go_num,⟨qz3 HP⟩,HO2,HS⟩
      have e:p=n:=by have:=HP.out;omega
      have f3:decide ((p:Int)<(n:Int))=false:=decide_eq_false (by omega)
      have f3':decide (p<n)=false:=decide_eq_false hlp
      have HF3:ah (Co k P n l0 l1 gq mv1=some (r1,r2)):=⟨by have h:=HF2.out;rw[← e,if_neg (by rw[HO.out];decide)]at h;rw[← e];exact h⟩
      clear hlp e HO HF2
      go_wp2
      go_roundg gq
      case measure=>omega
      case rel=>exact⟨mv1,HF3,HS⟩
    |false=>
     obtain⟨⟨p1,p2⟩,hMd,hG1,hG2,hG3,hF4⟩:∃ p:List Int×List S40,bn.f k l0 l1 mv1=some p∧p.1.length=n∧p.2.length≤1000000∧(∀ w∈p.2,jg n w)∧(if (feN (lI P n (dY p.1 p.2 n) n) (mv1,false) n).2=true then(if lJ 20 (feN (lI P n (dY p.1 p.2 n) n) (mv1,false) n).1 n=true then some (([]:List Int),false)else Co k P n l0 l1 gq (feN (lI P n (dY p.1 p.2 n) n) (mv1,false) n).1)else(iF.f k l0 l1 (feN (lI P n (dY p.1 p.2 n) n) (mv1,false) n).1).bind fun b=>some ((feN (lI P n (dY p.1 p.2 n) n) (mv1,false) n).1,b))=some (r1,r2):=by
      have h:=HF.out
      rw[Co,HSE.out,if_neg (show ¬(false=true) from Bool.false_ne_true)]at h
      unfold JY at h
      obtain⟨s,h3,h4⟩:=Option.bind_eq_some_iff.mp h
      obtain⟨p,h5,h6⟩:=Option.bind_eq_some_iff.mp h3
      by_cases hc:p.1.length=n∧p.2.length≤1000000∧(∀ w∈p.2,jg n w)
      ·rw[if_pos hc]at h6
       injection h6 with h6
       subst h6
       exact⟨p,h5,hc.1,hc.2.1,hc.2.2,h4⟩
      rw[if_neg hc]at h6;cases h6
     have HMd:=ah.mk hMd
     have HG1:=ah.mk hG1
     have HG2:=ah.mk hG2
     have HG3:=ah.mk hG3
     have HF4:=ah.mk hF4
     clear hMd hG1 hG2 hG3 hF4 HF HSE
     have HL:ah (n=mv1.length):=⟨(Kd.dF HS.out.R).1⟩
     go_wp2_with (first
      |(go_at_call 41;have T:=bn.calls k g l0 l1 (some ⟨gm,0,none⟩) cm mv1 p1 p2 w0 wr HS.out.I HS.out.B (by rw[← HL.out];exact HL.out ▸ (Kd.dF HS.out.R).2.2) (by rw[← HL.out];exact(Kd.dF HS.out.R).2.1) (fun ad ha _=>by cases ha;exact fun e=>HS.out.ne e.symm) HMd.out;rw[← HL.out]at T;refine T.mono ?_;clear T;rintro e wz ⟨v0,v1,rfl,ho0,ho1,hi,hb,hk⟩;obtain⟨X0,y0,ev0⟩:=Kd.dW ho0;subst ev0;obtain⟨X1,y1,ev1⟩:=Kd.dW ho1;subst ev1;have HS2:=ah.mk (HS.out.call hi hb hk);have HO0:=ah.mk (Kd.dF ho0).2.2;have HO1:=ah.mk (Kd.dF ho1).2.2;rw[HG1.out];clear HS hi hb hk ho0 ho1 uV)
      |(go_at_call 42;refine(Ql wz.heap.size X0 y0 p1 X1 y1 p2 P n p2.length HG1.out.symm rfl h1 hn HG2.out (fun j hj=>HG3.out _ (by unfold au;rw[Int.toNat_natCast,List.getD_eq_getElem?_getD,List.getElem?_eq_getElem hj];exact List.getElem_mem hj)) _ (qC wz _) (by rw[← HG1.out];exact Kd.oJ HO0.out _) (Kd.oJ HO1.out _)).mono ?_;rintro e wy ⟨vE,rfl,hE,hb⟩;obtain⟨gE,cE,evE,_,_,_⟩:=Kd.zw hE (by rw[pO];omega);rw[pO]at evE;subst evE;have HS3:=ah.mk ((HS2.out.move (bg (Below.refl wz.heap.size wz) _)).move hb);have HEE:=ah.mk (Kd.dV hE (show w.heap.size≤ _ from(HS2.out.move (bg (Below.refl wz.heap.size wz) _)).K.1));clear HS2 hE hb HO0 HO1))
     obtain⟨E,hEd⟩:∃ E,E=lI P n (dY p1 p2 n) n:=⟨_,rfl⟩
     rw[← hEd]at HF4 HEE
     clear hEd HMd HG1 HG2 HG3
     go_loopg [15,9] n (fun kq v15 v9 w'=>∃ q:Nat,v15= .int .i64 q∧v9= .bool (feN E (mv1,false) q).2∧ah (q+kq=n)∧ah (CG w0 w g n gm cm l0 l1 (feN E (mv1,false) q).1 w')∧ah (Kd.R Kd.bool 4 w' w.heap.size (fun _=>True) (.slice (some ⟨gE,0,none⟩) n cE) E))
     case atStart=>exact⟨0,Db,rfl,⟨by omega⟩,HS3,HEE⟩
     case round=>
      clear HS3 HEE
      obtain⟨q,rfl,rfl,HQ,HS,HEE⟩:=hrel
      by_cases hlq:q<n
      ·cases gk with
       |zero=>have:=HQ.out;omega
       |succ gq2=>
       obtain⟨S,hS⟩:∃ S,S=feN E (mv1,false) q:=⟨_,rfl⟩
       have HX:ah (feN E (mv1,false) (q+1)=AQ E q S):=⟨by rw[hS];rfl⟩
       rw[← hS]at HS
       rw[← hS]
       clear hS
       obtain⟨kE,zE⟩:=Kd.sK false HEE.out (q:Int) (by omega) (by omega)
       rw[Int.toNat_natCast]at kE
       obtain⟨kq',zq⟩:=HS.out.cel q hlq
       have p0:(0≤(q:Int))=True:=eq_true (by omega)
       have p1':((q:Int)<(n:Int))=True:=eq_true (by omega)
       have wq:IntKind.i64.wrap ((q:Int)+1)=(q:Int)+1:=IntWalk.i64_in _ ⟨by omega,by omega⟩
       clear zE
       cases hv:lS false E (q:Int)with
       |false=>
        have HV:ah (feN E (mv1,false) (q+1)=S):=⟨by rw[HX.out];unfold AQ;rw[if_neg (by rw[hv];decide)]⟩
        rw[hv]at kE
        clear hv
        go_wp2
        go_roundg gq2
        case measure=>omega
        case rel=>exact⟨q+1,by go_num,by rw[HV.out],⟨qz3 HQ⟩,by rw[HV.out];exact HS,HEE⟩
       |true=>
        have HV:ah (feN E (mv1,false) (q+1)=(S.1.set q (wrap64 (rd S.1 (q:Int)+1)),true)):=⟨by rw[HX.out];unfold AQ;rw[if_pos hv]⟩
        rw[hv]at kE
        clear hv
        have HA2:=ah.mk (HS.out.put H0.out q (wrap64 (rd S.1 (q:Int)+1)))
        have HE2:ah (Kd.R Kd.bool 4 (wr.setCell ⟨gm,q,none⟩ (.int .i64 (wrap64 (rd S.1 (q:Int)+1)))) w.heap.size (fun _=>True) (.slice (some ⟨gE,0,none⟩) n cE) E):=⟨by
         obtain⟨cells,qq⟩:=Kd.lC HS.out.R gm Wq
         exact Kd.bS (Kd.bX (p:=⟨gm,q,none⟩) (Kd.cO HEE.out qq (by decide)) (fun _ hk=>hk.2) _) (fun _ _=>trivial)⟩
        go_wp2
        go_roundg gq2
        case measure=>omega
        case rel=>exact⟨q+1,by go_num,by rw[HV.out],⟨qz3 HQ⟩,by rw[HV.out];exact HA2,HE2⟩
      have hq:q=n:=by have:=HQ.out;omega
      have f3:decide ((q:Int)<(n:Int))=false:=decide_eq_false (by omega)
      have f3':decide (q<n)=false:=decide_eq_false hlq
      obtain⟨⟨mv2,ch2⟩,hS⟩:∃ S:MC,S=feN E (mv1,false) q:=⟨_,rfl⟩
      have e1:(feN E (mv1,false) q).1=mv2:=by rw[← hS]
      have e2:(feN E (mv1,false) q).2=ch2:=by rw[← hS]
      rw[← hq,e1,e2]at HF4
      rw[e1]at HS
      rw[e2]
      rw[hq]at HF4
      clear hS e1 e2 hq hlq HEE
      cases ch2 with
      |true=>
       have HF2:ah ((if lJ 20 mv2 n=true then some (([]:List Int),false)else Co k P n l0 l1 gq mv2)=some (r1,r2)):=⟨by have h:=HF4.out;rw[if_pos rfl]at h;exact h⟩
       clear HF4
       go_wp2
       go_loopg [16] n (fun kq v16 w'=>∃ p:Nat,v16= .int .i64 p∧ah (p+kq=n)∧ah (lJ 20 mv2 p=false)∧ah (CG w0 w g n gm cm l0 l1 mv2 w'))
       case atStart=>exact⟨0,Db,⟨by omega⟩,⟨rfl⟩,HS⟩
       case round=>
        clear HS
        obtain⟨p,rfl,HP,HO,HS⟩:=hrel
        by_cases hlp:p<n
        ·cases gk with
         |zero=>have:=HP.out;omega
         |succ gq3=>
         obtain⟨kp,zp⟩:=HS.out.cel p hlp
         clear zp
         have p0:(0≤(p:Int))=True:=eq_true (by omega)
         have p1:((p:Int)<(n:Int))=True:=eq_true (by omega)
         have wp:IntKind.i64.wrap ((p:Int)+1)=(p:Int)+1:=IntWalk.i64_in _ ⟨by omega,by omega⟩
         cases hv:decide (20<rd mv2 (p:Int))with
         |true=>
          have HV:ah (r1=[]∧r2=false):=⟨by
           have h:=HF2.out
           have ho:lJ 20 mv2 n=true:=by
            have hs:∀ d,p+1+d≤n→lJ 20 mv2 (p+1+d)=true:=by
             intro d
             induction d with
             |zero=>intro _;rw[Nat.add_zero,lJ,show decide (rd mv2 (p:Int)>20)=true from hv,Bool.or_true]
             |succ d ih=>intro hd;rw[← Nat.add_assoc,lJ,ih (by omega),Bool.true_or]
            have:=hs (n - (p+1)) (by omega)
            rwa [show p+1+(n - (p+1))=n by omega]at this
           rw[if_pos ho]at h
           injection h with h
           injection h with h3 h4
           exact⟨h3.symm,h4.symm⟩⟩
          have HWS:ah (w.heap.size≤wr.heap.size):=⟨HS.out.K.1⟩
          have HRL:=ah.mk (Kd.yN (enc:=Value.int .i64) (h1:=fun _=>rfl) (ok:=fun _=>True) (uI (enc:=Value.int .i64) wr w.heap.size 2 ([]:List Int) HWS.out (by simp)) (fun _ _=>trivial))
          go_wp2
          go_ret2
          obtain⟨e1,e2⟩:=HV.out
          subst e1 e2
          have H2:=HS.out.move (bg (Below.refl wr.heap.size wr) (.cells #[] 2))
          exact⟨_,rfl,HRL.out,H2.I,H2.B,H2.K⟩
         |false=>
          have HO2:ah (lJ 20 mv2 (p+1)=false):=⟨by rw[lJ,HO.out,Bool.false_or];exact hv⟩
          go_wp2
          go_roundg gq3
          case measure=>omega
          case rel=>exact⟨p+1,by go_num,⟨qz3 HP⟩,HO2,HS⟩
        have e:p=n:=by have:=HP.out;omega
        have f3:decide ((p:Int)<(n:Int))=false:=decide_eq_false (by omega)
        have f3':decide (p<n)=false:=decide_eq_false hlp
        have HF3:ah (Co k P n l0 l1 gq mv2=some (r1,r2)):=⟨by have h:=HF2.out;rw[← e,if_neg (by rw[HO.out];decide)]at h;rw[← e];exact h⟩
        clear hlp e HO HF2
        go_wp2
        go_roundg gq
        case measure=>omega
        case rel=>exact⟨mv2,HF3,HS⟩
      |false=>
       obtain⟨aoc,hr1⟩:iF.f k l0 l1 mv2=some r2∧r1=mv2:=by
        have h:=HF4.out
        rw[if_neg (show ¬(false=true) from Bool.false_ne_true)]at h
        obtain⟨b,h3,h4⟩:=Option.bind_eq_some_iff.mp h
        injection h4 with h4
        injection h4 with h5 h6
        subst h5 h6
        exact⟨h3,rfl⟩
       subst hr1
       have arC:=ah.mk aoc
       clear aoc HF4
       have HL2:ah (n=r1.length):=⟨(Kd.dF HS.out.R).1⟩
       go_wp2_with (go_at_call 43;have T:=iF.calls k g l0 l1 (some ⟨gm,0,none⟩) cm r1 r2 w0 wr HS.out.I HS.out.B (by rw[← HL2.out];exact HL2.out ▸ (Kd.dF HS.out.R).2.2) (by rw[← HL2.out];exact(Kd.dF HS.out.R).2.1) (fun ad ha _=>by cases ha;exact fun e=>HS.out.ne e.symm) arC.out;rw[← HL2.out]at T;refine T.mono ?_;clear T;rintro e wz ⟨rfl,hi,hb,hk⟩;have HS2:=ah.mk (HS.out.call hi hb hk);clear HS hi hb hk)
       go_ret2
       exact⟨_,rfl,HS2.out.R,HS2.out.I,HS2.out.B,HS2.out.K⟩
theorem gV.calls (k:Nat) (g:Nat) (dX:List Int) (bH:List (S40)) (a1:Int) (r1:List Int) (r2:Bool) (w0 w:World) (hI:dK w0 w g dX bH) (hB:Below w0.heap.size w0 w) (h:gV.f k dX bH a1=some (r1,r2)):
  Calls Tryz.prog 23 #[.pointer (some ⟨g,0,none⟩),.int .i64 a1] w fun e w'=>∃ v:Value,e= .returned (.tuple #[v,.bool r2])∧Kd.R (Kd.int .i64) 2 w' w.heap.size (fun _=>True) v r1∧dK w0 w' g dX bH∧Below w0.heap.size w0 w'∧aI w w' g none:=by
 unfold gV.f at h
 by_cases hc:1≤dX.length∧dX.length≤1000000∧bH.length≤1000000∧(∀ w∈bH,jg dX.length w)
 ·rw[if_pos hc]at h
  exact UN k g dX bH a1 r1 r2 w0 w dX.length bH.length rfl rfl hc.1 hc.2.1 hc.2.2.1 (fun j hj=>by
   refine hc.2.2.2 _ ?_
   unfold au
   rw[Int.toNat_natCast,List.getD_eq_getElem?_getD,List.getElem?_eq_getElem hj]
   exact List.getElem_mem hj) hI hB h
 ·rw[if_neg hc]at h;cases h
end Go.Proofs.YtalkmhnlgfncmaaGreatDoor.X
end
section
/- The greatest number of a list. Conditions: as each lemma says. -/
namespace Go.Proofs.YtalkmhnlgfncmaaGreatDoor.X
open Go.RowKit Go.Proofs.YtalkmhnlgfncmaaGreatDoorW.aC Go.Proofs.YtalkmhnlgfncmaaGreatDoorW.aN Go.Proofs.YtalkmhnlgfncmaaGreatDoorW.aT Go.Proofs.YtalkmhnlgfncmaaGreatDoor.iP
def mxl (a:Int) (l:List Int):Int:=l.foldl max a
theorem Hf (z:List Int) (hz:z.length≤1000):∀ (e i k:Nat) (a:Int),i+e=z.length→e<k→bD.l0 k z a i=some (mxl a (z.drop i))
 |0,i,k,a,hi,hk=>by
  cases k with
  |zero=>omega
  |succ k=>rw[bD.l0,if_neg (by omega),List.drop_of_length_le (by omega)];rfl
 |e+1,i,k,a,hi,hk=>by
  cases k with
  |zero=>omega
  |succ k=>
   have hlt:i<z.length:=by omega
   have ih:=Hf z hz e (i+1) k (max a z[i]) (by omega) (by omega)
   rw[Int.natCast_add,Int.natCast_one]at ih
   rw[bD.l0,if_pos (by omega),if_pos (by omega),Cz z i hlt,ahO,w64 (by omega) (by omega),ih,List.drop_eq_getElem_cons hlt];rfl
theorem aaF (z:List Int) (hz:z.length≤1000) (h1:1≤z.length) (k:Nat) (hk:1000<k):bD.f k z=some (mxl z[0] (z.drop 1)):=by
 unfold bD.f
 have:=Hf z hz (z.length - 1) 1 k z[0] (by omega) (by omega)
 have hr:rd z 0=z[0]:=Cz z 0 (by omega)
 rw[if_neg (by omega),if_pos (by omega),hr]
 exact this
end Go.Proofs.YtalkmhnlgfncmaaGreatDoor.X
end
section
/- Both ways find the same moves for a period. Plain; conditions: as each lemma says. -/
namespace Go.Proofs.YtalkmhnlgfncmaaGreatDoor.lU
open Go.RowKit Go.Proofs.YtalkmhnlgfncmaaGreatDoorW.aC Go.Proofs.YtalkmhnlgfncmaaGreatDoorW.aN Go.Proofs.YtalkmhnlgfncmaaGreatDoorW.aT
open Go.Proofs.YtalkmhnlgfncmaaGreatDoor.X Go.Proofs.YtalkmhnlgfncmaaGreatDoor.iP
open Go.Proofs.YtalkmhnlgfncmaaGreatDoor.jF (Fl T Wi WI dl Im U Sound Full Bd key hit)
theorem Ll (b:Int):∀ (l:List Int) (a:Int),b<mxl a l↔b<a∨∃ x,x∈l∧b<x
 |[],a=>by simp[mxl]
 |x::l,a=>by
  have ih:=Ll b l (max a x)
  unfold mxl at ih ⊢
  rw[List.foldl_cons,ih]
  simp only[List.mem_cons,exists_eq_or_imp]
  have:b<max a x↔b<a∨b<x:=by omega
  rw[this,or_assoc]
theorem Lm (d:List Int) (b:Int) (h1:1≤d.length) (h2:d.length≤8) (k:Nat) (hk:1000<k):∃ x,bD.f k d=some x∧(x>b↔lJ b d d.length=true):=by
 refine⟨_,aaF d (by omega) h1 k hk,?_⟩
 rw[wI]
 show b<mxl d[0] (d.drop 1)↔ _
 rw[Ll]
 have hd:d=d[0]::d.drop 1:=by
  have:=List.drop_eq_getElem_cons (l:=d) (i:=0) (by omega)
  rw[List.drop_zero]at this
  exact this
 have hm:(b<d[0]∨∃ x,x∈d.drop 1∧b<x)↔∃ x,x∈d∧b<x:=by
  conv=>rhs;rw[hd]
  simp only[List.mem_cons,exists_eq_or_imp]
 rw[hm]
 constructor
 ·rintro⟨x,h3,h4⟩
  obtain⟨i,hi,rfl⟩:=List.getElem_of_mem h3
  exact⟨i,hi,by rw[qQ _ _ hi];exact h4⟩
 rintro⟨v,hv,h4⟩
 exact⟨d[v],List.getElem_mem hv,by rw[qQ _ _ hv]at h4;exact h4⟩
theorem Qr {d:List Int} {ws:List S40} {m:List Int} (h:yg d ws m=true):m.all mv=true:=by
 unfold yg at h
 rw[Bool.and_eq_true,Bool.and_eq_true,Bool.and_eq_true]at h
 exact h.2.2.1
theorem Qs {d:List Int} {ws:List S40} {m:List Int} (h:yg d ws m=true) (v:Nat):rd m (v:Int)≤20:=by
 have:=Qr h
 rw[List.all_eq_true]at this
 rcases Nat.lt_or_ge v m.length with hv|hv
 ·have h2:=this _ (List.getElem_mem hv)
  rw[qQ _ _ hv]
  unfold mv at h2
  rw[decide_eq_true_eq]at h2
  omega
 rw[Qj _ _ hv];omega
/-- What both find. -/
theorem UO {d:List Int} {ws:List S40} {M:Nat→Nat→Bt} (h:Tab d ws d.length M) (P:Int) (K:Nat) (hK:4000000<K):
  ∃ p q,gV.f K d ws P=some p∧gM.f K d ws P (kQ d.length M)=some q∧((p.2=false∧q.2=false)∨p=q)∧(p.2=true→p.1.length≤8):=by
 have h1:=h.fl.n1
 have h8:=h.fl.n8
 have h16:=h.fl.m16
 have hw:∀ w,w∈ws→jg d.length w:=fun w hw=>by
  have:=h.fl.wok w hw
  unfold fQ at this
  unfold jg
  omega
 obtain⟨x,hx,hxo⟩:=Lm d P h1 h8 K (by omega)
 unfold gV.f gM.f
 have hc1:1≤d.length∧d.length≤1000000∧ws.length≤1000000∧∀ w,w∈ws→jg d.length w:=⟨by omega,by omega,by omega,hw⟩
 have hc2:1≤d.length∧d.length≤1000000∧ws.length≤1000000∧(∀ w,w∈ws→jg d.length w)∧(kQ d.length M).length=d.length∧∀ r,r∈kQ d.length M→r.length=d.length:=⟨by omega,by omega,by omega,hw,by simp[kQ],fun r hr=>by
  unfold kQ at hr
  obtain⟨i,_,rfl⟩:=List.mem_map.1 hr
  simp[Cm]⟩
 rw[if_pos hc1,if_pos hc2,hx,Option.bind_some]
 by_cases ho:lJ P d d.length=true
 ·rw[if_pos ho,if_pos (hxo.2 ho)]
  exact⟨_,_,rfl,rfl,.inr rfl,fun h=>Bool.noConfusion h⟩
 ·rw[if_neg ho,if_neg (fun hh=>ho (hxo.1 hh))]
  have hP:∀ v:Nat,v<d.length→rd d (v:Int)≤P:=fun v hv=>by
   rcases Int.lt_or_le P (rd d (v:Int))with hq|hq
   ·exact absurd ((wI P d d.length).2 ⟨v,hv,hq⟩) ho
   exact hq
  obtain⟨p,hp,hp2⟩:=aaE (P:=P) h hP K hK
  obtain⟨q,hq,hq2⟩:=WK (d:=d) (P:=P) (M:=M) K h8 h16 h.fl.wok (fun i j hf=>by have:=h.bd i j hf;omega) hK
  refine⟨p,q,hp,hq,?_,?_⟩
  rotate_left
  ·rcases hp2 with⟨rfl,hp3⟩|⟨m,hm,rfl⟩
   ·exact fun h=>Bool.noConfusion h
   intro _
   show m.length≤8
   rw[hm.len];exact h8
  rcases hp2 with⟨rfl,hp3⟩|⟨m,hm,rfl⟩
  ·rcases hq2 with⟨rfl,hq3⟩|⟨m',hm',rfl⟩
   ·exact .inr rfl
   refine .inl ⟨rfl,?_⟩
   obtain⟨v,hv,hlt⟩:=hp3 _ hm'.sol
   cases hc:yg d ws m' with
   |false=>rfl
   |true=>have:=Qs hc v;have hlt:20<rd m' (v:Int):=hlt;omega
  rcases hq2 with⟨rfl,hq3⟩|⟨m',hm',rfl⟩
  ·exact absurd hm.sol (hq3 _)
  exact .inr (by rw[hm.same hm'])
end Go.Proofs.YtalkmhnlgfncmaaGreatDoor.lU
end
section
/- The reference's MovesFor. Conditions: none. -/
namespace Go.Proofs.YtalkmhnlgfncmaaGreatDoor.X
open Go.RowKit Go.Proofs.YtalkmhnlgfncmaaGreatDoorW.aC Go.Proofs.YtalkmhnlgfncmaaGreatDoorW.aN Go.Proofs.YtalkmhnlgfncmaaGreatDoorW.aT
set_option maxHeartbeats 4000000 in
set_option maxRecDepth 100000 in
theorem aeE (k:Nat) (A0:Option Addr) (c0:Nat) (l0:List Int) (A1:Option Addr) (c1:Nat) (l1:List S40) (a1:Int) (m:List Int) (w:World) (hr0:Kd.C (Kd.int .i64) w A0 l0.length l0) (hr1:Kd.C k40 w A1 l1.length l1) (h1:bN.f k l0 l1=some false):
  Calls Tryz.prog 8 #[.agg #[.slice A0 l0.length c0,.slice A1 l1.length c1],.int .i64 a1] w fun e w'=>∃ v:Value,e= .returned (.tuple #[v,.bool false])∧Kd.R (Kd.int .i64) 2 w' w.heap.size (fun _=>True) v ([]:List Int)∧Below w.heap.size w w':=by
 have OU:=ah.mk hr0
 have Ti:=ah.mk hr1
 have Hh1:=ah.mk h1
 clear hr0 hr1 h1
 have HB:=ah.mk (Below.refl w.heap.size w)
 go_enter Tryz.func8,Tryz.ntmps8
 go_wp2_with (first
  |((with_reducible refine aH (N:=2) rfl ?_);refine qbx (N:=2) (cs:=#[.slice A0 l0.length c0,.slice A1 l1.length c1]) (t:=27) ?_;intro g1 hg wn bR hb;have GE1:=ah.mk (xu HB:w.heap.size≤g1);clear hg;have HI:ah (dK w wn g1 l0 l1):=⟨⟨_,_,_,_,bR,GE1.out,OU.out,Ti.out⟩⟩;clear bR;replace HB:=ah.mk (av HB.out hb);clear hb)
  |(go_at_call 21;(with_reducible refine(bN.calls k g1 l0 l1 false w _ HI.out HB.out Hh1.out).mono ?_);rintro e wn ⟨rfl,hi,hb,hk⟩;clear HI HB hk;have HI:=ah.mk hi;have HB:=ah.mk hb;clear hi hb))
 go_ret2
 exact⟨_,rfl,Kd.Cq _ _ _ _ _,HB.out⟩
set_option maxHeartbeats 4000000 in
set_option maxRecDepth 100000 in
theorem aeF (k:Nat) (A0:Option Addr) (c0:Nat) (l0:List Int) (A1:Option Addr) (c1:Nat) (l1:List S40) (a1:Int) (m:List Int) (w:World) (hr0:Kd.C (Kd.int .i64) w A0 l0.length l0) (hr1:Kd.C k40 w A1 l1.length l1) (h1:bN.f k l0 l1=some true) (h2:bM.f a1 0 100000=some false):
  Calls Tryz.prog 8 #[.agg #[.slice A0 l0.length c0,.slice A1 l1.length c1],.int .i64 a1] w fun e w'=>∃ v:Value,e= .returned (.tuple #[v,.bool false])∧Kd.R (Kd.int .i64) 2 w' w.heap.size (fun _=>True) v ([]:List Int)∧Below w.heap.size w w':=by
 have OU:=ah.mk hr0
 have Ti:=ah.mk hr1
 have Hh1:=ah.mk h1
 have Hh2:=ah.mk h2
 clear hr0 hr1 h1 h2
 have HB:=ah.mk (Below.refl w.heap.size w)
 go_enter Tryz.func8,Tryz.ntmps8
 go_wp2_with (first
  |((with_reducible refine aH (N:=2) rfl ?_);refine qbx (N:=2) (cs:=#[.slice A0 l0.length c0,.slice A1 l1.length c1]) (t:=27) ?_;intro g1 hg wn bR hb;have GE1:=ah.mk (xu HB:w.heap.size≤g1);clear hg;have HI:ah (dK w wn g1 l0 l1):=⟨⟨_,_,_,_,bR,GE1.out,OU.out,Ti.out⟩⟩;clear bR;replace HB:=ah.mk (av HB.out hb);clear hb)
  |(go_at_call 21;(with_reducible refine(bN.calls k g1 l0 l1 true w _ HI.out HB.out Hh1.out).mono ?_);rintro e wn ⟨rfl,hi,hb,hk⟩;clear HI HB hk;have HI:=ah.mk hi;have HB:=ah.mk hb;clear hi hb)
  |(go_at_call 22;(with_reducible refine(bM.calls a1 0 100000 false _ Hh2.out).mono ?_);rintro e wn ⟨rfl,⟨nd,rfl⟩⟩;replace HI:=ah.mk (dK.drewN HI.out nd);replace HB:=ah.mk (bZ HB.out nd)))
 go_ret2
 exact⟨_,rfl,Kd.Cq _ _ _ _ _,HB.out⟩
set_option maxHeartbeats 4000000 in
set_option maxRecDepth 100000 in
theorem aeG (k:Nat) (A0:Option Addr) (c0:Nat) (l0:List Int) (A1:Option Addr) (c1:Nat) (l1:List S40) (a1:Int) (m:List Int) (w:World) (hr0:Kd.C (Kd.int .i64) w A0 l0.length l0) (hr1:Kd.C k40 w A1 l1.length l1) (h1:bN.f k l0 l1=some true) (h2:bM.f a1 0 100000=some true) (h3:gV.f k l0 l1 a1=some (m,false)):
  Calls Tryz.prog 8 #[.agg #[.slice A0 l0.length c0,.slice A1 l1.length c1],.int .i64 a1] w fun e w'=>∃ v:Value,e= .returned (.tuple #[v,.bool false])∧Kd.R (Kd.int .i64) 2 w' w.heap.size (fun _=>True) v ([]:List Int)∧Below w.heap.size w w':=by
 have OU:=ah.mk hr0
 have Ti:=ah.mk hr1
 have Hh1:=ah.mk h1
 have Hh2:=ah.mk h2
 have Hh3:=ah.mk h3
 clear hr0 hr1 h1 h2 h3
 have HB:=ah.mk (Below.refl w.heap.size w)
 go_enter Tryz.func8,Tryz.ntmps8
 go_wp2_with (first
  |((with_reducible refine aH (N:=2) rfl ?_);refine qbx (N:=2) (cs:=#[.slice A0 l0.length c0,.slice A1 l1.length c1]) (t:=27) ?_;intro g1 hg wn bR hb;have GE1:=ah.mk (xu HB:w.heap.size≤g1);clear hg;have HI:ah (dK w wn g1 l0 l1):=⟨⟨_,_,_,_,bR,GE1.out,OU.out,Ti.out⟩⟩;clear bR;replace HB:=ah.mk (av HB.out hb);clear hb)
  |(go_at_call 21;(with_reducible refine(bN.calls k g1 l0 l1 true w _ HI.out HB.out Hh1.out).mono ?_);rintro e wn ⟨rfl,hi,hb,hk⟩;clear HI HB hk;have HI:=ah.mk hi;have HB:=ah.mk hb;clear hi hb)
  |(go_at_call 22;(with_reducible refine(bM.calls a1 0 100000 true _ Hh2.out).mono ?_);rintro e wn ⟨rfl,⟨nd,rfl⟩⟩;replace HI:=ah.mk (dK.drewN HI.out nd);replace HB:=ah.mk (bZ HB.out nd))
  |(go_at_call 23;(with_reducible refine(gV.calls k g1 l0 l1 a1 m false w _ HI.out HB.out Hh3.out).mono ?_);rintro e wn2 ⟨v,rfl,hR,hi,hb,hk⟩;have HR:=ah.mk (Kd.dV hR (aG HB.out));clear HI HB hk hi hR;have HB:=ah.mk hb;clear hb))
 go_ret2
 exact⟨_,rfl,Kd.Cq _ _ _ _ _,HB.out⟩
set_option maxHeartbeats 4000000 in
set_option maxRecDepth 100000 in
theorem aeH (k:Nat) (A0:Option Addr) (c0:Nat) (l0:List Int) (A1:Option Addr) (c1:Nat) (l1:List S40) (a1:Int) (m:List Int) (w:World) (hr0:Kd.C (Kd.int .i64) w A0 l0.length l0) (hr1:Kd.C k40 w A1 l1.length l1) (h1:bN.f k l0 l1=some true) (h2:bM.f a1 0 100000=some true) (h3:gV.f k l0 l1 a1=some (m,true)):
  Calls Tryz.prog 8 #[.agg #[.slice A0 l0.length c0,.slice A1 l1.length c1],.int .i64 a1] w fun e w'=>∃ v:Value,e= .returned (.tuple #[v,.bool true])∧Kd.R (Kd.int .i64) 2 w' w.heap.size (fun _=>True) v m∧Below w.heap.size w w':=by
 have OU:=ah.mk hr0
 have Ti:=ah.mk hr1
 have Hh1:=ah.mk h1
 have Hh2:=ah.mk h2
 have Hh3:=ah.mk h3
 clear hr0 hr1 h1 h2 h3
 have HB:=ah.mk (Below.refl w.heap.size w)
 go_enter Tryz.func8,Tryz.ntmps8
 go_wp2_with (first
  |((with_reducible refine aH (N:=2) rfl ?_);refine qbx (N:=2) (cs:=#[.slice A0 l0.length c0,.slice A1 l1.length c1]) (t:=27) ?_;intro g1 hg wn bR hb;have GE1:=ah.mk (xu HB:w.heap.size≤g1);clear hg;have HI:ah (dK w wn g1 l0 l1):=⟨⟨_,_,_,_,bR,GE1.out,OU.out,Ti.out⟩⟩;clear bR;replace HB:=ah.mk (av HB.out hb);clear hb)
  |(go_at_call 21;(with_reducible refine(bN.calls k g1 l0 l1 true w _ HI.out HB.out Hh1.out).mono ?_);rintro e wn ⟨rfl,hi,hb,hk⟩;clear HI HB hk;have HI:=ah.mk hi;have HB:=ah.mk hb;clear hi hb)
  |(go_at_call 22;(with_reducible refine(bM.calls a1 0 100000 true _ Hh2.out).mono ?_);rintro e wn ⟨rfl,⟨nd,rfl⟩⟩;replace HI:=ah.mk (dK.drewN HI.out nd);replace HB:=ah.mk (bZ HB.out nd))
  |(go_at_call 23;(with_reducible refine(gV.calls k g1 l0 l1 a1 m true w _ HI.out HB.out Hh3.out).mono ?_);rintro e wn2 ⟨v,rfl,hR,hi,hb,hk⟩;have HR:=ah.mk (Kd.dV hR (aG HB.out));clear HI HB hk hi hR;have HB:=ah.mk hb;clear hb))
 go_ret2
 exact⟨_,rfl,HR.out,HB.out⟩
def jN.f (k:Nat) (l0:List Int) (l1:List S40) (a1:Int):Option (List Int×Bool):=
 (bN.f k l0 l1).bind fun b1=>if b1=true then(bM.f a1 0 100000).bind fun b2=>if b2=true then(gV.f k l0 l1 a1).bind fun p=>(if p.2=true then some (p.1,true)else some ([],false))else some ([],false)else some ([],false)
theorem jN.calls (k:Nat) (eT:Option Addr) (eG:Nat) (bK:List Int) (fE:Option Addr) (eH:Nat) (bf:List (S40)) (a1:Int) (r1:List Int) (r2:Bool) (w:World) (lZ:Kd.C (Kd.int .i64) w eT bK.length bK) (nV:bK.length≤eG) (lV:Kd.C k40 w fE bf.length bf) (nJ:bf.length≤eH) (h:jN.f k bK bf a1=some (r1,r2)):
  Calls Tryz.prog 8 #[.agg #[.slice eT bK.length eG,.slice fE bf.length eH],.int .i64 a1] w fun e w'=>∃ v:Value,e= .returned (.tuple #[v,.bool r2])∧Kd.R (Kd.int .i64) 2 w' w.heap.size (fun _=>True) v r1∧Below w.heap.size w w':=by
 unfold jN.f at h
 obtain⟨b1,h1,h⟩:=Option.bind_eq_some_iff.mp h
 cases b1 with
 |false=>
  rw[if_neg (by simp)]at h
  simp only[Option.some.injEq,Prod.mk.injEq]at h
  obtain⟨rfl,rfl⟩:=h
  exact aeE k eT eG bK fE eH bf a1 [] w lZ lV h1
 |true=>
  rw[if_pos rfl]at h
  obtain⟨b2,h2,h⟩:=Option.bind_eq_some_iff.mp h
  cases b2 with
  |false=>
   rw[if_neg (by simp)]at h
   simp only[Option.some.injEq,Prod.mk.injEq]at h
   obtain⟨rfl,rfl⟩:=h
   exact aeF k eT eG bK fE eH bf a1 [] w lZ lV h1 h2
  |true=>
   rw[if_pos rfl]at h
   obtain⟨⟨m,b3⟩,h3,h⟩:=Option.bind_eq_some_iff.mp h
   cases b3 with
   |false=>
    rw[if_neg (by simp)]at h
    simp only[Option.some.injEq,Prod.mk.injEq]at h
    obtain⟨rfl,rfl⟩:=h
    exact aeG k eT eG bK fE eH bf a1 m w lZ lV h1 h2 h3
   |true=>
    rw[if_pos rfl]at h
    simp only[Option.some.injEq,Prod.mk.injEq]at h
    obtain⟨rfl,rfl⟩:=h
    exact aeH k eT eG bK fE eH bf a1 m w lZ lV h1 h2 h3
end Go.Proofs.YtalkmhnlgfncmaaGreatDoor.X
end
section
namespace Go.Proofs.YtalkmhnlgfncmaaGreatDoor.X
open Go.RowKit Go.Proofs.YtalkmhnlgfncmaaGreatDoorW.aC Go.Proofs.YtalkmhnlgfncmaaGreatDoorW.aN Go.Proofs.YtalkmhnlgfncmaaGreatDoorW.aT
attribute [local go_sem] fq fu gJ gK dN dO fA fB
/-! ### impl_MovesFor: function 6 -/
def bP.j0:Nat→Int→Bool→List Int→List (S40)→Option (List Int×Bool)
 |0,_,_,_,_=>none
 |k+1,x1,x15,Qt,Qu=>if x15=true then(some (([]:List Int),false))else((dh.f k Qt Qu).bind fun WR=>((gM.f k Qt Qu x1 WR).bind fun aeI=>(if aeI.2=true then(some (aeI.1,true))else(some (([]:List Int),false)))))
def bP.f (k:Nat) (bK:List Int) (bf:List (S40)) (a1:Int):Option (List Int×Bool):=(aX.f k bK bf).bind fun aeJ=>(if aeJ=true then((aU.f a1 0 100000).bind fun ab6=>(bP.j0 k a1 (!ab6) bK bf))else(bP.j0 k a1 true bK bf))
def bP.T3:Bool×List (List Nat×List Nat):=(true,[([],[]),([],[]),([],[]),([2],[2]),([0,1,3,3],[0,1,3]),([4],[4]),([5],[5]),([5],[5]),([6,4,0,1,2,3,4,5,6],[6]),([7,8,0,1,2,3,4,5,6,7,8],[7])])
def bP.B3:List Nat:=[0,0,0,4,15,31,63,63,127,511]
theorem bP.aod:uU .any (opsOf Tryz.f6 3)=bP.T3:=by kernel_rfl
theorem bP.aeK:nG bP.T3.2 bP.B3=true:=by kernel_rfl
set_option maxHeartbeats 8000000 in
set_option maxRecDepth 100000 in
theorem bP.calls (k:Nat) (eT:Option Addr) (eG:Nat) (bK:List Int) (fE:Option Addr) (eH:Nat) (bf:List (S40)) (a1:Int) (r1:List Int) (r2:Bool) (w:World) (lZ:Kd.C (Kd.int .i64) w eT bK.length bK) (nV:bK.length≤eG) (lV:Kd.C k40 w fE bf.length bf) (nJ:bf.length≤eH) (h:bP.f k bK bf a1=some (r1,r2)):
  Calls Tryz.prog 6 #[.agg #[.slice eT bK.length eG,.slice fE bf.length eH],.int .i64 a1] w fun e w'=>∃ v0_:Value,e= .returned (.tuple #[v0_,.bool r2])∧Kd.R (Kd.int .i64) 2 w' w.heap.size (fun _=>True) v0_ r1∧Below w.heap.size w w':=by
 have Ux:=Tryz.underlying27
 have jT:=ah.mk lZ
 have kg:=ah.mk nV
 clear lZ nV
 have jU:=ah.mk lV
 have kC:=ah.mk nJ
 clear lV nJ
 have HB:=ah.mk (Below.refl w.heap.size w)
 have H:((aX.f k bK bf).bind fun aeJ=>(if aeJ=true then((aU.f a1 0 100000).bind fun ab6=>(bP.j0 k a1 (!ab6) bK bf))else(bP.j0 k a1 true bK bf)))=some (r1,r2):=h
 clear h
 have HC3:=ah.mk H
 clear H
 go_enter Tryz.func6,Tryz.ntmps6
 go_upto_region 1 with(first|((with_reducible refine aH (N:=2) rfl ?_);refine qbx (N:=2) (cs:=#[.slice eT bK.length eG,.slice fE bf.length eH]) (t:=27) ?_;intro tT hg w4 bR hb;have ko:=ah.mk (bR);have arD:=ah.mk ((mK HB:w.heap.size≤tT));have vJ:=ah.mk ((mK HB:w.heap.size≤tT));replace HB:=ah.mk (av (qz0 HB) hb);clear hb bR hg))
 (try simp only[Act.put,List.setIfInBounds_toArray,List.set_cons_zero,List.set_cons_succ])
 go_cut [15] (fun v15 wc=>∃ (kq:Nat) (UR:Bool),v15= .bool UR∧ah (bP.j0 kq a1 UR bK bf=some (r1,r2))∧ah (kq≤k)∧ah (wc.heap[tT]?=some (.cells #[(.slice eT bK.length eG),(.slice fE bf.length eH)] 27 (0,0)))∧ah (Below w.heap.size w wc))
 case first=>
  have H:=HC3.out
  clear HC3
  obtain⟨aeJ,A50,H⟩:=Option.bind_eq_some_iff.mp H
  have A5:=ah.mk A50
  clear A50
  by_cases c6:aeJ=true
  ·subst c6
   rw[if_pos rfl]at H
   obtain⟨ab6,A70,H⟩:=Option.bind_eq_some_iff.mp H
   have A7:=ah.mk A70
   clear A70
   have H':=ah.mk H
   clear H
   have Df:w4.cell? ⟨tT,0,none⟩=some (.slice eT bK.length eG):=(aj ko.out 0).trans rfl
   have Dg:w4.cell? ⟨tT,1,none⟩=some (.slice fE bf.length eH):=(aj ko.out 1).trans rfl
   have Gv:=ak ko.out 0
   have Gw:=ak ko.out 1
   go_wp2_with (first|((with_reducible refine aK (f:=9) rfl ?_);refine dH (some 9) rfl rfl Tryz.func9 qz9 rfl #[.agg #[.slice eT bK.length eG,.slice fE bf.length eH]] rfl jh ?_;(with_reducible refine(aX.calls k _ _ bK _ _ bf true _ ?bT ?bU ?eu ?eF A5.out).mono ?_);(case bT=>exact qz2 jT HB);(case bU=>exact jL kg);(case eu=>exact qz2 jU HB);(case eF=>exact jL kC);rintro e w9 ⟨rfl,hb⟩;refine⟨_,rfl,?_⟩;replace ko:=ah.mk (aA (g:=tT) (o:=.cells #[.slice eT bK.length eG,.slice fE bf.length eH] 27 (0,0)) (dP ko) hb);replace HB:=ah.mk (av (qz4 HB vJ) hb);(try clear hb);(try clear hb2);(try clear hk);(try clear hi))|(go_at_call 18;(with_reducible refine(aU.calls a1 0 100000 ab6 _ A7.out).mono ?_);rintro e w' ⟨rfl,⟨nd,rfl⟩⟩))
   go_meet
   case rel=>exact⟨_,(!ab6),iY,H',⟨Yf⟩,⟨dP ko⟩,⟨qz4 HB vJ⟩⟩
  replace c6:=Bool.eq_false_iff.mpr c6
  subst c6
  rw[if_neg (show ¬(false=true) by decide)]at H
  have H':=ah.mk H
  clear H
  have IB:w4.cell? ⟨tT,0,none⟩=some (.slice eT bK.length eG):=(aj ko.out 0).trans rfl
  have IC:w4.cell? ⟨tT,1,none⟩=some (.slice fE bf.length eH):=(aj ko.out 1).trans rfl
  have NJ:=ak ko.out 0
  have NK:=ak ko.out 1
  go_wp2_with (first|((with_reducible refine aK (f:=9) rfl ?_);refine dH (some 9) rfl rfl Tryz.func9 qz9 rfl #[.agg #[.slice eT bK.length eG,.slice fE bf.length eH]] rfl jh ?_;(with_reducible refine(aX.calls k _ _ bK _ _ bf false _ ?bT ?bU ?eu ?eF A5.out).mono ?_);(case bT=>exact qz2 jT HB);(case bU=>exact jL kg);(case eu=>exact qz2 jU HB);(case eF=>exact jL kC);rintro e w11 ⟨rfl,hb⟩;refine⟨_,rfl,?_⟩;replace ko:=ah.mk (aA (g:=tT) (o:=.cells #[.slice eT bK.length eG,.slice fE bf.length eH] 27 (0,0)) (dP ko) hb);replace HB:=ah.mk (av (qz4 HB vJ) hb);(try clear hb);(try clear hb2);(try clear hk);(try clear hi)))
  go_meet
  case rel=>exact⟨_,(true),iY,H',⟨Yf⟩,⟨dP ko⟩,⟨qz4 HB vJ⟩⟩
 case rest=>
  clear HC3
  try clear p2
  try clear c6
  try clear c9
  try clear IB
  try clear IC
  try clear Df
  try clear Dg
  try clear NJ
  try clear NK
  try clear Gv
  try clear Gw
  obtain⟨kq,UR,rfl,HA,HJ2,ko,HB⟩:=hcut
  cases kq with
  |zero=>exact absurd HA.out (by simp[bP.j0])
  |succ kj2=>
   have H:=HA.out
   clear HA
   simp only[bP.j0]at H
   by_cases c12:UR=true
   ·subst c12
    rw[if_pos rfl]at H
    simp only[Option.some.injEq,Prod.mk.injEq]at H
    obtain⟨rfl,rfl⟩:=H
    go_wp2
    go_ret2
    exact⟨_,qz7,Dh,qz4 HB vJ⟩
   ·replace c12:=Bool.eq_false_iff.mpr c12
    subst c12
    rw[if_neg (show ¬(false=true) by decide)]at H
    obtain⟨WR,aoe,H⟩:=Option.bind_eq_some_iff.mp H
    have A13:=ah.mk aoe
    clear aoe
    obtain⟨⟨aof,arE⟩,WS,H⟩:=Option.bind_eq_some_iff.mp H
    try dsimp only at H
    have A14:=ah.mk WS
    clear WS
    by_cases c15:arE=true
    ·subst c15
     rw[if_pos rfl]at H
     simp only[Option.some.injEq,Prod.mk.injEq]at H
     obtain⟨rfl,rfl⟩:=H
     try go_wp2
     replace ko:=ah.mk (dS ko.out)
     replace HB:=ah.mk (bG HB.out)
     refine qP (n:=10) (S:=fun w'=>w'.cell? ⟨tT,0,none⟩=some (.slice eT bK.length eG)∧w'.cell? ⟨tT,1,none⟩=some (.slice fE bf.length eH)) (ds:=[]) #[false,false,false,false,false,false,false,false,false,false] qz9 rfl rfl ⟨(aj ko.out 0).trans rfl,(aj ko.out 1).trans rfl⟩ (fun hHeld=>?_);refine jZ bP.aod bP.aeK (fun HT_ HW_=>?_)
     generalize wc.drew=w16 at ko HB hHeld ⊢
     refine qpu HT_ 1 18 #[false,true,false,false,false,false,false,false,false,false] rfl rfl ?_
     refine qtk HT_ HW_ 0 17 #[true,true,false,false,false,false,false,false,false,false] rfl rfl hHeld ?_
     refine qtk HT_ HW_ 2 19 #[true,true,true,false,false,false,false,false,false,false] rfl rfl hHeld ?_
     refine FP (i:=3) (N:=some 20) #[true,true,true,true,false,false,false,false,false,false] rfl rfl (nE HT_.out qz9) (by decide) (fun K hK=>?_)
     refine yC Tryz.func20 qz9 rfl #[.agg #[.slice eT bK.length eG,.slice fE bf.length eH]] (by rfl) rfl rfl jh ?_
     with_reducible refine(dh.calls kj2 _ _ bK _ _ bf WR _ ?bT ?bU ?eu ?eF A13.out).mono ?_
     (case bT=>exact qz2 jT HB)
     (case bU=>exact jL kg)
     (case eu=>exact qz2 jU HB)
     (case eF=>exact jL kC)
     rintro e w17 ⟨arF,rfl,ho0,hb⟩
     refine⟨_,rfl,?_⟩
     have AU:=ah.mk (Kd.zH ho0 (aG (qz4 HB vJ)))
     replace ko:=ah.mk (aA (g:=tT) (o:=.cells #[.slice eT bK.length eG,.slice fE bf.length eH] 27 (0,0)) (dP ko) hb)
     replace HB:=ah.mk (av (qz4 HB vJ) hb)
     (try clear hb)
     (try clear hb2)
     (try clear hk)
     (try clear hi)
     (try clear ho0)
     obtain⟨akB,akC,ab7⟩:=Kd.zI AU.out
     (first|subst ab7|(injection ab7 with f1_ f2_ f3_;have f4_:=f1_.symm;have f5_:=f3_.symm;clear f1_ f2_ f3_;subst f4_;subst f5_))
     refine hK.out _ _ ⟨(aj ko.out 0).trans rfl,(aj ko.out 1).trans rfl⟩ (fun hHeld=>?_)
     clear hK K
     refine qno 20 rfl ?_
     refine FP (i:=4) (N:=some 21) #[true,true,true,true,true,false,false,false,false,false] rfl rfl (nE HT_.out qz9) (by decide) (fun K hK=>?_)
     refine yC Tryz.func19 qz9 rfl #[.agg #[.slice eT bK.length eG,.slice fE bf.length eH],.int .i64 a1,.slice akB WR.length akC] (by rfl) rfl rfl jh ?_
     with_reducible refine(gM.calls kj2 _ _ bK _ _ bf a1 _ _ WR aof true _ ?bT ?bU ?eu ?eF ?tK ?tL A14.out).mono ?_
     (case bT=>exact qz2 jT HB)
     (case bU=>exact jL kg)
     (case eu=>exact qz2 jU HB)
     (case eF=>exact jL kC)
     (case tK=>repeat(first|exact(Kd.qw AU.out).2.2|(with_reducible refine Kd.oJ ?_ _)|(with_reducible refine Kd.qE ?_ _)|(with_reducible refine Kd.uT ?_)))
     (case tL=>first|exact trivial|(exact(Kd.qw AU.out).2.1))
     rintro e w19 ⟨arG,rfl,ho0,hb⟩
     refine⟨_,rfl,?_⟩
     replace AU:=ah.mk (Kd.sQ (aeL AU) hb)
     have aeM:=ah.mk (Kd.dV ho0 (aG (qz4 HB vJ)))
     replace ko:=ah.mk (aA (g:=tT) (o:=.cells #[.slice eT bK.length eG,.slice fE bf.length eH] 27 (0,0)) (dP ko) hb)
     replace HB:=ah.mk (av (qz4 HB vJ) hb)
     (try clear hb)
     (try clear hb2)
     (try clear hk)
     (try clear hi)
     (try clear ho0)
     refine hK.out _ _ ⟨(aj ko.out 0).trans rfl,(aj ko.out 1).trans rfl⟩ (fun hHeld=>?_)
     clear hK K
     refine qno 21 rfl ?_
     refine qpu HT_ 5 16 #[true,true,true,true,true,true,false,false,false,false] rfl rfl ?_
     refine qpu HT_ 6 22 #[true,true,true,true,true,true,true,false,false,false] rfl rfl ?_
     refine qpu HT_ 7 23 #[true,true,true,true,true,true,true,true,false,false] rfl rfl ?_
     refine qpu HT_ 8 6 #[true,true,true,true,true,true,true,true,true,false] rfl rfl ?_
     refine qpu HT_ 9 7 #[true,true,true,true,true,true,true,true,true,true] rfl rfl ?_
     refine xk (oh HT_.out qz9) ?_
     try go_wp2
     go_ret2
     exact⟨_,qz7,cK aeM,qz4 HB vJ⟩
    replace c15:=Bool.eq_false_iff.mpr c15
    subst c15
    rw[if_neg (show ¬(false=true) by decide)]at H
    simp only[Option.some.injEq,Prod.mk.injEq]at H
    obtain⟨rfl,rfl⟩:=H
    try go_wp2
    replace ko:=ah.mk (dS ko.out)
    replace HB:=ah.mk (bG HB.out)
    refine qP (n:=10) (S:=fun w'=>w'.cell? ⟨tT,0,none⟩=some (.slice eT bK.length eG)∧w'.cell? ⟨tT,1,none⟩=some (.slice fE bf.length eH)) (ds:=[]) #[false,false,false,false,false,false,false,false,false,false] qz9 rfl rfl ⟨(aj ko.out 0).trans rfl,(aj ko.out 1).trans rfl⟩ (fun hHeld=>?_);refine jZ bP.aod bP.aeK (fun HT_ HW_=>?_)
    generalize wc.drew=w20 at ko HB hHeld ⊢
    refine qpu HT_ 1 18 #[false,true,false,false,false,false,false,false,false,false] rfl rfl ?_
    refine qtk HT_ HW_ 0 17 #[true,true,false,false,false,false,false,false,false,false] rfl rfl hHeld ?_
    refine qtk HT_ HW_ 2 19 #[true,true,true,false,false,false,false,false,false,false] rfl rfl hHeld ?_
    refine FP (i:=3) (N:=some 20) #[true,true,true,true,false,false,false,false,false,false] rfl rfl (nE HT_.out qz9) (by decide) (fun K hK=>?_)
    refine yC Tryz.func20 qz9 rfl #[.agg #[.slice eT bK.length eG,.slice fE bf.length eH]] (by rfl) rfl rfl jh ?_
    with_reducible refine(dh.calls kj2 _ _ bK _ _ bf WR _ ?bT ?bU ?eu ?eF A13.out).mono ?_
    (case bT=>exact qz2 jT HB)
    (case bU=>exact jL kg)
    (case eu=>exact qz2 jU HB)
    (case eF=>exact jL kC)
    rintro e w21 ⟨arF,rfl,ho0,hb⟩
    refine⟨_,rfl,?_⟩
    have AU:=ah.mk (Kd.zH ho0 (aG (qz4 HB vJ)))
    replace ko:=ah.mk (aA (g:=tT) (o:=.cells #[.slice eT bK.length eG,.slice fE bf.length eH] 27 (0,0)) (dP ko) hb)
    replace HB:=ah.mk (av (qz4 HB vJ) hb)
    (try clear hb)
    (try clear hb2)
    (try clear hk)
    (try clear hi)
    (try clear ho0)
    obtain⟨arH,arI,aog⟩:=Kd.zI AU.out
    (first|subst aog|(injection aog with f1_ f2_ f3_;have f4_:=f1_.symm;have f5_:=f3_.symm;clear f1_ f2_ f3_;subst f4_;subst f5_))
    refine hK.out _ _ ⟨(aj ko.out 0).trans rfl,(aj ko.out 1).trans rfl⟩ (fun hHeld=>?_)
    clear hK K
    refine qno 20 rfl ?_
    refine FP (i:=4) (N:=some 21) #[true,true,true,true,true,false,false,false,false,false] rfl rfl (nE HT_.out qz9) (by decide) (fun K hK=>?_)
    refine yC Tryz.func19 qz9 rfl #[.agg #[.slice eT bK.length eG,.slice fE bf.length eH],.int .i64 a1,.slice arH WR.length arI] (by rfl) rfl rfl jh ?_
    with_reducible refine(gM.calls kj2 _ _ bK _ _ bf a1 _ _ WR aof false _ ?bT ?bU ?eu ?eF ?tK ?tL A14.out).mono ?_
    (case bT=>exact qz2 jT HB)
    (case bU=>exact jL kg)
    (case eu=>exact qz2 jU HB)
    (case eF=>exact jL kC)
    (case tK=>repeat(first|exact(Kd.qw AU.out).2.2|(with_reducible refine Kd.oJ ?_ _)|(with_reducible refine Kd.qE ?_ _)|(with_reducible refine Kd.uT ?_)))
    (case tL=>first|exact trivial|(exact(Kd.qw AU.out).2.1))
    rintro e w23 ⟨arG,rfl,ho0,hb⟩
    refine⟨_,rfl,?_⟩
    replace AU:=ah.mk (Kd.sQ (aeL AU) hb)
    have aeM:=ah.mk (Kd.dV ho0 (aG (qz4 HB vJ)))
    replace ko:=ah.mk (aA (g:=tT) (o:=.cells #[.slice eT bK.length eG,.slice fE bf.length eH] 27 (0,0)) (dP ko) hb)
    replace HB:=ah.mk (av (qz4 HB vJ) hb)
    (try clear hb)
    (try clear hb2)
    (try clear hk)
    (try clear hi)
    (try clear ho0)
    refine hK.out _ _ ⟨(aj ko.out 0).trans rfl,(aj ko.out 1).trans rfl⟩ (fun hHeld=>?_)
    clear hK K
    refine qno 21 rfl ?_
    refine qpu HT_ 5 16 #[true,true,true,true,true,true,false,false,false,false] rfl rfl ?_
    refine qpu HT_ 6 22 #[true,true,true,true,true,true,true,false,false,false] rfl rfl ?_
    refine qpu HT_ 7 23 #[true,true,true,true,true,true,true,true,false,false] rfl rfl ?_
    refine qpu HT_ 8 6 #[true,true,true,true,true,true,true,true,true,false] rfl rfl ?_
    refine qpu HT_ 9 7 #[true,true,true,true,true,true,true,true,true,true] rfl rfl ?_
    refine xk (oh HT_.out qz9) ?_
    try go_wp2
    go_ret2
    exact⟨_,qz7,Dh,qz4 HB vJ⟩
end Go.Proofs.YtalkmhnlgfncmaaGreatDoor.X
end
section
/- The law of MovesFor, plainly. Conditions: as each lemma says. -/
namespace Go.Proofs.YtalkmhnlgfncmaaGreatDoor.X
open Go.RowKit Go.Proofs.YtalkmhnlgfncmaaGreatDoorW.aC Go.Proofs.YtalkmhnlgfncmaaGreatDoorW.aN Go.Proofs.YtalkmhnlgfncmaaGreatDoorW.aT Go.Proofs.YtalkmhnlgfncmaaGreatDoor.iP Go.Proofs.YtalkmhnlgfncmaaGreatDoor.lU
theorem aaG (d:List Int) (ws:List S40) (h:iV d ws=true):jF.Fl d ws d.length:=by
 unfold iV at h
 rw[Bool.and_eq_true]at h
 obtain⟨hn,hm,hd,hw⟩:=tN h.1
 refine⟨rfl,hn.1,hn.2,hm,hw,fun v=>?_,fun v hv=>?_⟩
 ·unfold jF.dl
  rw[List.getD_eq_getElem?_getD]
  rcases Nat.lt_or_ge v d.length with hv|hv
  ·rw[List.getElem?_eq_getElem hv];exact hd _ (List.getElem_mem hv)
  rw[List.getElem?_eq_none hv];simp
 have:=h.2
 rw[@decide_eq_true _ (Classical.propDecidable _) ⟨v,hv⟩]at this
 simp at this
theorem Qv (K:Nat) (d:List Int) (ws:List S40) (h:iV d ws=true) (hK:100<K):∃ M,dh.f K d ws=some (kQ d.length M)∧Tab d ws d.length M:=by
 have hf:=aaG d ws h
 obtain⟨M,h1,h2,h3,h4,h5⟩:=jF.yS hf K hK
 exact⟨M,h1,aeB hf h2 h3 h5⟩
theorem MJ (K:Nat) (d:List Int) (ws:List S40) (P:Int) (h0:d.length≤2000000) (h1:ws.length≤2000000) (hK:9000000<K):∃ r:List Int×Bool,r.1.length≤16∧jN.f (K+1) d ws P=some r∧bP.f (K+1) d ws P=some r:=by
 unfold jN.f bP.f
 rw[JK (K+1) d ws (by omega) (by omega) (by omega),mZ (K+1) d ws (by omega),Option.bind_some,Option.bind_some]
 cases hv:iV d ws with
 |false=>
  rw[if_neg (by decide),if_neg (by decide),bP.j0,if_pos rfl]
  exact⟨_,by simp,rfl,rfl⟩
 |true=>
  rw[if_pos rfl,if_pos rfl,xG,nK]
  simp only[Option.bind_some]
  by_cases hp:0≤P∧P≤100000
  ·obtain⟨M,g1,g2⟩:=Qv K d ws hv (by omega)
   obtain⟨p,q,e1,e2,e3,e4⟩:=UO g2 P K (by omega)
   have e1:=FU (g:=fun k=>gV.f k d ws P) (fun k=>gV.mono d ws P k) (Nat.le_succ K) e1
   have e1:gV.f (K+1) d ws P=some p:=e1
   have i1:inB P 0 100000=true:=by unfold inB;simp;omega
   have i2:(decide (0≤P)&&decide (P≤100000))=true:=by simp;omega
   rw[i1,i2,if_pos rfl,e1,Bool.not_true,bP.j0,if_neg (by decide),g1]
   simp only[Option.bind_some]
   rw[e2]
   simp only[Option.bind_some]
   cases hp2:p.2 with
   |false=>
    have hq2:q.2=false:=e3.elim (fun e3=>e3.2) (fun e3=>by rw[← e3];exact hp2)
    rw[hq2]
    exact⟨_,by simp,rfl,rfl⟩
   |true=>
    have hq:p=q:=e3.elim (fun e3=>by rw[e3.1]at hp2;exact Bool.noConfusion hp2) (fun e3=>e3)
    rw[← hq,hp2]
    exact⟨(p.1,true),by have:=e4 hp2;show p.1.length≤16;omega,rfl,rfl⟩
  ·have i1:inB P 0 100000=false:=by unfold inB;simp;omega
   have i2:(decide (0≤P)&&decide (P≤100000))=false:=by simp;omega
   rw[i1,i2,if_neg (by decide),Bool.not_false,bP.j0,if_pos rfl]
   exact⟨_,by simp,rfl,rfl⟩
end Go.Proofs.YtalkmhnlgfncmaaGreatDoor.X
end
