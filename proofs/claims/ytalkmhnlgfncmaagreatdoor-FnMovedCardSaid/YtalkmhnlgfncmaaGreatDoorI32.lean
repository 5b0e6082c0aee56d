/- My own texts of this seat and its words, merged: Xp11, CReadI, XAppRow, XInvReg. Conditions: as each lemma says. -/
import Derived.Test.YtalkmhnlgfncmaaGreatDoorI21
import Derived.Test.YtalkmhnlgfncmaaGreatDoorI23
import Derived.Test.YtalkmhnlgfncmaaGreatDoorI31
import Derived.StillTail
import Derived.Deep.QuietTactic
import Derived.Test.YtalkmhnlgfncmaaGreatDoorXSlim
set_option linter.unusedVariables false
set_option linter.unusedSimpArgs false
section
namespace Go.Proofs.YtalkmhnlgfncmaaGreatDoor.X
open Go.RowKit Go.Proofs.YtalkmhnlgfncmaaGreatDoorW.aC Go.Proofs.YtalkmhnlgfncmaaGreatDoorW.aN Go.Proofs.YtalkmhnlgfncmaaGreatDoorW.aT
attribute [local go_sem] fq fu gJ gK dN dO fA fB
/-! ### impl_ReadFlow: function 11 -/
mutual
def bQ.l0:Nat→ByteArray→Bool→List ByteArray→Int→Int→List Int→Option (List Int×(List (S40))×Bool)
 |0,_,_,_,_,_,_=>none
 |k+1,x5,x6,x26,x27,x28,oU=>if x28<x27 then(if 0≤x28 then(if x28<(x26.length:Int)then((cZ.f (lS ByteArray.empty x26 x28)).bind fun aaR=>(if x6=true then(if oU.length<17592186044416 then(bQ.l0 k x5 aaR.2 x26 x27 (wrap64 (x28+1)) (oU++[aaR.1]))else(none))else(if oU.length<17592186044416 then(bQ.l0 k x5 false x26 x27 (wrap64 (x28+1)) (oU++[aaR.1]))else(none))))else(none))else(none))else(if x5.toList=([]:List UInt8)then(if x6=true then((aX.f k oU ([]:List (S40))).bind fun alx=>(if alx=true then(some (oU,([]:List (S40)),true))else(some (([]:List Int),([]:List (S40)),false))))else(some (([]:List Int),([]:List (S40)),false)))else((strings_Split.f x5 (⟨#[44]⟩:ByteArray)).bind fun Bg=>(bQ.l1 k x6 Bg (Bg.length:Int) 0 oU ([]:List (S40)))))
def bQ.l1:Nat→Bool→List ByteArray→Int→Int→List Int→List (S40)→Option (List Int×(List (S40))×Bool)
 |0,_,_,_,_,_,_=>none
 |k+1,x6,x51,x52,x53,oU,xP=>if x53<x52 then(if 0≤x53 then(if x53<(x51.length:Int)then((iy.f (lS ByteArray.empty x51 x53)).bind fun Kr=>(if x6=true then(if xP.length<5864062014805 then(bQ.l1 k Kr.2.2.2 x51 x52 (wrap64 (x53+1)) oU (xP++[(⟨Kr.1,Kr.2.1,Kr.2.2.1⟩:S40)]))else(none))else(if xP.length<5864062014805 then(bQ.l1 k false x51 x52 (wrap64 (x53+1)) oU (xP++[(⟨Kr.1,Kr.2.1,Kr.2.2.1⟩:S40)]))else(none))))else(none))else(none))else(if x6=true then((aX.f k oU xP).bind fun aly=>(if aly=true then(some (oU,xP,true))else(some (([]:List Int),([]:List (S40)),false))))else(some (([]:List Int),([]:List (S40)),false)))
end
def bQ.f (k:Nat) (a0:ByteArray):Option (List Int×(List (S40))×Bool):=(strings_Cut.f a0 (⟨#[47]⟩:ByteArray)).bind fun Kt=>((strings_Split.f Kt.1 (⟨#[44]⟩:ByteArray)).bind fun yt=>(bQ.l0 k Kt.2.1 Kt.2.2 yt (yt.length:Int) 0 ([]:List Int)))
set_option maxHeartbeats 8000000 in
set_option maxRecDepth 100000 in
theorem bQ.calls (k:Nat) (a0:ByteArray) (r1:List Int) (r2:List (S40)) (r3:Bool) (w:World) (h:bQ.f k a0=some (r1,r2,r3)) (wK:Dr w):
  Calls Tryz.prog 11 #[.string a0] w fun e w'=>∃ v0_ v1_:Value,e= .returned (.tuple #[.agg #[v0_,v1_],.bool r3])∧Kd.R (Kd.int .i64) 2 w' w.heap.size (fun _=>True) v0_ r1∧Kd.R k40 40 w' w.heap.size (fun _=>True) v1_ r2∧Below w.heap.size w w':=by
 have pq:=ah.mk wK
 clear wK
 have Ux:=Tryz.underlying27
 have Wh:=Tryz.underlying40
 have HB:=ah.mk (Below.refl w.heap.size w)
 have H:((strings_Cut.f a0 (⟨#[47]⟩:ByteArray)).bind fun Kt=>((strings_Split.f Kt.1 (⟨#[44]⟩:ByteArray)).bind fun yt=>(bQ.l0 k Kt.2.1 Kt.2.2 yt (yt.length:Int) 0 ([]:List Int))))=some (r1,r2,r3):=h
 clear h
 obtain⟨⟨alz,RN,aoE⟩,A20,H⟩:=Option.bind_eq_some_iff.mp H
 try dsimp only at H
 have A2:=ah.mk A20
 clear A20
 obtain⟨yt,A30,H⟩:=Option.bind_eq_some_iff.mp H
 have A3:=ah.mk A30
 clear A30
 have H':=ah.mk H
 clear H
 go_enter Tryz.func11,Tryz.ntmps11
 go_wp2_with (first|((with_reducible refine aH (N:=2) rfl ?_);refine qbx (N:=2) (cs:=#[.slice none 0 0,.slice none 0 0]) (t:=27) ?_;intro jo hg w4 bR hb;have gG:=ah.mk (bR);have asx:=ah.mk ((mK HB:w.heap.size≤jo));have kD:=ah.mk ((mK HB:w.heap.size≤jo));replace HB:=ah.mk (av (qz0 HB) hb);clear hb bR hg)|((with_reducible refine aK (f:=28) rfl ?_);refine dH (some 20) rfl rfl Tryz.func28 qz9 rfl #[.string a0,.string (⟨#[47]⟩:ByteArray)] rfl jh ?_;(with_reducible refine(strings_Cut.calls a0 (⟨#[47]⟩:ByteArray) alz RN aoE _ A2.out).mono ?_);rintro e w5 ⟨rfl,hb⟩;refine⟨_,rfl,?_⟩;replace gG:=ah.mk (aA (g:=jo) (o:=.cells #[.slice none 0 0,.slice none 0 0] 27 (0,0)) (dP gG) hb);replace HB:=ah.mk (av (qz4 HB kD) hb);(try clear hb);(try clear hb2);(try clear hk);(try clear hi))|((with_reducible refine aH (N:=7) rfl ?_);refine qbx (N:=7) (cs:=#[.slice none 0 0,.slice none 0 0]) (t:=27) ?_;intro iD hg w6 bR hb;have dR:=ah.mk (bR);have asy:=ah.mk ((wU HB kD:w.heap.size≤iD));have lq:=ah.mk ((wU HB kD:w.heap.size≤iD));replace HB:=ah.mk (av (qz4 HB kD) hb);have iZ:=ah.mk ((by rw[hg];exact Nat.ne_of_lt (gD (g:=jo) (o:=.cells #[.slice none 0 0,.slice none 0 0] 27 (0,0)) (dP gG)):jo≠iD));have lM:=ah.mk ((by rw[hg];exact Nat.ne_of_gt (gD (g:=jo) (o:=.cells #[.slice none 0 0,.slice none 0 0] 27 (0,0)) (dP gG)):iD≠jo));replace gG:=ah.mk (aA (g:=jo) (o:=.cells #[.slice none 0 0,.slice none 0 0] 27 (0,0)) (dP gG) hb);clear hb bR hg;have avJ:=lM.out;have avK:=iZ.out;have Df:w6.cell? ⟨iD,0,none⟩=some (.slice none 0 0):=(aj dR.out 0).trans rfl;have Dg:w6.cell? ⟨iD,1,none⟩=some (.slice none 0 0):=(aj dR.out 1).trans rfl;have Gv:=ak dR.out 0;have Gw:=ak dR.out 1)|((with_reducible refine aK (f:=29) rfl ?_);refine dH (some 26) rfl rfl Tryz.func29 qz9 rfl #[.string alz,.string (⟨#[44]⟩:ByteArray)] rfl jh ?_;(with_reducible refine(strings_Split.calls alz (⟨#[44]⟩:ByteArray) yt _ A3.out).mono ?_);rintro e w9 ⟨avL,rfl,ho0,hb⟩;refine⟨_,rfl,?_⟩;have afl:=ah.mk (Kd.dV ho0 (aG (qz8 HB kD lq)));replace gG:=ah.mk (aA (g:=jo) (o:=.cells #[.slice none 0 0,.slice none 0 0] 27 (0,0)) (Tj iZ gG) hb);replace dR:=ah.mk (aA (g:=iD) (o:=.cells #[.slice none 0 0,.slice none 0 0] 27 (0,0)) (ab9 dR) hb);replace HB:=ah.mk (av (qz8 HB kD lq) hb);(try clear hb);(try clear hb2);(try clear hk);(try clear hi);(try clear ho0);obtain⟨ET,EU,ajW⟩:=Kd.dW afl.out;subst ajW))
 go_loopg [6,28] k (fun kq v6 v28 w'=>∃ (gY:Bool) (pz:Int) (fD:List Int) (u352000:Value),v6= .bool gY∧v28= .int .i64 pz∧ah (bQ.l0 kq RN gY yt (yt.length:Int) pz fD=some (r1,r2,r3))∧ah (kq≤k)∧ah (Kd.R Kd.string 9 w' w.heap.size (fun _=>True) (.slice ET yt.length EU) yt)∧ah (Kd.R (Kd.int .i64) 2 w' w.heap.size (fun _=>True) u352000 fD)∧ah (w'.heap[jo]?=some (.cells #[(.slice none 0 0),(.slice none 0 0)] 27 (0,0)))∧ah (w'.heap[iD]?=some (.cells #[u352000,(.slice none 0 0)] 27 (0,0)))∧ah (Below w.heap.size w w'))
 case atStart=>exact⟨(aoE),(0),(([]:List Int)),(.slice none 0 0),iY,iY,H',⟨Nat.le_refl _⟩,⟨cK afl⟩,⟨Dh⟩,⟨dP gG⟩,⟨dP dR⟩,⟨qz8 HB kD lq⟩⟩
 case round=>
  clear H'
  try clear c1
  try clear c2
  try clear p2
  try clear c7
  try clear Df
  try clear Dg
  try clear Gv
  try clear Gw
  obtain⟨gY,pz,fD,u352000,rfl,rfl,HA,HK1,rT,dw,gG,dR,HB⟩:=hrel
  cases gk with
  |zero=>exact absurd HA.out (by simp[bQ.l0])
  |succ k1=>
   have H:=HA.out
   clear HA
   simp only[bQ.l0]at H
   by_cases c11:pz<(yt.length:Int)
   ·rw[if_pos c11]at H
    have Mc:decide (pz<(yt.length:Int))=true:=decide_eq_true c11
    clear c11
    by_cases c12:0≤pz
    ·rw[if_pos c12]at H
     have IQ:decide (0≤pz)=true:=decide_eq_true c12
     clear c12
     by_cases c13:pz<(yt.length:Int)
     ·rw[if_pos c13]at H
      have UU:decide (pz<(yt.length:Int))=true:=decide_eq_true c13
      clear c13
      obtain⟨⟨Xc,agI⟩,WS,H⟩:=Option.bind_eq_some_iff.mp H
      try dsimp only at H
      have A14:=ah.mk WS
      clear WS
      by_cases c15:gY=true
      ·subst c15
       rw[if_pos rfl]at H
       by_cases c16:fD.length<17592186044416
       ·rw[if_pos c16]at H
        have aaK:=ah.mk c16
        clear c16
        obtain⟨afm,RO⟩:∃ y_:List Int,y_=(fD++[Xc]):=⟨_,rfl⟩
        replace H:(bQ.l0 k1 RN agI yt (yt.length:Int) (wrap64 (pz+1)) afm)=some (r1,r2,r3):=by first|(rw[RO];with_reducible exact H)|(have H2_:=(Option.bind_some _ _).symm.trans H;rw[RO];with_reducible exact H2_)|(have H2_:=(Option.bind_some _ _).symm.trans H;with_reducible exact H2_)|with_reducible exact H|(rw[RO];exact H)|exact H
        have alA:=ah.mk RO
        clear RO
        have H':=ah.mk H
        clear H
        have Xd:0≤(pz:Int):=of_decide_eq_true gN
        have Xe:pz<(yt.length:Int):=of_decide_eq_true gN
        obtain⟨alB,alC,RP⟩:=Kd.jr (Kd.dF rT.out).2.2 pz Xd Xe
        cases alC
        replace Xd:=eq_true Xd
        replace Xe:=eq_true Xe
        go_wp2_with (first|((with_reducible refine aK (f:=30) rfl ?_);refine dH (some 34) rfl rfl Tryz.func30 qz9 rfl #[.string (lS ByteArray.empty yt pz)] rfl jh ?_;(with_reducible refine(cZ.calls (lS ByteArray.empty yt pz) Xc agI _ A14.out (pq.out.below (qz8 HB kD lq))).mono ?_);rintro e w17 ⟨rfl,hb⟩;refine⟨_,rfl,?_⟩;replace rT:=ah.mk (Kd.aM (cK rT) hb);replace dw:=ah.mk (Kd.aM (cK dw) hb);replace gG:=ah.mk (aA (g:=jo) (o:=.cells #[.slice none 0 0,.slice none 0 0] 27 (0,0)) (dP gG) hb);replace dR:=ah.mk (aA (g:=iD) (o:=.cells #[u352000,.slice none 0 0] 27 (0,0)) (dP dR) hb);replace HB:=ah.mk (av (qz8 HB kD lq) hb);(try clear hb);(try clear hb2);(try clear hk);(try clear hi);have akK:=lM.out;have akL:=iZ.out;have Ap:w17.cell? ⟨iD,0,none⟩=some (u352000):=(aj dR.out 0).trans rfl;have Aq:w17.cell? ⟨iD,1,none⟩=some (.slice none 0 0):=(aj dR.out 1).trans rfl;have Ar:=ak dR.out 0;have Au:=ak dR.out 1)|((with_reducible refine gI (b:=.append) (xs:=#[.tmp 42,.tmp 44]) rfl ?_);at_builtin;refine Kd.kY (Kd.int .i64) (w0:=w) w.heap.size rfl (.tmp 42) (.tmp 44) 24 2 (.int .i64 0) 8 rfl Tryz.underlying24 sS rfl (by decide) (by omega) u352000 fD Xc [.int .i64 Xc] (fun _=>True) (fun _=>False) rfl rfl ?aP (fun _ hk=>hk.elim) ?aF ?aO ?aB ?aS ?aL ?_;(case aP=>exact rfl);(case aB=>exact(qz8 HB kD lq));(case aF=>exact(fun _ _=>trivial));(case aO=>exact(cK dw));(case aS=>exact(aG (qz8 HB kD lq)));(case aL=>exact qz3 aaK);intro avM w20 ho hb hg hat;rw[← alA.out]at ho;replace rT:=ah.mk (Kd.sI (cK rT) (Kd.lC (cK dw)) (by decide) hg);replace gG:=ah.mk (dQ (g:=jo) (o:=.cells #[.slice none 0 0,.slice none 0 0] 27 (0,0)) (dP gG) hg (Kd.wT dw.out gG.out (by decide)));replace dR:=ah.mk (dQ (g:=iD) (o:=.cells #[u352000,.slice none 0 0] 27 (0,0)) (dP dR) hg (Kd.wT dw.out dR.out (by decide)));replace HB:=ah.mk (hb);have afn:=ah.mk (ho);clear dw;clear ho hb hg hat;obtain⟨agm,agn,ajq⟩:=Kd.dW afn.out;subst ajq;have Qd:w20.cell? ⟨iD,0,none⟩=some (u352000):=(aj dR.out 0).trans rfl;have Qe:w20.cell? ⟨iD,1,none⟩=some (.slice none 0 0):=(aj dR.out 1).trans rfl;have aaS:=ak dR.out 0;have aaT:=ak dR.out 1))
        go_roundg k1
        case measure=>have:=HK1.out;omega
        case rel=>exact⟨(agI),(wrap64 (pz+1)),(afm),(.slice agm afm.length agn),iY,iY,H',⟨qz3 HK1⟩,⟨by refine qpr ?_;exact Kd.bS (Kd.bX (p:=⟨iD,0,none⟩) (Kd.cO rT.out dR.out (by decide)) (fun _ hk=>hk.2) (.slice agm afm.length agn)) (fun _ hk=>trivial)⟩,⟨by refine qpr ?_;exact Kd.bS (Kd.bX (p:=⟨iD,0,none⟩) (Kd.cO afn.out dR.out (by decide)) (fun _ hk=>hk.2) (.slice agm afm.length agn)) (fun _ hk=>trivial)⟩,⟨ZM iZ gG⟩,⟨by refine qpb ?_;refine aW (cs:=#[u352000,.slice none 0 0]) ?_ 0 _ rfl;refine qpb ?_;exact dR.out⟩,⟨qz8 HB kD lq⟩⟩
       rw[if_neg c16]at H
       exact absurd H (by simp)
      replace c15:=Bool.eq_false_iff.mpr c15
      subst c15
      rw[if_neg (show ¬(false=true) by decide)]at H
      by_cases c23:fD.length<17592186044416
      ·rw[if_pos c23]at H
       have alD:=ah.mk c23
       clear c23
       obtain⟨afo,RQ⟩:∃ y_:List Int,y_=(fD++[Xc]):=⟨_,rfl⟩
       replace H:(bQ.l0 k1 RN false yt (yt.length:Int) (wrap64 (pz+1)) afo)=some (r1,r2,r3):=by first|(rw[RQ];with_reducible exact H)|(have H2_:=(Option.bind_some _ _).symm.trans H;rw[RQ];with_reducible exact H2_)|(have H2_:=(Option.bind_some _ _).symm.trans H;with_reducible exact H2_)|with_reducible exact H|(rw[RQ];exact H)|exact H
       have alE:=ah.mk RQ
       clear RQ
       have H':=ah.mk H
       clear H
       have Xd:0≤(pz:Int):=of_decide_eq_true gN
       have Xe:pz<(yt.length:Int):=of_decide_eq_true gN
       obtain⟨alB,alC,RP⟩:=Kd.jr (Kd.dF rT.out).2.2 pz Xd Xe
       cases alC
       replace Xd:=eq_true Xd
       replace Xe:=eq_true Xe
       go_wp2_with (first|((with_reducible refine aK (f:=30) rfl ?_);refine dH (some 34) rfl rfl Tryz.func30 qz9 rfl #[.string (lS ByteArray.empty yt pz)] rfl jh ?_;(with_reducible refine(cZ.calls (lS ByteArray.empty yt pz) Xc agI _ A14.out (pq.out.below (qz8 HB kD lq))).mono ?_);rintro e w24 ⟨rfl,hb⟩;refine⟨_,rfl,?_⟩;replace rT:=ah.mk (Kd.aM (cK rT) hb);replace dw:=ah.mk (Kd.aM (cK dw) hb);replace gG:=ah.mk (aA (g:=jo) (o:=.cells #[.slice none 0 0,.slice none 0 0] 27 (0,0)) (dP gG) hb);replace dR:=ah.mk (aA (g:=iD) (o:=.cells #[u352000,.slice none 0 0] 27 (0,0)) (dP dR) hb);replace HB:=ah.mk (av (qz8 HB kD lq) hb);(try clear hb);(try clear hb2);(try clear hk);(try clear hi);have Uj:=lM.out;have Uk:=iZ.out;have Eh:w24.cell? ⟨iD,0,none⟩=some (u352000):=(aj dR.out 0).trans rfl;have Ei:w24.cell? ⟨iD,1,none⟩=some (.slice none 0 0):=(aj dR.out 1).trans rfl;have Ej:=ak dR.out 0;have El:=ak dR.out 1)|((with_reducible refine gI (b:=.append) (xs:=#[.tmp 42,.tmp 44]) rfl ?_);at_builtin;refine Kd.kY (Kd.int .i64) (w0:=w) w.heap.size rfl (.tmp 42) (.tmp 44) 24 2 (.int .i64 0) 8 rfl Tryz.underlying24 sS rfl (by decide) (by omega) u352000 fD Xc [.int .i64 Xc] (fun _=>True) (fun _=>False) rfl rfl ?aP (fun _ hk=>hk.elim) ?aF ?aO ?aB ?aS ?aL ?_;(case aP=>exact rfl);(case aB=>exact(qz8 HB kD lq));(case aF=>exact(fun _ _=>trivial));(case aO=>exact(cK dw));(case aS=>exact(aG (qz8 HB kD lq)));(case aL=>exact qz3 alD);intro avN w27 ho hb hg hat;rw[← alE.out]at ho;replace rT:=ah.mk (Kd.sI (cK rT) (Kd.lC (cK dw)) (by decide) hg);replace gG:=ah.mk (dQ (g:=jo) (o:=.cells #[.slice none 0 0,.slice none 0 0] 27 (0,0)) (dP gG) hg (Kd.wT dw.out gG.out (by decide)));replace dR:=ah.mk (dQ (g:=iD) (o:=.cells #[u352000,.slice none 0 0] 27 (0,0)) (dP dR) hg (Kd.wT dw.out dR.out (by decide)));replace HB:=ah.mk (hb);have afp:=ah.mk (ho);clear dw;clear ho hb hg hat;obtain⟨agG,agH,als⟩:=Kd.dW afp.out;subst als;have Bh:w27.cell? ⟨iD,0,none⟩=some (u352000):=(aj dR.out 0).trans rfl;have Bj:w27.cell? ⟨iD,1,none⟩=some (.slice none 0 0):=(aj dR.out 1).trans rfl;have Bl:=ak dR.out 0;have Bo:=ak dR.out 1))
       go_roundg k1
       case measure=>have:=HK1.out;omega
       case rel=>exact⟨(false),(wrap64 (pz+1)),(afo),(.slice agG afo.length agH),iY,iY,H',⟨qz3 HK1⟩,⟨by refine qpr ?_;exact Kd.bS (Kd.bX (p:=⟨iD,0,none⟩) (Kd.cO rT.out dR.out (by decide)) (fun _ hk=>hk.2) (.slice agG afo.length agH)) (fun _ hk=>trivial)⟩,⟨by refine qpr ?_;exact Kd.bS (Kd.bX (p:=⟨iD,0,none⟩) (Kd.cO afp.out dR.out (by decide)) (fun _ hk=>hk.2) (.slice agG afo.length agH)) (fun _ hk=>trivial)⟩,⟨ZM iZ gG⟩,⟨by refine qpb ?_;refine aW (cs:=#[u352000,.slice none 0 0]) ?_ 0 _ rfl;refine qpb ?_;exact dR.out⟩,⟨qz8 HB kD lq⟩⟩
      rw[if_neg c23]at H
      exact absurd H (by simp)
     rw[if_neg c13]at H
     exact absurd H (by simp)
    rw[if_neg c12]at H
    exact absurd H (by simp)
   ·rw[if_neg c11]at H
    have Mc:decide (pz<(yt.length:Int))=false:=decide_eq_false c11
    clear c11
    by_cases c30:RN.toList=([]:List UInt8)
    ·rw[if_pos c30]at H
     have afq:(RN.toList==([]:List UInt8))=true:=beq_iff_eq.mpr c30
     have afr:(RN.toList !=([]:List UInt8))=false:=bne_eq_false_iff_eq.mpr c30
     clear c30
     by_cases c31:gY=true
     ·subst c31
      rw[if_pos rfl]at H
      obtain⟨alx,aoF,H⟩:=Option.bind_eq_some_iff.mp H
      have A32:=ah.mk aoF
      clear aoF
      by_cases c33:alx=true
      ·subst c33
       rw[if_pos rfl]at H
       simp only[Option.some.injEq,Prod.mk.injEq]at H
       obtain⟨rfl,rfl,rfl⟩:=H
       have ZN:=lM.out
       have ZO:=iZ.out
       have sV:wr.cell? ⟨iD,0,none⟩=some (u352000):=(aj dR.out 0).trans rfl
       have sW:wr.cell? ⟨iD,1,none⟩=some (.slice none 0 0):=(aj dR.out 1).trans rfl
       have xD:=ak dR.out 0
       have xE:=ak dR.out 1
       obtain⟨nR,nS,alF⟩:=Kd.dW dw.out
       subst alF
       go_wp2_with (first|(go_at_call 9;(refine(aX.calls k1 _ _ fD _ _ ([]:List (S40)) true _ ?bT ?bU ?eu ?eF A32.out).mono ?_);(case bT=>exact qO dw);(case bU=>exact qg dw);(case eu=>exact Kd.Xz _ _);(case eF=>first|exact trivial|(exact Nat.le_refl _));rintro e w37 ⟨rfl,hb⟩;replace rT:=ah.mk (Kd.aM (cK rT) hb);replace dw:=ah.mk (Kd.aM (cK dw) hb);replace gG:=ah.mk (aA (g:=jo) (o:=.cells #[.slice none 0 0,.slice none 0 0] 27 (0,0)) (dP gG) hb);replace dR:=ah.mk (aA (g:=iD) (o:=.cells #[.slice nR fD.length nS,.slice none 0 0] 27 (0,0)) (dP dR) hb);replace HB:=ah.mk (av (qz8 HB kD lq) hb);(try clear hb);(try clear hb2);(try clear hk);(try clear hi);have EC:w37.cell? ⟨iD,0,none⟩=some (.slice nR fD.length nS):=(aj dR.out 0).trans rfl;have ED:w37.cell? ⟨iD,1,none⟩=some (.slice none 0 0):=(aj dR.out 1).trans rfl;have EF:=ak dR.out 0;have EG:=ak dR.out 1;have Ju:w37.cell? ⟨jo,0,none⟩=some (.slice none 0 0):=(aj gG.out 0).trans rfl;have Jv:w37.cell? ⟨jo,1,none⟩=some (.slice none 0 0):=(aj gG.out 1).trans rfl;have aaU:=ak gG.out 0;have aaV:=ak gG.out 1))
       refine bodyPost_ret (mX rfl _ _ jo 27 #[.slice nR fD.length nS,.slice none 0 0] (0,0) _ rfl (by refine qpb ?_;refine aW (cs:=#[.slice nR fD.length nS,.slice none 0 0]) ?_ 1 _ rfl;refine qpb ?_;refine aW (cs:=#[.slice none 0 0,.slice none 0 0]) ?_ 0 _ rfl;refine qpb ?_;exact gG.out) Tryz.underlying27 rfl qz9) rfl ?_
       exact⟨_,_,qz7,by refine qpr ?_;exact Kd.bS (Kd.bX (p:=⟨jo,1,none⟩) (Kd.bX (p:=⟨jo,0,none⟩) (Kd.cO dw.out gG.out (by decide)) (fun _ hk=>hk.2) (.slice nR fD.length nS)) (fun _ hk=>hk.2) (.slice none 0 0)) (fun _ hk=>trivial),Dh,qz8 HB kD lq⟩
      replace c33:=Bool.eq_false_iff.mpr c33
      subst c33
      rw[if_neg (show ¬(false=true) by decide)]at H
      simp only[Option.some.injEq,Prod.mk.injEq]at H
      obtain⟨rfl,rfl,rfl⟩:=H
      have alG:=lM.out
      have alH:=iZ.out
      have Bp:wr.cell? ⟨iD,0,none⟩=some (u352000):=(aj dR.out 0).trans rfl
      have Bq:wr.cell? ⟨iD,1,none⟩=some (.slice none 0 0):=(aj dR.out 1).trans rfl
      have Br:=ak dR.out 0
      have Bu:=ak dR.out 1
      obtain⟨asz,asA,asB⟩:=Kd.dW dw.out
      subst asB
      go_wp2_with (first|(go_at_call 9;(refine(aX.calls k1 _ _ fD _ _ ([]:List (S40)) false _ ?bT ?bU ?eu ?eF A32.out).mono ?_);(case bT=>exact qO dw);(case bU=>exact qg dw);(case eu=>exact Kd.Xz _ _);(case eF=>first|exact trivial|(exact Nat.le_refl _));rintro e w43 ⟨rfl,hb⟩;replace rT:=ah.mk (Kd.aM (cK rT) hb);replace dw:=ah.mk (Kd.aM (cK dw) hb);replace gG:=ah.mk (aA (g:=jo) (o:=.cells #[.slice none 0 0,.slice none 0 0] 27 (0,0)) (dP gG) hb);replace dR:=ah.mk (aA (g:=iD) (o:=.cells #[.slice asz fD.length asA,.slice none 0 0] 27 (0,0)) (dP dR) hb);replace HB:=ah.mk (av (qz8 HB kD lq) hb);(try clear hb);(try clear hb2);(try clear hk);(try clear hi);have FD:w43.cell? ⟨jo,0,none⟩=some (.slice none 0 0):=(aj gG.out 0).trans rfl;have FE:w43.cell? ⟨jo,1,none⟩=some (.slice none 0 0):=(aj gG.out 1).trans rfl;have FH:=ak gG.out 0;have FI:=ak gG.out 1))
      refine bodyPost_ret (mX rfl _ _ jo 27 #[.slice none 0 0,.slice none 0 0] (0,0) _ rfl (ab9 gG) Tryz.underlying27 rfl qz9) rfl ?_
      exact⟨_,_,qz7,Dh,Dh,qz8 HB kD lq⟩
     replace c31:=Bool.eq_false_iff.mpr c31
     subst c31
     rw[if_neg (show ¬(false=true) by decide)]at H
     simp only[Option.some.injEq,Prod.mk.injEq]at H
     obtain⟨rfl,rfl,rfl⟩:=H
     have asC:=iZ.out
     have asD:=lM.out
     have aaW:wr.cell? ⟨jo,0,none⟩=some (.slice none 0 0):=(aj gG.out 0).trans rfl
     have aaX:wr.cell? ⟨jo,1,none⟩=some (.slice none 0 0):=(aj gG.out 1).trans rfl
     have aaY:=ak gG.out 0
     have aaZ:=ak gG.out 1
     go_wp2
     refine bodyPost_ret (mX rfl _ _ jo 27 #[.slice none 0 0,.slice none 0 0] (0,0) _ rfl (ab9 gG) Tryz.underlying27 rfl qz9) rfl ?_
     exact⟨_,_,qz7,Dh,Dh,qz8 HB kD lq⟩
    rw[if_neg c30]at H
    have afq:(RN.toList==([]:List UInt8))=false:=beq_eq_false_iff_ne.mpr c30
    have afr:(RN.toList !=([]:List UInt8))=true:=bne_iff_ne.mpr c30
    obtain⟨Bg,aoG,H⟩:=Option.bind_eq_some_iff.mp H
    have A47:=ah.mk aoG
    clear aoG
    have H':=ah.mk H
    clear H
    go_wp2_with (first|((with_reducible refine aK (f:=29) rfl ?_);refine dH (some 51) rfl rfl Tryz.func29 qz9 rfl #[.string RN,.string (⟨#[44]⟩:ByteArray)] rfl jh ?_;(with_reducible refine(strings_Split.calls RN (⟨#[44]⟩:ByteArray) Bg _ A47.out).mono ?_);rintro e w48 ⟨avO,rfl,ho0,hb⟩;refine⟨_,rfl,?_⟩;replace dw:=ah.mk (Kd.aM (cK dw) hb);have afs:=ah.mk (Kd.dV (Kd.iU ho0 (Kd.qo (cK rT))) (aG (qz8 HB kD lq)));replace rT:=ah.mk (Kd.fK (cK rT) (Kd.iJ ho0) hb);replace gG:=ah.mk (aA (g:=jo) (o:=.cells #[.slice none 0 0,.slice none 0 0] 27 (0,0)) (dP gG) hb);replace dR:=ah.mk (aA (g:=iD) (o:=.cells #[u352000,.slice none 0 0] 27 (0,0)) (dP dR) hb);replace HB:=ah.mk (av (qz8 HB kD lq) hb);(try clear hb);(try clear hb2);(try clear hk);(try clear hi);(try clear ho0);obtain⟨asE,asF,asG⟩:=Kd.dW afs.out;subst asG))
    go_loopg [6,53] k1 (fun kq v6 v53 w'=>∃ (wW:Bool) (pE:Int) (iT:List (S40)) (u352001:Value),v6= .bool wW∧v53= .int .i64 pE∧ah (bQ.l1 kq wW Bg (Bg.length:Int) pE fD iT=some (r1,r2,r3))∧ah (kq≤k1)∧ah (Kd.R Kd.string 9 w' w.heap.size (fun _=>True) (.slice asE Bg.length asF) Bg)∧ah (Kd.R (Kd.int .i64) 2 w' w.heap.size (fun _=>True) u352000 fD)∧ah (Kd.R k40 40 w' w.heap.size (fun _=>True) u352001 iT)∧ah (w'.heap[jo]?=some (.cells #[(.slice none 0 0),(.slice none 0 0)] 27 (0,0)))∧ah (w'.heap[iD]?=some (.cells #[u352000,u352001] 27 (0,0)))∧ah (Below w.heap.size w w'))
    case atStart=>exact⟨(gY),(0),(([]:List (S40))),(.slice none 0 0),iY,iY,H',⟨Nat.le_refl _⟩,⟨by refine qpr ?_;exact Kd.bS afs.out (fun _ hk=>trivial)⟩,⟨cK dw⟩,⟨Dh⟩,⟨dP gG⟩,⟨dP dR⟩,⟨qz8 HB kD lq⟩⟩
    case round=>
     clear H'
     try clear c1
     try clear c2
     try clear p2
     try clear c3
     try clear p3
     try clear q3
     try clear hx3
     try clear c4
     try clear p6
     try clear c7
     try clear c11
     try clear Mc
     try clear c12
     try clear IQ
     try clear c13
     try clear UU
     try clear c15
     try clear c16
     try clear c18
     try clear c23
     try clear c25
     try clear c28
     try clear c29
     try clear c30
     try clear afq
     try clear afr
     try clear c31
     try clear c33
     try clear c34
     try clear p35
     try clear q35
     try clear avP
     try clear c40
     try clear c45
     try clear Ap
     try clear Aq
     try clear Qd
     try clear Qe
     try clear Eh
     try clear Ei
     try clear Bh
     try clear Bj
     try clear sV
     try clear sW
     try clear EC
     try clear ED
     try clear Ju
     try clear Jv
     try clear Bp
     try clear Bq
     try clear FD
     try clear FE
     try clear aaW
     try clear aaX
     try clear Df
     try clear Dg
     try clear Ar
     try clear Au
     try clear aaS
     try clear aaT
     try clear Ej
     try clear El
     try clear Bl
     try clear Bo
     try clear xD
     try clear xE
     try clear EF
     try clear EG
     try clear aaU
     try clear aaV
     try clear Br
     try clear Bu
     try clear FH
     try clear FI
     try clear aaY
     try clear aaZ
     try clear Gv
     try clear Gw
     try clear RP
     try clear p2
     try clear Xd
     try clear Xe
     obtain⟨wW,pE,iT,u352001,rfl,rfl,HA,HK2,uS,dw,gu,gG,dR,HB⟩:=hrel
     cases gk with
     |zero=>exact absurd HA.out (by simp[bQ.l1])
     |succ k2=>
      have H:=HA.out
      clear HA
      simp only[bQ.l1]at H
      by_cases c50:pE<(Bg.length:Int)
      ·rw[if_pos c50]at H
       have alI:decide (pE<(Bg.length:Int))=true:=decide_eq_true c50
       clear c50
       by_cases c51:0≤pE
       ·rw[if_pos c51]at H
        have asH:decide (0≤pE)=true:=decide_eq_true c51
        clear c51
        by_cases c52:pE<(Bg.length:Int)
        ·rw[if_pos c52]at H
         have asI:decide (pE<(Bg.length:Int))=true:=decide_eq_true c52
         clear c52
         obtain⟨⟨Tp,Tq,Tt,agJ⟩,aoH,H⟩:=Option.bind_eq_some_iff.mp H
         try dsimp only at H
         have A53:=ah.mk aoH
         clear aoH
         by_cases c54:wW=true
         ·subst c54
          rw[if_pos rfl]at H
          by_cases c55:iT.length<5864062014805
          ·rw[if_pos c55]at H
           have alJ:=ah.mk c55
           clear c55
           obtain⟨ach,RS⟩:∃ y_:List (S40),y_=(iT++[(⟨Tp,Tq,Tt⟩:S40)]):=⟨_,rfl⟩
           replace H:(bQ.l1 k2 agJ Bg (Bg.length:Int) (wrap64 (pE+1)) fD ach)=some (r1,r2,r3):=by first|(rw[RS];with_reducible exact H)|(have H2_:=(Option.bind_some _ _).symm.trans H;rw[RS];with_reducible exact H2_)|(have H2_:=(Option.bind_some _ _).symm.trans H;with_reducible exact H2_)|with_reducible exact H|(rw[RS];exact H)|exact H
           have alK:=ah.mk RS
           clear RS
           have H':=ah.mk H
           clear H
           have aa0:0≤(pE:Int):=of_decide_eq_true gN
           have aa1:pE<(Bg.length:Int):=of_decide_eq_true gN
           obtain⟨alL,alM,aa2⟩:=Kd.jr (Kd.dF uS.out).2.2 pE aa0 aa1
           cases alM
           replace aa0:=eq_true aa0
           replace aa1:=eq_true aa1
           go_wp2_with (first|((with_reducible refine aK (f:=31) rfl ?_);refine dH (some 59) rfl rfl Tryz.func31 qz9 rfl #[.string (lS ByteArray.empty Bg pE)] rfl jh ?_;(with_reducible refine(iy.calls (lS ByteArray.empty Bg pE) Tp Tq Tt agJ _ A53.out (pq.out.below (qz8 HB kD lq))).mono ?_);rintro e w56 ⟨rfl,hb⟩;refine⟨_,rfl,?_⟩;replace uS:=ah.mk (Kd.aM (cK uS) hb);replace dw:=ah.mk (Kd.aM (cK dw) hb);replace gu:=ah.mk (Kd.aM (cK gu) hb);replace gG:=ah.mk (aA (g:=jo) (o:=.cells #[.slice none 0 0,.slice none 0 0] 27 (0,0)) (dP gG) hb);replace dR:=ah.mk (aA (g:=iD) (o:=.cells #[u352000,u352001] 27 (0,0)) (dP dR) hb);replace HB:=ah.mk (av (qz8 HB kD lq) hb);(try clear hb);(try clear hb2);(try clear hk);(try clear hi);have alN:=lM.out;have alO:=iZ.out;have Ku:w56.cell? ⟨iD,0,none⟩=some (u352000):=(aj dR.out 0).trans rfl;have Kv:w56.cell? ⟨iD,1,none⟩=some (u352001):=(aj dR.out 1).trans rfl;have Kw:=ak dR.out 0;have Ky:=ak dR.out 1)|((with_reducible refine gI (b:=.append) (xs:=#[.tmp 69,.tmp 74]) rfl ?_);at_builtin;refine Kd.kY k40 (w0:=w) w.heap.size rfl (.tmp 69) (.tmp 74) 25 40 (.agg #[(.int .i64 0),(.int .i64 0),(.int .i64 0)]) 24 rfl Tryz.underlying25 CZ rfl (by decide) (by omega) u352001 iT (⟨Tp,Tq,Tt⟩:S40) [.int .i64 Tp,.int .i64 Tq,.int .i64 Tt] (fun _=>True) (fun _=>False) rfl rfl ?aP (fun _ hk=>hk.elim) ?aF ?aO ?aB ?aS ?aL ?_;(case aP=>exact zK _ _ _ (⟨Tp,Tq,Tt⟩:S40));(case aB=>exact(qz8 HB kD lq));(case aF=>exact(fun _ _=>trivial));(case aO=>exact(cK gu));(case aS=>exact(aG (qz8 HB kD lq)));(case aL=>exact qz3 alJ);intro avQ w59 ho hb hg hat;rw[← alK.out]at ho;replace uS:=ah.mk (Kd.sI (cK uS) (Kd.lC (cK gu)) (by decide) hg);replace dw:=ah.mk (Kd.sI (cK dw) (Kd.lC (cK gu)) (by decide) hg);replace gG:=ah.mk (dQ (g:=jo) (o:=.cells #[.slice none 0 0,.slice none 0 0] 27 (0,0)) (dP gG) hg (Kd.wT gu.out gG.out (by decide)));replace dR:=ah.mk (dQ (g:=iD) (o:=.cells #[u352000,u352001] 27 (0,0)) (dP dR) hg (Kd.wT gu.out dR.out (by decide)));replace HB:=ah.mk (hb);have aft:=ah.mk (ho);clear gu;clear ho hb hg hat;obtain⟨agK,agL,asJ⟩:=Kd.dW aft.out;subst asJ;have alP:w59.cell? ⟨iD,0,none⟩=some (u352000):=(aj dR.out 0).trans rfl;have alQ:w59.cell? ⟨iD,1,none⟩=some (u352001):=(aj dR.out 1).trans rfl;have alR:=ak dR.out 0;have alS:=ak dR.out 1))
           go_roundg k2
           case measure=>have:=HK1.out;have:=HK2.out;omega
           case rel=>exact⟨(agJ),(wrap64 (pE+1)),(ach),(.slice agK ach.length agL),iY,iY,H',⟨Ug HK1 HK2⟩,⟨by refine qpr ?_;exact Kd.bS (Kd.bX (p:=⟨iD,1,none⟩) (Kd.cO uS.out dR.out (by decide)) (fun _ hk=>hk.2) (.slice agK ach.length agL)) (fun _ hk=>trivial)⟩,⟨by refine qpr ?_;exact Kd.bS (Kd.bX (p:=⟨iD,1,none⟩) (Kd.cO dw.out dR.out (by decide)) (fun _ hk=>hk.2) (.slice agK ach.length agL)) (fun _ hk=>trivial)⟩,⟨by refine qpr ?_;exact Kd.bS (Kd.bX (p:=⟨iD,1,none⟩) (Kd.cO aft.out dR.out (by decide)) (fun _ hk=>hk.2) (.slice agK ach.length agL)) (fun _ hk=>trivial)⟩,⟨ZM iZ gG⟩,⟨by refine qpb ?_;refine aW (cs:=#[u352000,u352001]) ?_ 1 _ rfl;refine qpb ?_;exact dR.out⟩,⟨qz8 HB kD lq⟩⟩
          rw[if_neg c55]at H
          exact absurd H (by simp)
         replace c54:=Bool.eq_false_iff.mpr c54
         subst c54
         rw[if_neg (show ¬(false=true) by decide)]at H
         by_cases c62:iT.length<5864062014805
         ·rw[if_pos c62]at H
          have alT:=ah.mk c62
          clear c62
          obtain⟨aci,RU⟩:∃ y_:List (S40),y_=(iT++[(⟨Tp,Tq,Tt⟩:S40)]):=⟨_,rfl⟩
          replace H:(bQ.l1 k2 false Bg (Bg.length:Int) (wrap64 (pE+1)) fD aci)=some (r1,r2,r3):=by first|(rw[RU];with_reducible exact H)|(have H2_:=(Option.bind_some _ _).symm.trans H;rw[RU];with_reducible exact H2_)|(have H2_:=(Option.bind_some _ _).symm.trans H;with_reducible exact H2_)|with_reducible exact H|(rw[RU];exact H)|exact H
          have alU:=ah.mk RU
          clear RU
          have H':=ah.mk H
          clear H
          have aa0:0≤(pE:Int):=of_decide_eq_true gN
          have aa1:pE<(Bg.length:Int):=of_decide_eq_true gN
          obtain⟨alL,alM,aa2⟩:=Kd.jr (Kd.dF uS.out).2.2 pE aa0 aa1
          cases alM
          replace aa0:=eq_true aa0
          replace aa1:=eq_true aa1
          go_wp2_with (first|((with_reducible refine aK (f:=31) rfl ?_);refine dH (some 59) rfl rfl Tryz.func31 qz9 rfl #[.string (lS ByteArray.empty Bg pE)] rfl jh ?_;(with_reducible refine(iy.calls (lS ByteArray.empty Bg pE) Tp Tq Tt agJ _ A53.out (pq.out.below (qz8 HB kD lq))).mono ?_);rintro e w63 ⟨rfl,hb⟩;refine⟨_,rfl,?_⟩;replace uS:=ah.mk (Kd.aM (cK uS) hb);replace dw:=ah.mk (Kd.aM (cK dw) hb);replace gu:=ah.mk (Kd.aM (cK gu) hb);replace gG:=ah.mk (aA (g:=jo) (o:=.cells #[.slice none 0 0,.slice none 0 0] 27 (0,0)) (dP gG) hb);replace dR:=ah.mk (aA (g:=iD) (o:=.cells #[u352000,u352001] 27 (0,0)) (dP dR) hb);replace HB:=ah.mk (av (qz8 HB kD lq) hb);(try clear hb);(try clear hb2);(try clear hk);(try clear hi);have asK:=lM.out;have asL:=iZ.out;have alV:w63.cell? ⟨iD,0,none⟩=some (u352000):=(aj dR.out 0).trans rfl;have alW:w63.cell? ⟨iD,1,none⟩=some (u352001):=(aj dR.out 1).trans rfl;have alX:=ak dR.out 0;have alY:=ak dR.out 1)|((with_reducible refine gI (b:=.append) (xs:=#[.tmp 69,.tmp 74]) rfl ?_);at_builtin;refine Kd.kY k40 (w0:=w) w.heap.size rfl (.tmp 69) (.tmp 74) 25 40 (.agg #[(.int .i64 0),(.int .i64 0),(.int .i64 0)]) 24 rfl Tryz.underlying25 CZ rfl (by decide) (by omega) u352001 iT (⟨Tp,Tq,Tt⟩:S40) [.int .i64 Tp,.int .i64 Tq,.int .i64 Tt] (fun _=>True) (fun _=>False) rfl rfl ?aP (fun _ hk=>hk.elim) ?aF ?aO ?aB ?aS ?aL ?_;(case aP=>exact zK _ _ _ (⟨Tp,Tq,Tt⟩:S40));(case aB=>exact(qz8 HB kD lq));(case aF=>exact(fun _ _=>trivial));(case aO=>exact(cK gu));(case aS=>exact(aG (qz8 HB kD lq)));(case aL=>exact qz3 alT);intro avR w66 ho hb hg hat;rw[← alU.out]at ho;replace uS:=ah.mk (Kd.sI (cK uS) (Kd.lC (cK gu)) (by decide) hg);replace dw:=ah.mk (Kd.sI (cK dw) (Kd.lC (cK gu)) (by decide) hg);replace gG:=ah.mk (dQ (g:=jo) (o:=.cells #[.slice none 0 0,.slice none 0 0] 27 (0,0)) (dP gG) hg (Kd.wT gu.out gG.out (by decide)));replace dR:=ah.mk (dQ (g:=iD) (o:=.cells #[u352000,u352001] 27 (0,0)) (dP dR) hg (Kd.wT gu.out dR.out (by decide)));replace HB:=ah.mk (hb);have afu:=ah.mk (ho);clear gu;clear ho hb hg hat;obtain⟨agM,agN,asM⟩:=Kd.dW afu.out;subst asM;have alZ:w66.cell? ⟨iD,0,none⟩=some (u352000):=(aj dR.out 0).trans rfl;have al0:w66.cell? ⟨iD,1,none⟩=some (u352001):=(aj dR.out 1).trans rfl;have al1:=ak dR.out 0;have al2:=ak dR.out 1))
          go_roundg k2
          case measure=>have:=HK1.out;have:=HK2.out;omega
          case rel=>exact⟨(false),(wrap64 (pE+1)),(aci),(.slice agM aci.length agN),iY,iY,H',⟨Ug HK1 HK2⟩,⟨by refine qpr ?_;exact Kd.bS (Kd.bX (p:=⟨iD,1,none⟩) (Kd.cO uS.out dR.out (by decide)) (fun _ hk=>hk.2) (.slice agM aci.length agN)) (fun _ hk=>trivial)⟩,⟨by refine qpr ?_;exact Kd.bS (Kd.bX (p:=⟨iD,1,none⟩) (Kd.cO dw.out dR.out (by decide)) (fun _ hk=>hk.2) (.slice agM aci.length agN)) (fun _ hk=>trivial)⟩,⟨by refine qpr ?_;exact Kd.bS (Kd.bX (p:=⟨iD,1,none⟩) (Kd.cO afu.out dR.out (by decide)) (fun _ hk=>hk.2) (.slice agM aci.length agN)) (fun _ hk=>trivial)⟩,⟨ZM iZ gG⟩,⟨by refine qpb ?_;refine aW (cs:=#[u352000,u352001]) ?_ 1 _ rfl;refine qpb ?_;exact dR.out⟩,⟨qz8 HB kD lq⟩⟩
         rw[if_neg c62]at H
         exact absurd H (by simp)
        rw[if_neg c52]at H
        exact absurd H (by simp)
       rw[if_neg c51]at H
       exact absurd H (by simp)
      ·rw[if_neg c50]at H
       have alI:decide (pE<(Bg.length:Int))=false:=decide_eq_false c50
       clear c50
       by_cases c69:wW=true
       ·subst c69
        rw[if_pos rfl]at H
        obtain⟨aly,aoI,H⟩:=Option.bind_eq_some_iff.mp H
        have A70:=ah.mk aoI
        clear aoI
        by_cases c71:aly=true
        ·subst c71
         rw[if_pos rfl]at H
         simp only[Option.some.injEq,Prod.mk.injEq]at H
         obtain⟨rfl,rfl,rfl⟩:=H
         have asN:=lM.out
         have asO:=iZ.out
         have Kz:wr.cell? ⟨iD,0,none⟩=some (u352000):=(aj dR.out 0).trans rfl
         have KA:wr.cell? ⟨iD,1,none⟩=some (u352001):=(aj dR.out 1).trans rfl
         have KC:=ak dR.out 0
         have KD:=ak dR.out 1
         obtain⟨acj,acn,asP⟩:=Kd.dW dw.out
         subst asP
         obtain⟨afv,afw,asQ⟩:=Kd.dW gu.out
         subst asQ
         go_wp2_with (first|(go_at_call 9;(with_reducible refine(aX.calls k2 _ _ fD _ _ iT true _ ?bT ?bU ?eu ?eF A70.out).mono ?_);(case bT=>exact qO dw);(case bU=>exact qg dw);(case eu=>exact qO gu);(case eF=>exact qg gu);rintro e w76 ⟨rfl,hb⟩;replace uS:=ah.mk (Kd.aM (cK uS) hb);replace dw:=ah.mk (Kd.aM (cK dw) hb);replace gu:=ah.mk (Kd.aM (cK gu) hb);replace gG:=ah.mk (aA (g:=jo) (o:=.cells #[.slice none 0 0,.slice none 0 0] 27 (0,0)) (dP gG) hb);replace dR:=ah.mk (aA (g:=iD) (o:=.cells #[.slice acj fD.length acn,.slice afv iT.length afw] 27 (0,0)) (dP dR) hb);replace HB:=ah.mk (av (qz8 HB kD lq) hb);(try clear hb);(try clear hb2);(try clear hk);(try clear hi);have al3:w76.cell? ⟨iD,0,none⟩=some (.slice acj fD.length acn):=(aj dR.out 0).trans rfl;have al4:w76.cell? ⟨iD,1,none⟩=some (.slice afv iT.length afw):=(aj dR.out 1).trans rfl;have al5:=ak dR.out 0;have al6:=ak dR.out 1;have al7:w76.cell? ⟨jo,0,none⟩=some (.slice none 0 0):=(aj gG.out 0).trans rfl;have al8:w76.cell? ⟨jo,1,none⟩=some (.slice none 0 0):=(aj gG.out 1).trans rfl;have al9:=ak gG.out 0;have ama:=ak gG.out 1))
         refine bodyPost_ret (mX rfl _ _ jo 27 #[.slice acj fD.length acn,.slice afv iT.length afw] (0,0) _ rfl (by refine qpb ?_;refine aW (cs:=#[.slice acj fD.length acn,.slice none 0 0]) ?_ 1 _ rfl;refine qpb ?_;refine aW (cs:=#[.slice none 0 0,.slice none 0 0]) ?_ 0 _ rfl;refine qpb ?_;exact gG.out) Tryz.underlying27 rfl qz9) rfl ?_
         exact⟨_,_,qz7,by refine qpr ?_;exact Kd.bS (Kd.bX (p:=⟨jo,1,none⟩) (Kd.bX (p:=⟨jo,0,none⟩) (Kd.cO dw.out gG.out (by decide)) (fun _ hk=>hk.2) (.slice acj fD.length acn)) (fun _ hk=>hk.2) (.slice afv iT.length afw)) (fun _ hk=>trivial),by refine qpr ?_;exact Kd.bS (Kd.bX (p:=⟨jo,1,none⟩) (Kd.bX (p:=⟨jo,0,none⟩) (Kd.cO gu.out gG.out (by decide)) (fun _ hk=>hk.2) (.slice acj fD.length acn)) (fun _ hk=>hk.2) (.slice afv iT.length afw)) (fun _ hk=>trivial),qz8 HB kD lq⟩
        replace c71:=Bool.eq_false_iff.mpr c71
        subst c71
        rw[if_neg (show ¬(false=true) by decide)]at H
        simp only[Option.some.injEq,Prod.mk.injEq]at H
        obtain⟨rfl,rfl,rfl⟩:=H
        have asR:=lM.out
        have asS:=iZ.out
        have amb:wr.cell? ⟨iD,0,none⟩=some (u352000):=(aj dR.out 0).trans rfl
        have amc:wr.cell? ⟨iD,1,none⟩=some (u352001):=(aj dR.out 1).trans rfl
        have amd:=ak dR.out 0
        have ame:=ak dR.out 1
        obtain⟨asT,asU,asV⟩:=Kd.dW dw.out
        subst asV
        obtain⟨asW,asX,asY⟩:=Kd.dW gu.out
        subst asY
        go_wp2_with (first|(go_at_call 9;(with_reducible refine(aX.calls k2 _ _ fD _ _ iT false _ ?bT ?bU ?eu ?eF A70.out).mono ?_);(case bT=>exact qO dw);(case bU=>exact qg dw);(case eu=>exact qO gu);(case eF=>exact qg gu);rintro e w83 ⟨rfl,hb⟩;replace uS:=ah.mk (Kd.aM (cK uS) hb);replace dw:=ah.mk (Kd.aM (cK dw) hb);replace gu:=ah.mk (Kd.aM (cK gu) hb);replace gG:=ah.mk (aA (g:=jo) (o:=.cells #[.slice none 0 0,.slice none 0 0] 27 (0,0)) (dP gG) hb);replace dR:=ah.mk (aA (g:=iD) (o:=.cells #[.slice asT fD.length asU,.slice asW iT.length asX] 27 (0,0)) (dP dR) hb);replace HB:=ah.mk (av (qz8 HB kD lq) hb);(try clear hb);(try clear hb2);(try clear hk);(try clear hi);have amf:w83.cell? ⟨jo,0,none⟩=some (.slice none 0 0):=(aj gG.out 0).trans rfl;have amg:w83.cell? ⟨jo,1,none⟩=some (.slice none 0 0):=(aj gG.out 1).trans rfl;have amh:=ak gG.out 0;have ami:=ak gG.out 1))
        refine bodyPost_ret (mX rfl _ _ jo 27 #[.slice none 0 0,.slice none 0 0] (0,0) _ rfl (ab9 gG) Tryz.underlying27 rfl qz9) rfl ?_
        exact⟨_,_,qz7,Dh,Dh,qz8 HB kD lq⟩
       replace c69:=Bool.eq_false_iff.mpr c69
       subst c69
       rw[if_neg (show ¬(false=true) by decide)]at H
       simp only[Option.some.injEq,Prod.mk.injEq]at H
       obtain⟨rfl,rfl,rfl⟩:=H
       have asZ:=iZ.out
       have as0:=lM.out
       have amj:wr.cell? ⟨jo,0,none⟩=some (.slice none 0 0):=(aj gG.out 0).trans rfl
       have amk:wr.cell? ⟨jo,1,none⟩=some (.slice none 0 0):=(aj gG.out 1).trans rfl
       have aml:=ak gG.out 0
       have amm:=ak gG.out 1
       go_wp2
       refine bodyPost_ret (mX rfl _ _ jo 27 #[.slice none 0 0,.slice none 0 0] (0,0) _ rfl (ab9 gG) Tryz.underlying27 rfl qz9) rfl ?_
       exact⟨_,_,qz7,Dh,Dh,qz8 HB kD lq⟩
end Go.Proofs.YtalkmhnlgfncmaaGreatDoor.X
end
section
/- What the program reads of a flow's text; both read the same. Conditions: as each lemma says. -/
namespace Go.Proofs.YtalkmhnlgfncmaaGreatDoor.X
open Go.RowKit Go.Proofs.YtalkmhnlgfncmaaGreatDoorW.aC Go.Proofs.YtalkmhnlgfncmaaGreatDoorW.aN Go.Proofs.YtalkmhnlgfncmaaGreatDoorW.aT
abbrev Out:=List Int×List S40×Bool
def bad:Out:=([],[],false)
theorem afx (l:List ByteArray) (i:Nat) (h:i<l.length):lS ByteArray.empty l (i:Int)=l[i]:=by
 unfold lS
 rw[Int.toNat_natCast,List.getD_eq_getElem?_getD,List.getElem?_eq_getElem h];rfl
/-- A wire as the program reads it. -/
noncomputable def tw (x:ByteArray):S40:=⟨(rdT x).1,(rdT x).2.1,(rdT x).2.2.1⟩
noncomputable def tok (x:ByteArray):Bool:=(rdT x).2.2.2
noncomputable def dn (x:ByteArray):Int:=(rdW x).1
noncomputable def dok (x:ByteArray):Bool:=(rdW x).2
noncomputable def Xf (l:List Int) (ws:List S40) (ok:Bool):Out:=if ok=true∧iV l ws=true then(l,ws,true)else bad
theorem RV (l:List Int) (ws:List S40) (ok:Bool) (k:Nat) (hk:2000<k):
  (if ok=true then((aX.f k l ws).bind fun amn=>(if amn=true then(some (l,ws,true))else(some (([]:List Int),([]:List (S40)),false))))else(some (([]:List Int),([]:List (S40)),false)))=some (Xf l ws ok):=by
 unfold Xf
 cases ok with
 |false=>simp[bad]
 |true=>
  rw[if_pos rfl,mZ k l ws hk,Option.bind_some]
  cases iV l ws<;>simp[bad]
theorem Bv (l:List Int) (xs:List ByteArray) (hx:xs.length≤2000000) (hy:∀ y,y∈xs→y.size≤2000000):
  ∀ (d i k:Nat) (ok:Bool) (ws:List S40),i+d=xs.length→ws.length=i→d+3000≤k→
  bQ.l1 k ok xs (xs.length:Int) (i:Int) l ws=some (Xf l (ws++(xs.drop i).map tw) (ok&&(xs.drop i).all tok))
 |0,i,k,ok,ws,hi,hw,hk=>by
  obtain⟨k,rfl⟩:∃ p,k=p+1:=⟨k - 1,by omega⟩
  rw[bQ.l1,if_neg (by omega),RV l ws ok k (by omega),List.drop_of_length_le (by omega)]
  simp
 |d+1,i,k,ok,ws,hi,hw,hk=>by
  obtain⟨k,rfl⟩:∃ p,k=p+1:=⟨k - 1,by omega⟩
  have hlt:i<xs.length:=by omega
  have hsz:=hy _ (List.getElem_mem hlt)
  have ih:∀ b,bQ.l1 k b xs (xs.length:Int) ((i:Int)+1) l (ws++[tw xs[i]])=some (Xf l (ws++[tw xs[i]]++(xs.drop (i+1)).map tw) (b&&(xs.drop (i+1)).all tok)):=fun b=>by
   have:=Bv l xs hx hy d (i+1) k b (ws++[tw xs[i]]) (by omega) (by rw[List.length_append,List.length_singleton];omega) (by omega)
   rw[Int.natCast_add,Int.natCast_one]at this
   exact this
  have e:xs.drop i=xs[i]::xs.drop (i+1):=List.drop_eq_getElem_cons hlt
  rw[bQ.l1,if_pos (by omega),if_pos (by omega),if_pos (by omega),afx xs i hlt,afk _ hsz,Option.bind_some,w64 (by omega) (by omega),e,List.map_cons,List.all_cons]
  cases ok with
  |true=>
   rw[if_pos rfl,if_pos (by omega)]
   refine(ih _).trans ?_
   rw[Bool.true_and,List.append_assoc];rfl
  |false=>
   rw[if_neg (by decide),if_pos (by omega)]
   refine(ih _).trans ?_
   rw[Bool.false_and,Bool.false_and,List.append_assoc];rfl
noncomputable def aco (p:ByteArray):List S40:=open Classical in if p.data.toList=[]then []else(sps 44 p).map tw
noncomputable def okI (p:ByteArray):Bool:=open Classical in if p.data.toList=[]then true else(sps 44 p).all tok
theorem yu (p:ByteArray) (hp:p.size≤1500000) (xs:List ByteArray) (hx:xs.length≤2000000) (hy:∀ y,y∈xs→y.size≤2000000):
  ∀ (d i k:Nat) (ok:Bool) (l:List Int),i+d=xs.length→l.length=i→d+3000000≤k→
  bQ.l0 k p ok xs (xs.length:Int) (i:Int) l=some (Xf (l++(xs.drop i).map dn) (aco p) ((ok&&(xs.drop i).all dok)&&okI p))
 |0,i,k,ok,l,hi,hw,hk=>by
  obtain⟨k,rfl⟩:∃ p,k=p+1:=⟨k - 1,by omega⟩
  rw[bQ.l0,if_neg (by omega),List.drop_of_length_le (by omega),List.map_nil,List.append_nil,List.all_nil,Bool.and_true,ByteArray.toList_eq]
  unfold aco okI
  by_cases h:p.data.toList=[]
  ·rw[if_pos h,if_pos h,if_pos h,RV l [] ok k (by omega),Bool.and_true]
  ·rw[if_neg h,if_neg h,if_neg h,Fw p 44 (by omega),Option.bind_some]
   have hc:=Hy 44 p
   have:=Bv l (sps 44 p) (by omega) (fun y hm=>by have:=Rt 44 p y hm;omega) (sps 44 p).length 0 k ok [] (by omega) rfl (by omega)
   rw[List.drop_zero,List.nil_append]at this
   exact this
 |d+1,i,k,ok,l,hi,hw,hk=>by
  obtain⟨k,rfl⟩:∃ p,k=p+1:=⟨k - 1,by omega⟩
  have hlt:i<xs.length:=by omega
  have hsz:=hy _ (List.getElem_mem hlt)
  have ih:∀ b,bQ.l0 k p b xs (xs.length:Int) ((i:Int)+1) (l++[dn xs[i]])=some (Xf (l++[dn xs[i]]++(xs.drop (i+1)).map dn) (aco p) ((b&&(xs.drop (i+1)).all dok)&&okI p)):=fun b=>by
   have:=yu p hp xs hx hy d (i+1) k b (l++[dn xs[i]]) (by omega) (by rw[List.length_append,List.length_singleton];omega) (by omega)
   rw[Int.natCast_add,Int.natCast_one]at this
   exact this
  have e:xs.drop i=xs[i]::xs.drop (i+1):=List.drop_eq_getElem_cons hlt
  rw[bQ.l0,if_pos (by omega),if_pos (by omega),if_pos (by omega),afx xs i hlt,LA _ hsz,Option.bind_some,w64 (by omega) (by omega),e,List.map_cons,List.all_cons]
  cases ok with
  |true=>
   rw[if_pos rfl,if_pos (by omega)]
   refine(ih _).trans ?_
   rw[Bool.true_and,List.append_assoc];rfl
  |false=>
   rw[if_neg (by decide),if_pos (by omega)]
   refine(ih _).trans ?_
   rw[Bool.false_and,Bool.false_and,Bool.false_and,List.append_assoc];rfl
/-- What the program tells. -/
noncomputable def KE (s:ByteArray):Out:=Xf ((sps 44 (cutAt s 47).1).map dn) (aco (cutAt s 47).2.1) (((cutAt s 47).2.2&&(sps 44 (cutAt s 47).1).all dok)&&okI (cutAt s 47).2.1)
theorem Vk (s:ByteArray) (c:UInt8):(cutAt s c).1.size≤s.size∧(cutAt s c).2.1.size≤s.size:=by
 unfold cutAt
 split
 ·exact⟨Nat.le_refl _,Nat.zero_le _⟩
 constructor
 ·show (s.extract _ _).size≤ _
  rw[ByteArray.size_extract];omega
 show (s.extract _ _).size≤ _
 rw[ByteArray.size_extract];omega
theorem RX (s:ByteArray) (hs:s.size≤1048576) (k:Nat) (hk:5000000≤k):bQ.f k s=some (KE s):=by
 unfold bQ.f
 obtain⟨z0,z1⟩:=Vk s 47
 rw[afe s 47 (by omega),Option.bind_some,Fw _ 44 (by omega),Option.bind_some]
 have hc:=Hy 44 (cutAt s 47).1
 have:=yu (cutAt s 47).2.1 (by omega) (sps 44 (cutAt s 47).1) (by omega) (fun y hm=>by have:=Rt 44 _ y hm;omega) (sps 44 (cutAt s 47).1).length 0 k (cutAt s 47).2.2 [] (by omega) rfl (by omega)
 rw[List.drop_zero,List.nil_append]at this
 exact this
theorem yZ (c b:UInt8):∀ (xs:List (List UInt8)),b∈Lib.join xs [c]→b=c∨∃ x,x∈xs∧b∈x
 |[],h=>by rw[Lib.join_nil]at h;cases h
 |[x],h=>by rw[Lib.join_one]at h;exact .inr ⟨x,List.mem_singleton_self _,h⟩
 |x::y::r,h=>by
  rw[wL]at h
  rcases List.mem_append.mp h with h|h
  ·exact .inr ⟨x,List.mem_cons_self,h⟩
  ·rcases List.mem_cons.mp h with h|h
   ·exact .inl h
   rcases yZ c b (y::r) h with h|⟨z,hz,hb⟩
   ·exact .inl h
   exact .inr ⟨z,List.mem_cons_of_mem _ hz,hb⟩
theorem Xg (xs:List ByteArray) (h:xs≠[]) (hc:∀ x,x∈xs→(44:UInt8)∉x.data.toList):sps 44 (Tx (Jn xs))=xs:=by
 unfold sps Jn
 rw[xL]
 cases xs with
 |nil=>exact absurd rfl h
 |cons x r=>
  rw[List.map_cons,Ko 44 _ _ (by
   intro y hy
   rw[← List.map_cons (f:=fun q:ByteArray=>q.data.toList)]at hy
   obtain⟨z,hz,rfl⟩:=List.mem_map.mp hy
   exact hc z hz), ← List.map_cons (f:=fun q:ByteArray=>q.data.toList),List.map_map]
  rw[show (Tx ∘ (fun q:ByteArray=>q.data.toList))=id from funext xO,List.map_id]
theorem Vl (w:S40) (h:acg w) (b:UInt8) (hb:b∈(wtx w).data.toList):b=46∨(48≤b.toNat∧b.toNat≤57):=by
 rw[FC]at hb
 rcases yZ 46 b _ hb with h1|⟨x,hx,h1⟩
 ·exact .inl h1
 right
 rcases List.mem_cons.mp hx with rfl|hx
 ·exact wM _ h.1 b h1
 rcases List.mem_cons.mp hx with rfl|hx
 ·exact wM _ h.2.1 b h1
 rw[List.mem_singleton]at hx
 rw[hx]at h1;exact wM _ h.2.2 b h1
theorem RY (w:S40) (h:acg w) (c:UInt8) (hc:c.toNat<46∨c.toNat=47):c∉(wtx w).data.toList:=fun hb=>by
 rcases Vl w h c hb with e|e
 ·rw[e]at hc
  rcases hc with hc|hc
  ·exact absurd hc (by decide)
  exact absurd hc (by decide)
 omega
theorem afy (w:S40):(wtx w).data.toList≠[]:=by
 rw[FC,wL];simp
/-- A valid flow's text in its parts. -/
structure Parts (l:List Int) (ws:List S40):Prop where
 sized:(uY l ws).size≤400
 list:(uY l ws).data.toList=Jn (l.map dtx)++47::Jn (ws.map wtx)
 dno:(47:UInt8)∉Jn (l.map dtx)
 wno:(47:UInt8)∉Jn (ws.map wtx)
 dsp:sps 44 (Tx (Jn (l.map dtx)))=l.map dtx
 wsp:ws≠[]→sps 44 (Tx (Jn (ws.map wtx)))=ws.map wtx
 wem:ws≠[]→Jn (ws.map wtx)≠[]
 din:∀ d,d∈l→rQ d
 win:∀ w,w∈ws→acg w
theorem parts (l:List Int) (ws:List S40) (hv:iV l ws=true):Parts l ws:=by
 have hf:wE l ws=true:=by
  unfold iV at hv
  exact(Bool.and_eq_true_iff.mp hv).1
 obtain⟨⟨h1,h2⟩,h3,h4,h5⟩:=tN hf
 have hw:∀ w,w∈ws→acg w:=fun w hw=>by
  obtain⟨a,b,c,d,e,f⟩:=h5 w hw
  exact⟨⟨a,by omega⟩,⟨c,by omega⟩,⟨e,by omega⟩⟩
 have hl:(uY l ws).data.toList=Jn (l.map dtx)++47::Jn (ws.map wtx):=by unfold uY;rw[xL];simp
 have b1:=Hu 3 (l.map dtx) (fun y hy=>by
  obtain⟨w,hw,rfl⟩:=List.mem_map.mp hy
  exact qA w (h4 w hw).1 (h4 w hw).2)
 have b2:=Hu 11 (ws.map wtx) (fun y hy=>by
  obtain⟨w,hm,rfl⟩:=List.mem_map.mp hy
  obtain⟨z0,z1,z2⟩:=hw w hm
  exact Lu w z0 z1 z2)
 rw[List.length_map]at b1 b2
 have b3:(3+1)*l.length≤4*8:=Nat.mul_le_mul (by omega) (by omega)
 have b4:(11+1)*ws.length≤12*16:=Nat.mul_le_mul (by omega) (by omega)
 refine⟨?_,hl,?_,?_,?_,?_,?_,h4,hw⟩
 ·rw[← Bb,hl,List.length_append,List.length_cons];omega
 ·intro hm
  unfold Jn at hm
  rcases yZ 44 47 _ hm with e|⟨x,hx,hb⟩
  ·exact absurd e (by decide)
  rw[List.map_map]at hx
  obtain⟨d,hd,rfl⟩:=List.mem_map.mp hx
  have hb2:(47:UInt8)∈(dtx d).data.toList:=hb
  rw[FB]at hb2
  exact wN d (h4 d hd) 47 (by decide) hb2
 ·intro hm
  unfold Jn at hm
  rcases yZ 44 47 _ hm with e|⟨x,hx,hb⟩
  ·exact absurd e (by decide)
  rw[List.map_map]at hx
  obtain⟨d,hd,rfl⟩:=List.mem_map.mp hx
  exact RY d (hw d hd) 47 (by decide) hb
 ·apply Xg
  ·intro e
   have:=congrArg List.length e
   rw[List.length_map,List.length_nil]at this;omega
  intro x hx
  obtain⟨d,hd,rfl⟩:=List.mem_map.mp hx
  rw[FB]
  exact wN d (h4 d hd) 44 (by decide)
 ·intro hne
  apply Xg
  ·intro e;exact hne (List.map_eq_nil_iff.mp e)
  intro x hx
  obtain⟨d,hd,rfl⟩:=List.mem_map.mp hx
  exact RY d (hw d hd) 44 (by decide)
 intro hne
 cases ws with
 |nil=>exact absurd rfl hne
 |cons w r=>
  unfold Jn
  rw[List.map_cons,List.map_cons,Lib.join_cons]
  intro e
  exact afy w (List.append_eq_nil_iff.mp e).1
theorem Ia {α β:Type} (f:α→β) (g:β→α) (l:List α) (h:∀ x,x∈l→g (f x)=x):(l.map f).map g=l:=by
 rw[List.map_map]
 have:∀ x,x∈l→(g ∘ f) x=x:=fun x hx=>h x hx
 rw[List.map_congr_left this];simp
theorem Xh {α β:Type} (f:α→β) (q:β→Bool) (l:List α) (h:∀ x,x∈l→q (f x)=true):(l.map f).all q=true:=by
 rw[List.all_eq_true]
 intro y hy
 obtain⟨x,hx,rfl⟩:=List.mem_map.mp hy
 exact h x hx
theorem FJ (l:List Int) (ws:List S40) (hv:iV l ws=true):KE (uY l ws)=(l,ws,true):=by
 have P:=parts l ws hv
 have hc:cutAt (uY l ws) 47=(Tx (Jn (l.map dtx)),Tx (Jn (ws.map wtx)),true):=by
  unfold cutAt
  rw[P.list,Vj _ _ 47 P.dno,if_neg (by omega),Int.toNat_natCast,afd, ← xO ((uY l ws).extract _ _),um,P.list]
  simp
 unfold KE
 rw[hc]
 simp only
 rw[P.dsp,Ia dtx dn l (fun d hd=>by unfold dn;rw[Bf d (P.din d hd)]),Xh dtx dok l (fun d hd=>by unfold dok;rw[Bf d (P.din d hd)])]
 have e1:aco (Tx (Jn (ws.map wtx)))=ws:=by
  unfold aco
  rw[xL]
  by_cases h:ws=[]
  ·rw[h,if_pos (by rfl)]
  rw[if_neg (P.wem h),P.wsp h,Ia wtx tw ws (fun w hw=>by unfold tw;rw[RL w (P.win w hw)])]
 have e2:okI (Tx (Jn (ws.map wtx)))=true:=by
  unfold okI
  rw[xL]
  by_cases h:ws=[]
  ·rw[h,if_pos (by rfl)]
  rw[if_neg (P.wem h),P.wsp h,Xh wtx tok ws (fun w hw=>by unfold tok;rw[RL w (P.win w hw)])]
 rw[e1,e2]
 unfold Xf
 rw[if_pos ⟨by rfl,hv⟩]
end Go.Proofs.YtalkmhnlgfncmaaGreatDoor.X
end
section
/- append to a row of one's own as one step of a region that draws: of what lies in a block, or of a row that is read. Conditions: as each lemma says. -/
namespace Go.Proofs.YtalkmhnlgfncmaaGreatDoor.X
open Go.RowKit Go.Proofs.YtalkmhnlgfncmaaGreatDoorW.aC Go.Proofs.YtalkmhnlgfncmaaGreatDoorW.aN Go.Proofs.YtalkmhnlgfncmaaGreatDoorW.aT
theorem uy {α:Type} (k:Kd α) {P:Program} {ops:Array Oper} {o:Oper} {a:Act} {W:World} {Kc:Act→World→Prop} {Q:Exit→Act→World→Prop} (hgd:o.guard=none) (s x:Operand) (t:TypeId)
  (ho:o.op=Op.call { callee:=Callee.builtin Builtin.append,args:=#[s,x],argTypes:=#[t,t] }) (e:TypeId) (z:Value) (bytes:Nat)
  (ht:P.underlying t=some (.slice e)) (hinfo:(P.info? e).map (fun i=>(i.zero,i.size,i.bytes))=some (some z,k.sz,bytes)) (hz:z.cells.size=k.sz) (hs0:0<k.sz) (hb0:0<bytes)
  (base:Nat) (w0:World) (v:Value) (xs ys:List α) (A:Option Addr) (m c:Nat) (ok:Nat→Prop) (hs:a.eval s=v) (hx:a.eval x= .slice A m c)
  (hKM:∀ (y:α) (cs:List Value),k.K W y cs→k.M W base (fun _=>False) y cs) (HO:k.R e W base ok v xs) (HR:k.C W A m ys) (hfresh:∀ j,W.heap.size≤j→ok j) (HB:Below base w0 W) (hbase:base≤W.heap.size) (hl:(xs.length+m)*bytes≤140737488355328)
  (hK:∀ v' w',k.R e w' base ok v' (xs++ys)→Below base w0 w'→W.grownBy w' v.ownBlock→Kc (a.put o.dst v') w'):
  if Region.wanted o (yielded ops a.tmps)=true then Oper.wp P o a W Kc Q else Kc (a.put o.dst undef) W:=by
 have hw:Region.wanted o (yielded ops a.tmps)=true:=by simp[Region.wanted,hgd]
 exact Kd.vT k (Rr:=k.K W) base hw s x t e z bytes ho ht hinfo hz hs0 hb0 v xs ys A m c ok (fun _=>False) hs hx HO HR hKM (fun _ h=>h.elim) hfresh HB hbase hl (fun v1 w1 h1 h2 h3 _=>hK v1 w1 h1 h2 h3)
/-- What lies in a block of its own, as a row of one. -/
theorem afz {α:Type} (k:Kd α) {W:World} {b:Nat} {cs:List Value} {te:TypeId} (y:α) (h:W.heap[b]?=some (.cells cs.toArray te (0,0))) (hy:k.K W y cs):k.C W (some ⟨b,0,none⟩) 1 [y]:=by
 refine⟨rfl,by omega,fun _=>⟨_,rfl,fun j p hj=>?_⟩⟩
 rcases j with _|j
 ·obtain rfl:y=p:=by simpa using hj
  refine⟨cs,k.sj hy,hy,fun i u hi=>?_⟩
  rw[Nat.zero_mul,Nat.zero_add,add_plain]
  exact(aj h i).trans (by simpa using hi)
 simp at hj
/-- A call of a Go function that returns, as one step of a region that draws. -/
theorem MW {P:Program} {ops:Array Oper} {o:Oper} {a:Act} {w:World} {K:Act→World→Prop} {Q:Exit→Act→World→Prop} {E:Prop} (hg:o.guard=none) {f:FuncId} {fn:Func} {caps:Array Value} {x:Operand} {zs:Array Operand} {ts:Array TypeId} (hf:P.funcs[f]?=some fn) (hname:(fn.name== "runtime.NumGoroutine")=false) (hb:fn.body.isSome=true) (args:Array Value)
  (hop:o.op= .call { callee:=.value x,args:=zs,argTypes:=ts }) (hx:a.eval x= .func (.func f) #[] caps) (hargs:zs.map a.eval=args) {R:Value→World→Prop}
  (h:Calls P f (args++caps) w fun e w'=>∃ v,e= .returned v∧R v w') (hK:∀ v w',R v w'→K (a.put o.dst v) w'):
  if Region.wanted o (yielded ops a.tmps)=true then Oper.wp P o a w K Q else E:=by
 have hw:Region.wanted o (yielded ops a.tmps)=true:=by simp[Region.wanted,hg]
 rw[if_pos hw]
 have he:=DK hf hname hb (args++caps) w
 have hrun:(execOp a.eval o).run P w= .ok (.enter f (args++caps)) w:=by
  unfold execOp
  simp[hop,resolve,Deferred.ofValue,invoke,hx,hargs,he]
 unfold Oper.wp
 rw[hrun,Oper.upon_enter]
 refine h.mono ?_
 rintro e w' ⟨v,rfl,hr⟩
 exact hK v w' hr
end Go.Proofs.YtalkmhnlgfncmaaGreatDoor.X
end
section
/- A region that draws its order, met by one invariant over what has come up. Conditions: as the lemma says. -/
namespace Go.Proofs.YtalkmhnlgfncmaaGreatDoor.X
open Go
section
variable {P:Program} {ops:Array Oper} {md:Region.Mode} {Q:Exit→Act→World→Prop}
def unl (n:Nat) (listed:Array Bool):Nat:=(List.range n).countP fun i=> !listed.getD i true
theorem Bw {p q:Nat→Bool}:∀ (l:List Nat),(∀ x,q x=true→p x=true)→(∃ x,x∈l∧p x=true∧q x=false)→l.countP q<l.countP p
 |[],_,h=>by obtain⟨x,hx,_⟩:=h;cases hx
 |y::l,h1,h2=>by
  have hle:l.countP q≤l.countP p:=List.countP_mono_left (fun x _=>h1 x)
  rw[List.countP_cons,List.countP_cons]
  obtain⟨x,hx,hp,hq⟩:=h2
  rcases List.mem_cons.mp hx with e|hx
  ·subst e
   rw[if_pos hp,if_neg (by rw[hq];decide)];omega
  ·have:=Bw l h1 ⟨x,hx,hp,hq⟩
   by_cases hy:q y=true
   ·rw[if_pos hy,if_pos (h1 y hy)];omega
   rw[if_neg hy];omega
theorem Ib (J:Array Bool→Act→World→Prop)
  (hstep:∀ listed a w,J listed a w→∀ i∈Region.ready md ops listed,wpOp P ops Q i (J (listed.setIfInBounds i true)) a w)
  (hdone:∀ listed a w,J listed a w→Region.ready md ops listed=[]→Q .normal a w):
  ∀ (fuel:Nat) (listed:Array Bool) (a:Act) (w:World),J listed a w→unl ops.size listed≤fuel→wpAny P md ops Q fuel listed a w
 |0,listed,a,w,hJ,hu=>by
  have hr:Region.ready md ops listed=[]:=by
   cases hr:Region.ready md ops listed with
   |nil=>rfl
   |cons i l=>
    have hi:i∈Region.ready md ops listed:=by rw[hr];exact List.mem_cons_self
    obtain⟨hun,oj,hoj,_⟩:=mem_ready.1 hi
    have h0:=List.countP_eq_zero.mp (Nat.le_zero.mp hu) i (by
     rw[List.mem_range]
     rcases Nat.lt_or_ge i ops.size with h|h
     ·exact h
     rw[Array.getElem?_eq_none h]at hoj;cases hoj)
    rw[hun]at h0;exact absurd rfl h0
  exact⟨hr,hdone listed a w hJ hr⟩
 |fuel+1,listed,a,w,hJ,hu=>by
  refine⟨fun hr=>hdone listed a w hJ hr,fun i hi=>wpOp_mono (fun a' w' hJ'=>Ib J hstep hdone fuel _ a' w' hJ' ?_) (hstep listed a w hJ i hi)⟩
  obtain⟨hun,oj,hoj,_⟩:=mem_ready.1 hi
  have:unl ops.size (listed.setIfInBounds i true)<unl ops.size listed:=by
   refine Bw _ (fun x hx=>?_) ⟨i,?_,by rw[hun];rfl,?_⟩
   ·by_cases e:i=x
    ·subst e;rw[hun];rfl
    rwa [getD_set_ne true e]at hx
   ·rw[List.mem_range]
    rcases Nat.lt_or_ge i ops.size with h|h
    ·exact h
    rw[Array.getElem?_eq_none h]at hoj;cases hoj
   have hlt:i<listed.size:=by
    rcases Nat.lt_or_ge i listed.size with h|h
    ·exact h
    rw[Array.getD_eq_getD_getElem?,Array.getElem?_eq_none h]at hun;cases hun
   rw[Array.getD_eq_getD_getElem?,Array.getElem?_setIfInBounds_self_of_lt hlt];rfl
  omega
/-- The region as a whole. -/
theorem MX {id:Nat} {a:Act} {w:World} (J:Array Bool→Act→World→Prop) (hm:P.follows .mixedOrders=true)
  (h0:J (Array.replicate ops.size false) a w.drew)
  (hstep:∀ listed a w,J listed a w→∀ i∈Region.ready .any ops listed,wpOp P ops Q i (J (listed.setIfInBounds i true)) a w)
  (hdone:∀ listed a w,J listed a w→Region.ready .any ops listed=[]→Q .normal a w):(Code.region id ops true).wp P Q a w:=by
 refine wp_region_any hm (Ib J hstep hdone _ _ _ _ h0 ?_)
 unfold unl
 exact Nat.le_trans List.countP_le_length (by rw[List.length_range];exact Nat.le_refl _)
end
end Go.Proofs.YtalkmhnlgfncmaaGreatDoor.X
end
