/- My own texts of this seat and its words, merged: Xp32, XAreMoves, Xp13, Xp35, XMvFor. Conditions: as each lemma says. -/
import Derived.Test.YtalkmhnlgfncmaaGreatDoorI21
import Derived.Test.YtalkmhnlgfncmaaGreatDoorI23
import Derived.Test.YtalkmhnlgfncmaaGreatDoorI22
import Derived.Deep.RegionHeld3
import Derived.Test.YtalkmhnlgfncmaaGreatDoorXSlim
set_option linter.unusedVariables false
set_option linter.unusedSimpArgs false
section
namespace Go.Proofs.YtalkmhnlgfncmaaGreatDoor.X
open Go.RowKit Go.Proofs.YtalkmhnlgfncmaaGreatDoorW.aC Go.Proofs.YtalkmhnlgfncmaaGreatDoorW.aN Go.Proofs.YtalkmhnlgfncmaaGreatDoorW.aT
attribute [local go_sem] fq fu gJ gK dN dO fA fB
/-! ### impl_Flow_moved: function 32 -/
def bI.l0:Nat→List Int→List (S40)→Int→Int→List Int→List (S40)→Option (List Int×(List (S40)))
 |0,_,_,_,_,_,_=>none
 |k+1,x1,x13,x14,x15,OY,Jz=>if x15<x14 then(if 0≤x15 then(if x15<(x13.length:Int)then(if 0≤((au x13 x15).f1)then(if ((au x13 x15).f1)<(x1.length:Int)then(if 0≤((au x13 x15).f0)then(if ((au x13 x15).f0)<(x1.length:Int)then(if Jz.length<5864062014805 then(bI.l0 k x1 x13 x14 (wrap64 (x15+1)) OY (Jz++[(⟨(au x13 x15).f0,(au x13 x15).f1,wrap64 ((wrap64 (((au x13 x15).f2)+(rd x1 ((au x13 x15).f1)))) - (rd x1 ((au x13 x15).f0)))⟩:S40)]))else(none))else(none))else(none))else(none))else(none))else(none))else(none))else(some (OY,Jz))
def bI.f (k:Nat) (bK:List Int) (bf:List (S40)) (l1:List Int):Option (List Int×(List (S40))):=(fZ.f bK).bind fun yG=>(bI.l0 k l1 bf (bf.length:Int) 0 yG ([]:List (S40)))
def bI.T5:Bool×List (List Nat×List Nat):=(true,[([],[]),([0],[0]),([],[]),([2],[2]),([],[]),([4],[4]),([],[]),([6],[6]),([],[]),([],[]),([9],[9]),([8,10],[8,10]),([11],[11]),([7,12],[7,12]),([],[]),([],[]),([15],[15]),([14,16],[14,16]),([17],[17]),([13,18],[13,18]),([3,5,19],[3,5,19]),([20],[20]),([1,21],[1,21]),([0,1,2,3,4,5,6,7,8,9,10,11,12,13,14,15,16,17,18,19,20,21,22],[]),([23,22,22,0,1,2,3,4,5,6,7,8,9,10,11,12,13,14,15,16,17,18,19,20,21,22],[22,23])])
def bI.B5:List Nat:=[0,1,0,4,0,16,0,64,0,0,512,1792,3840,8128,0,0,32768,114688,245760,524224,1048572,2097148,4194303,8388607,16777215]
theorem bI.aiR:uU .any (opsOf Tryz.f32 5)=bI.T5:=by kernel_rfl
theorem bI.ZC:nG bI.T5.2 bI.B5=true:=by kernel_rfl
set_option maxHeartbeats 8000000 in
set_option maxRecDepth 100000 in
theorem bI.calls (k:Nat) (eT:Option Addr) (eG:Nat) (bK:List Int) (fE:Option Addr) (eH:Nat) (bf:List (S40)) (A1:Option Addr) (c1:Nat) (l1:List Int) (r1:List Int) (r2:List (S40)) (w:World) (lZ:Kd.C (Kd.int .i64) w eT bK.length bK) (nV:bK.length≤eG) (lV:Kd.C k40 w fE bf.length bf) (nJ:bf.length≤eH) (hr1:Kd.C (Kd.int .i64) w A1 l1.length l1) (hc1:l1.length≤c1) (h:bI.f k bK bf l1=some (r1,r2)):
  Calls Tryz.prog 32 #[.agg #[.slice eT bK.length eG,.slice fE bf.length eH],.slice A1 l1.length c1] w fun e w'=>∃ v0_ v1_:Value,e= .returned (.agg #[v0_,v1_])∧Kd.R (Kd.int .i64) 2 w' w.heap.size (fun _=>True) v0_ r1∧Kd.R k40 40 w' w.heap.size (fun _=>True) v1_ r2∧Below w.heap.size w w':=by
 have Ux:=Tryz.underlying27
 have Wh:=Tryz.underlying40
 have jT:=ah.mk lZ
 have kg:=ah.mk nV
 clear lZ nV
 have jU:=ah.mk lV
 have kC:=ah.mk nJ
 clear lV nJ
 have HR1:=ah.mk hr1
 have HC1:=ah.mk hc1
 clear hr1 hc1
 have HB:=ah.mk (Below.refl w.heap.size w)
 have H:((fZ.f bK).bind fun yG=>(bI.l0 k l1 bf (bf.length:Int) 0 yG ([]:List (S40))))=some (r1,r2):=h
 clear h
 obtain⟨yG,A30,H⟩:=Option.bind_eq_some_iff.mp H
 have A3:=ah.mk A30
 clear A30
 have H':=ah.mk H
 clear H
 go_enter Tryz.func32,Tryz.ntmps32
 go_wp2_with (first|((with_reducible refine aH (N:=2) rfl ?_);refine qbx (N:=2) (cs:=#[.slice eT bK.length eG,.slice fE bf.length eH]) (t:=27) ?_;intro pV hg w4 bR hb;have mG:=ah.mk (bR);have aqP:=ah.mk ((mK HB:w.heap.size≤pV));have tu:=ah.mk ((mK HB:w.heap.size≤pV));replace HB:=ah.mk (av (qz0 HB) hb);clear hb bR hg)|((with_reducible refine aH (N:=4) rfl ?_);refine qbx (N:=4) (cs:=#[.slice none 0 0,.slice none 0 0]) (t:=27) ?_;intro oM hg w5 bR hb;have nL:=ah.mk (bR);have aqQ:=ah.mk ((wU HB tu:w.heap.size≤oM));have wC:=ah.mk ((wU HB tu:w.heap.size≤oM));replace HB:=ah.mk (av (qz4 HB tu) hb);have Gx:=ah.mk ((anI:pV≠oM));have Gy:=ah.mk ((anJ:oM≠pV));replace mG:=ah.mk (aA (g:=pV) (o:=.cells #[.slice eT bK.length eG,.slice fE bf.length eH] 27 (0,0)) (dP mG) hb);clear hb bR hg;have auW:=Gx.out;have auX:=Gy.out;have adZ:w5.cell? ⟨pV,0,none⟩=some (.slice eT bK.length eG):=(aj mG.out 0).trans rfl;have ad1:w5.cell? ⟨pV,1,none⟩=some (.slice fE bf.length eH):=(aj mG.out 1).trans rfl;have ad3:=ak mG.out 0;have ad4:=ak mG.out 1)|((with_reducible refine aK (f:=58) rfl ?_);refine dH (some 10) rfl rfl Tryz.func58 qz9 rfl #[.slice eT bK.length eG] rfl jh ?_;(with_reducible refine(fZ.calls _ _ bK yG _ ?bT ?bU A3.out).mono ?_);(case bT=>exact qz2 jT HB);(case bU=>exact jL kg);rintro e w8 ⟨v218,rfl,ho0,hb⟩;refine⟨_,rfl,?_⟩;have Uy:=ah.mk (Kd.dV ho0 (aG (qz8 HB tu wC)));replace mG:=ah.mk (aA (g:=pV) (o:=.cells #[.slice eT bK.length eG,.slice fE bf.length eH] 27 (0,0)) (dP mG) hb);replace nL:=ah.mk (aA (g:=oM) (o:=.cells #[.slice none 0 0,.slice none 0 0] 27 (0,0)) (dP nL) hb);replace HB:=ah.mk (av (qz8 HB tu wC) hb);(try clear hb);(try clear hb2);(try clear hk);(try clear hi);(try clear ho0);obtain⟨Ao9,co9,eo9⟩:=Kd.dW Uy.out;subst eo9)|((with_reducible refine aH (N:=5) rfl ?_);refine qbx (N:=5) (cs:=#[.slice none 0 0,.slice none 0 0]) (t:=27) ?_;intro oN hg w10 bR hb;replace Uy:=ah.mk (Kd.aM (cK Uy) hb);have lG:=ah.mk (bR);have aqR:=ah.mk ((by rw[hg];exact(aG (qz8 HB tu wC)):w.heap.size≤oN));have EJ:=ah.mk ((by rw[hg];exact(aG (qz8 HB tu wC)):w.heap.size≤oN));replace HB:=ah.mk (av (qz8 HB tu wC) hb);have tC:=ah.mk ((anI:pV≠oN));have Ai:=ah.mk ((anJ:oN≠pV));replace mG:=ah.mk (aA (g:=pV) (o:=.cells #[.slice eT bK.length eG,.slice fE bf.length eH] 27 (0,0)) (dP mG) hb);have tF:=ah.mk ((by rw[hg];exact Nat.ne_of_lt (gD (g:=oM) (o:=.cells #[.slice none 0 0,.slice none 0 0] 27 (0,0)) (dP nL)):oM≠oN));have Aj:=ah.mk ((by rw[hg];exact Nat.ne_of_gt (gD (g:=oM) (o:=.cells #[.slice none 0 0,.slice none 0 0] 27 (0,0)) (dP nL)):oN≠oM));replace nL:=ah.mk (aA (g:=oM) (o:=.cells #[.slice none 0 0,.slice none 0 0] 27 (0,0)) (dP nL) hb);clear hb bR hg;have aqS:=Ai.out;have aqT:=tC.out;have aiS:=Aj.out;have aiT:=tF.out;have xB:w10.cell? ⟨oN,0,none⟩=some (.slice none 0 0):=(aj lG.out 0).trans rfl;have xC:w10.cell? ⟨oN,1,none⟩=some (.slice none 0 0):=(aj lG.out 1).trans rfl;have OZ:=ak lG.out 0;have Pb:=ak lG.out 1;have oo:w10.cell? ⟨pV,0,none⟩=some (.slice eT bK.length eG):=(aj mG.out 0).trans rfl;have oq:w10.cell? ⟨pV,1,none⟩=some (.slice fE bf.length eH):=(aj mG.out 1).trans rfl;have rG:=ak mG.out 0;have rH:=ak mG.out 1))
 go_loopg [15] k (fun kq v15 w'=>∃ (eO:Int) (mH:List (S40)) (u221001:Value),v15= .int .i64 eO∧ah (bI.l0 kq l1 bf (bf.length:Int) eO yG mH=some (r1,r2))∧ah (kq≤k)∧ah (Kd.R (Kd.int .i64) 2 w' w.heap.size (fun _=>True) (.slice Ao9 yG.length co9) yG)∧ah (Kd.R k40 40 w' w.heap.size (fun _=>True) u221001 mH)∧ah (w'.heap[pV]?=some (.cells #[(.slice eT bK.length eG),(.slice fE bf.length eH)] 27 (0,0)))∧ah (w'.heap[oM]?=some (.cells #[(.slice none 0 0),(.slice none 0 0)] 27 (0,0)))∧ah (w'.heap[oN]?=some (.cells #[(.slice Ao9 yG.length co9),u221001] 27 (0,0)))∧ah (Below w.heap.size w w'))
 case atStart=>exact⟨(0),(([]:List (S40))),(.slice none 0 0),iY,H',⟨Nat.le_refl _⟩,⟨by refine qpr ?_;exact Kd.bS (Kd.bX (p:=⟨oN,1,none⟩) (Kd.bX (p:=⟨oN,0,none⟩) (Kd.cO Uy.out lG.out (by decide)) (fun _ hk=>hk.2) (.slice Ao9 yG.length co9)) (fun _ hk=>hk.2) (.slice none 0 0)) (fun _ hk=>trivial)⟩,⟨Dh⟩,⟨Tj tC mG⟩,⟨Tj tF nL⟩,⟨anK lG⟩,⟨wV HB tu wC EJ⟩⟩
 case round=>
  clear H'
  try clear c1
  try clear p2
  try clear c3
  try clear c5
  try clear c6
  try clear c11
  try clear c12
  try clear xB
  try clear xC
  try clear oo
  try clear oq
  try clear adZ
  try clear ad1
  try clear OZ
  try clear Pb
  try clear rG
  try clear rH
  try clear ad3
  try clear ad4
  obtain⟨eO,mH,u221001,rfl,HA,HK1,kS,iR,mG,nL,lG,HB⟩:=hrel
  cases gk with
  |zero=>exact absurd HA.out (by simp[bI.l0])
  |succ k1=>
   have H:=HA.out
   clear HA
   simp only[bI.l0]at H
   by_cases c15:eO<(bf.length:Int)
   ·rw[if_pos c15]at H
    have Jg:decide (eO<(bf.length:Int))=true:=decide_eq_true c15
    clear c15
    by_cases c16:0≤eO
    ·rw[if_pos c16]at H
     have Jh:decide (0≤eO)=true:=decide_eq_true c16
     clear c16
     by_cases c17:eO<(bf.length:Int)
     ·rw[if_pos c17]at H
      have ZE:decide (eO<(bf.length:Int))=true:=decide_eq_true c17
      clear c17
      by_cases c18:0≤((au bf eO).f1)
      ·rw[if_pos c18]at H
       have Uz:decide (0≤((au bf eO).f1))=true:=decide_eq_true c18
       clear c18
       by_cases c19:((au bf eO).f1)<(l1.length:Int)
       ·rw[if_pos c19]at H
        have adn:decide (((au bf eO).f1)<(l1.length:Int))=true:=decide_eq_true c19
        clear c19
        by_cases c20:0≤((au bf eO).f0)
        ·rw[if_pos c20]at H
         have Uh:decide (0≤((au bf eO).f0))=true:=decide_eq_true c20
         clear c20
         by_cases c21:((au bf eO).f0)<(l1.length:Int)
         ·rw[if_pos c21]at H
          have Ak:decide (((au bf eO).f0)<(l1.length:Int))=true:=decide_eq_true c21
          clear c21
          by_cases c22:mH.length<5864062014805
          ·rw[if_pos c22]at H
           have aiU:=ah.mk c22
           clear c22
           obtain⟨ad5,Pf⟩:∃ y_:List (S40),y_=(mH++[(⟨(au bf eO).f0,(au bf eO).f1,wrap64 ((wrap64 (((au bf eO).f2)+(rd l1 ((au bf eO).f1)))) - (rd l1 ((au bf eO).f0)))⟩:S40)]):=⟨_,rfl⟩
           replace H:(bI.l0 k1 l1 bf (bf.length:Int) (wrap64 (eO+1)) yG ad5)=some (r1,r2):=by first|(rw[Pf];with_reducible exact H)|(have H2_:=(Option.bind_some _ _).symm.trans H;rw[Pf];with_reducible exact H2_)|(have H2_:=(Option.bind_some _ _).symm.trans H;with_reducible exact H2_)|with_reducible exact H|(rw[Pf];exact H)|exact H
           have aiV:=ah.mk Pf
           clear Pf
           have H':=ah.mk H
           clear H
           have aiW:0≤(eO:Int):=of_decide_eq_true gN
           have aiX:eO<(bf.length:Int):=of_decide_eq_true gN
           obtain⟨Pg,e221,JA,JB,JC⟩:=kH jU.out eO aiW aiX
           cases e221
           replace JA:=(HB.out.cell (World.block_lt_of_cell? w _ JA)).trans JA
           replace JB:=(HB.out.cell (World.block_lt_of_cell? w _ JB)).trans JB
           replace JC:=(HB.out.cell (World.block_lt_of_cell? w _ JC)).trans JC
           replace aiW:=eq_true aiW
           replace aiX:=eq_true aiX
           try go_wp2_with (first|((with_reducible refine aH (N:=7) rfl ?_);refine qbx (N:=7) (cs:=#[.int .i64 0,.int .i64 0,.int .i64 0]) (t:=40) ?_;intro iX hg w23 bR hb;replace kS:=ah.mk (Kd.aM (cK kS) hb);replace iR:=ah.mk (Kd.aM (Kd.nD (cK iR) iX (Nat.le_of_eq hg.symm)) hb);have oO:=ah.mk (bR);have aqU:=ah.mk ((by rw[hg];exact(aG (wV HB tu wC EJ)):w.heap.size≤iX));have UA:=ah.mk ((by rw[hg];exact(aG (wV HB tu wC EJ)):w.heap.size≤iX));replace HB:=ah.mk (av (wV HB tu wC EJ) hb);have Gz:=ah.mk ((by rw[hg];exact Nat.ne_of_lt (gD (g:=pV) (o:=.cells #[.slice eT bK.length eG,.slice (some Pg) bf.length eH] 27 (0,0)) (dP mG)):pV≠iX));have Pj:=ah.mk ((by rw[hg];exact Nat.ne_of_gt (gD (g:=pV) (o:=.cells #[.slice eT bK.length eG,.slice (some Pg) bf.length eH] 27 (0,0)) (dP mG)):iX≠pV));replace mG:=ah.mk (aA (g:=pV) (o:=.cells #[.slice eT bK.length eG,.slice (some Pg) bf.length eH] 27 (0,0)) (dP mG) hb);have GA:=ah.mk ((by rw[hg];exact Nat.ne_of_lt (gD (g:=oM) (o:=.cells #[.slice none 0 0,.slice none 0 0] 27 (0,0)) (dP nL)):oM≠iX));have Pk:=ah.mk ((by rw[hg];exact Nat.ne_of_gt (gD (g:=oM) (o:=.cells #[.slice none 0 0,.slice none 0 0] 27 (0,0)) (dP nL)):iX≠oM));replace nL:=ah.mk (aA (g:=oM) (o:=.cells #[.slice none 0 0,.slice none 0 0] 27 (0,0)) (dP nL) hb);have Al:=ah.mk ((by rw[hg];exact Nat.ne_of_lt (gD (g:=oN) (o:=.cells #[.slice Ao9 yG.length co9,u221001] 27 (0,0)) (dP lG)):oN≠iX));have GD:=ah.mk ((by rw[hg];exact Nat.ne_of_gt (gD (g:=oN) (o:=.cells #[.slice Ao9 yG.length co9,u221001] 27 (0,0)) (dP lG)):iX≠oN));replace lG:=ah.mk (aA (g:=oN) (o:=.cells #[.slice Ao9 yG.length co9,u221001] 27 (0,0)) (dP lG) hb);clear hb bR hg;have ac6:=Pj.out;have ac7:=Gz.out;have Uj:=Pk.out;have Uk:=GA.out;have aiY:=GD.out;have aiZ:=Al.out;have Ey:w23.cell? ⟨iX,0,none⟩=some (.int .i64 0):=(aj oO.out 0).trans rfl;have Ez:w23.cell? ⟨iX,1,none⟩=some (.int .i64 0):=(aj oO.out 1).trans rfl;have ZF:w23.cell? ⟨iX,2,none⟩=some (.int .i64 0):=(aj oO.out 2).trans rfl;have Pm:=ak oO.out 0;have Pn:=ak oO.out 1;have ZG:=ak oO.out 2))
           have n0_:ah (Kd.R (Kd.int .i64) 2 (((w23.setCell ⟨iX,0,none⟩ (.int .i64 ((au bf eO).f0))).setCell ⟨iX,1,none⟩ (.int .i64 ((au bf eO).f1))).setCell ⟨iX,2,none⟩ (.int .i64 ((au bf eO).f2))) w.heap.size (fun _=>True) (.slice Ao9 yG.length co9) yG):=⟨by refine qpr ?_;exact Kd.bS (Kd.bX (p:=⟨iX,2,none⟩) (Kd.bX (p:=⟨iX,1,none⟩) (Kd.bX (p:=⟨iX,0,none⟩) (Kd.cO kS.out oO.out (by decide)) (fun _ hk=>hk.2) (.int .i64 ((au bf eO).f0))) (fun _ hk=>hk.2) (.int .i64 ((au bf eO).f1))) (fun _ hk=>hk.2) (.int .i64 ((au bf eO).f2))) (fun _ hk=>trivial)⟩
           have n1_:ah (Kd.R k40 40 (((w23.setCell ⟨iX,0,none⟩ (.int .i64 ((au bf eO).f0))).setCell ⟨iX,1,none⟩ (.int .i64 ((au bf eO).f1))).setCell ⟨iX,2,none⟩ (.int .i64 ((au bf eO).f2))) w.heap.size (fun k_=>k_≠iX) u221001 mH):=⟨by refine qpr ?_;exact Kd.bS (Kd.bX (p:=⟨iX,2,none⟩) (Kd.bX (p:=⟨iX,1,none⟩) (Kd.bX (p:=⟨iX,0,none⟩) (Kd.bS iR.out (fun k_ hk=>(⟨hk,hk.2⟩:_∧k_≠iX))) (fun _ hk=>hk.2) (.int .i64 ((au bf eO).f0))) (fun _ hk=>hk.2) (.int .i64 ((au bf eO).f1))) (fun _ hk=>hk.2) (.int .i64 ((au bf eO).f2))) (fun _ hk=>hk.1.2)⟩
           have n2_:ah ((((w23.setCell ⟨iX,0,none⟩ (.int .i64 ((au bf eO).f0))).setCell ⟨iX,1,none⟩ (.int .i64 ((au bf eO).f1))).setCell ⟨iX,2,none⟩ (.int .i64 ((au bf eO).f2))).heap[pV]?=some (.cells #[.slice eT bK.length eG,.slice (some Pg) bf.length eH] 27 (0,0))):=⟨Nb Gz mG⟩
           have n3_:ah ((((w23.setCell ⟨iX,0,none⟩ (.int .i64 ((au bf eO).f0))).setCell ⟨iX,1,none⟩ (.int .i64 ((au bf eO).f1))).setCell ⟨iX,2,none⟩ (.int .i64 ((au bf eO).f2))).heap[oM]?=some (.cells #[.slice none 0 0,.slice none 0 0] 27 (0,0))):=⟨Nb GA nL⟩
           have n4_:ah ((((w23.setCell ⟨iX,0,none⟩ (.int .i64 ((au bf eO).f0))).setCell ⟨iX,1,none⟩ (.int .i64 ((au bf eO).f1))).setCell ⟨iX,2,none⟩ (.int .i64 ((au bf eO).f2))).heap[oN]?=some (.cells #[.slice Ao9 yG.length co9,u221001] 27 (0,0))):=⟨Nb Al lG⟩
           have n5_:ah ((((w23.setCell ⟨iX,0,none⟩ (.int .i64 ((au bf eO).f0))).setCell ⟨iX,1,none⟩ (.int .i64 ((au bf eO).f1))).setCell ⟨iX,2,none⟩ (.int .i64 ((au bf eO).f2))).heap[iX]?=some (.cells #[.int .i64 ((au bf eO).f0),.int .i64 ((au bf eO).f1),.int .i64 ((au bf eO).f2)] 40 (0,0))):=⟨by refine qpb ?_;refine aW (cs:=#[.int .i64 ((au bf eO).f0),.int .i64 ((au bf eO).f1),.int .i64 0]) ?_ 2 _ rfl;refine qpb ?_;refine aW (cs:=#[.int .i64 ((au bf eO).f0),.int .i64 0,.int .i64 0]) ?_ 1 _ rfl;refine qpb ?_;refine aW (cs:=#[.int .i64 0,.int .i64 0,.int .i64 0]) ?_ 0 _ rfl;refine qpb ?_;exact oO.out⟩
           have n6_:ah (Below w.heap.size w (((w23.setCell ⟨iX,0,none⟩ (.int .i64 ((au bf eO).f0))).setCell ⟨iX,1,none⟩ (.int .i64 ((au bf eO).f1))).setCell ⟨iX,2,none⟩ (.int .i64 ((au bf eO).f2)))):=⟨Ms HB tu wC EJ UA⟩
           (try clear kS)
           (try clear iR)
           (try clear mG)
           (try clear nL)
           (try clear lG)
           (try clear oO)
           (try clear HB)
           generalize (((w23.setCell ⟨iX,0,none⟩ (.int .i64 ((au bf eO).f0))).setCell ⟨iX,1,none⟩ (.int .i64 ((au bf eO).f1))).setCell ⟨iX,2,none⟩ (.int .i64 ((au bf eO).f2)))=w28 at n0_ n1_ n2_ n3_ n4_ n5_ n6_ ⊢
           have kS:=n0_
           have iR:=n1_
           have mG:=n2_
           have nL:=n3_
           have lG:=n4_
           have oO:=n5_
           have HB:=n6_
           clear n0_ n1_ n2_ n3_ n4_ n5_ n6_
           replace kS:=ah.mk (Kd.fO kS.out)
           replace iR:=ah.mk (Kd.fO iR.out)
           replace mG:=ah.mk (dS mG.out)
           replace nL:=ah.mk (dS nL.out)
           replace lG:=ah.mk (dS lG.out)
           replace oO:=ah.mk (dS oO.out)
           replace HB:=ah.mk (bG HB.out)
           have ai0:0≤(((au bf eO).f1):Int):=of_decide_eq_true gN
           have ai1:((au bf eO).f1)<(l1.length:Int):=of_decide_eq_true gN
           obtain⟨ZH,e223,Am⟩:=Kd.iC HR1.out ((au bf eO).f1) ai0 ai1
           have tH:=Am
           cases e223
           replace Am:=(HB.out.cell (World.block_lt_of_cell? w _ Am)).trans Am
           replace ai0:=eq_true ai0
           replace ai1:=eq_true ai1
           have ai2:0≤(((au bf eO).f0):Int):=of_decide_eq_true gN
           have ai3:((au bf eO).f0)<(l1.length:Int):=of_decide_eq_true gN
           obtain⟨ai4,e224,Ao⟩:=Kd.iC HR1.out ((au bf eO).f0) ai2 ai3
           have tJ:=Ao
           obtain rfl:ZH=ai4:=(by injection e224)
           replace Ao:=(HB.out.cell (World.block_lt_of_cell? w _ Ao)).trans Ao
           replace ai2:=eq_true ai2
           replace ai3:=eq_true ai3
           refine qP (n:=25) (S:=fun w'=>w'.cell? ⟨oN,0,none⟩=some (.slice Ao9 yG.length co9)∧w'.cell? ⟨oN,1,none⟩=some (u221001)∧w'.cell? ⟨iX,0,none⟩=some (.int .i64 ((au bf eO).f0))∧w'.cell? ⟨iX,1,none⟩=some (.int .i64 ((au bf eO).f1))∧w'.cell? ⟨iX,2,none⟩=some (.int .i64 ((au bf eO).f2))∧w'.cell? (ZH.add (((au bf eO).f1)).toNat)=some (.int .i64 (rd l1 ((au bf eO).f1)))∧w'.cell? (ZH.add (((au bf eO).f0)).toNat)=some (.int .i64 (rd l1 ((au bf eO).f0)))) (ds:=[24]) #[false,false,false,false,false,false,false,false,false,false,false,false,false,false,false,false,false,false,false,false,false,false,false,false,false] qz9 rfl rfl ⟨(aj lG.out 0).trans rfl,(aj lG.out 1).trans rfl,(aj oO.out 0).trans rfl,(aj oO.out 1).trans rfl,(aj oO.out 2).trans rfl,((HB.out.cell (World.block_lt_of_cell? w _ tH)).trans tH),((HB.out.cell (World.block_lt_of_cell? w _ tJ)).trans tJ)⟩ (fun hHeld=>?_);refine jZ bI.aiR bI.ZC (fun HT_ HW_=>?_)
           generalize w28.drew=w29 at kS iR mG nL lG oO HB Am Ao hHeld ⊢
           refine qpu HT_ 0 19 #[true,false,false,false,false,false,false,false,false,false,false,false,false,false,false,false,false,false,false,false,false,false,false,false,false] rfl rfl ?_
           refine qpu HT_ 2 21 #[true,false,true,false,false,false,false,false,false,false,false,false,false,false,false,false,false,false,false,false,false,false,false,false,false] rfl rfl ?_
           refine qpu HT_ 4 23 #[true,false,true,false,true,false,false,false,false,false,false,false,false,false,false,false,false,false,false,false,false,false,false,false,false] rfl rfl ?_
           refine qpu HT_ 6 25 #[true,false,true,false,true,false,true,false,false,false,false,false,false,false,false,false,false,false,false,false,false,false,false,false,false] rfl rfl ?_
           refine qpu HT_ 8 27 #[true,false,true,false,true,false,true,false,true,false,false,false,false,false,false,false,false,false,false,false,false,false,false,false,false] rfl rfl ?_
           refine qpu HT_ 9 28 #[true,false,true,false,true,false,true,false,true,true,false,false,false,false,false,false,false,false,false,false,false,false,false,false,false] rfl rfl ?_
           refine qpu HT_ 14 33 #[true,false,true,false,true,false,true,false,true,true,false,false,false,false,true,false,false,false,false,false,false,false,false,false,false] rfl rfl ?_
           refine qpu HT_ 15 34 #[true,false,true,false,true,false,true,false,true,true,false,false,false,false,true,true,false,false,false,false,false,false,false,false,false] rfl rfl ?_
           refine qtk HT_ HW_ 1 20 #[true,true,true,false,true,false,true,false,true,true,false,false,false,false,true,true,false,false,false,false,false,false,false,false,false] rfl rfl hHeld ?_
           refine qtk HT_ HW_ 3 22 #[true,true,true,true,true,false,true,false,true,true,false,false,false,false,true,true,false,false,false,false,false,false,false,false,false] rfl rfl hHeld ?_
           refine qtk HT_ HW_ 5 24 #[true,true,true,true,true,true,true,false,true,true,false,false,false,false,true,true,false,false,false,false,false,false,false,false,false] rfl rfl hHeld ?_
           refine qtk HT_ HW_ 7 26 #[true,true,true,true,true,true,true,true,true,true,false,false,false,false,true,true,false,false,false,false,false,false,false,false,false] rfl rfl hHeld ?_
           refine qtk HT_ HW_ 10 29 #[true,true,true,true,true,true,true,true,true,true,true,false,false,false,true,true,false,false,false,false,false,false,false,false,false] rfl rfl hHeld ?_
           refine qpu HT_ 11 30 #[true,true,true,true,true,true,true,true,true,true,true,true,false,false,true,true,false,false,false,false,false,false,false,false,false] rfl rfl ?_
           refine qtk HT_ HW_ 12 31 #[true,true,true,true,true,true,true,true,true,true,true,true,true,false,true,true,false,false,false,false,false,false,false,false,false] rfl rfl hHeld ?_
           refine qpu HT_ 13 32 #[true,true,true,true,true,true,true,true,true,true,true,true,true,true,true,true,false,false,false,false,false,false,false,false,false] rfl rfl ?_
           refine qtk HT_ HW_ 16 35 #[true,true,true,true,true,true,true,true,true,true,true,true,true,true,true,true,true,false,false,false,false,false,false,false,false] rfl rfl hHeld ?_
           refine qpu HT_ 17 36 #[true,true,true,true,true,true,true,true,true,true,true,true,true,true,true,true,true,true,false,false,false,false,false,false,false] rfl rfl ?_
           refine qtk HT_ HW_ 18 37 #[true,true,true,true,true,true,true,true,true,true,true,true,true,true,true,true,true,true,true,false,false,false,false,false,false] rfl rfl hHeld ?_
           refine qpu HT_ 19 38 #[true,true,true,true,true,true,true,true,true,true,true,true,true,true,true,true,true,true,true,true,false,false,false,false,false] rfl rfl ?_
           refine qpu HT_ 20 39 #[true,true,true,true,true,true,true,true,true,true,true,true,true,true,true,true,true,true,true,true,true,false,false,false,false] rfl rfl ?_
           refine FP (i:=21) (N:=some 40) #[true,true,true,true,true,true,true,true,true,true,true,true,true,true,true,true,true,true,true,true,true,true,false,false,false] rfl rfl (nE HT_.out qz9) (by decide) (fun K hK=>?_)
           refine Nu (w1:=?_) (v:=?_) (by rfl) rfl ?_ ?_
           rotate_left 2
           ·go_simp
            constructor
            ·rfl
            rfl
           refine hK.out _ _ ⟨(aj (fV lG.out _) 0).trans rfl,(aj (fV lG.out _) 1).trans rfl,(aj (fV oO.out _) 0).trans rfl,(aj (fV oO.out _) 1).trans rfl,(aj (fV oO.out _) 2).trans rfl,(World.cell?_alloc_lt _ _ _ (World.block_lt_of_cell? _ _ (((HB.out.cell (World.block_lt_of_cell? w _ tH)).trans tH)))).trans (((HB.out.cell (World.block_lt_of_cell? w _ tH)).trans tH)),(World.cell?_alloc_lt _ _ _ (World.block_lt_of_cell? _ _ (((HB.out.cell (World.block_lt_of_cell? w _ tJ)).trans tJ)))).trans (((HB.out.cell (World.block_lt_of_cell? w _ tJ)).trans tJ))⟩ (fun hHeld=>?_)
           clear hK K
           refine qno 40 rfl ?_
           refine FP (i:=22) (N:=some 41) #[true,true,true,true,true,true,true,true,true,true,true,true,true,true,true,true,true,true,true,true,true,true,true,false,false] rfl rfl (nE HT_.out qz9) (by decide) (fun K hK=>?_)
           refine Kd.ru k40 (w0:=w) w.heap.size (by rfl) (.tmp 20) (.tmp 40) 25 40 (.agg #[(.int .i64 0),(.int .i64 0),(.int .i64 0)]) 24 rfl Tryz.underlying25 CZ rfl (by decide) (by omega) u221001 mH (⟨(au bf eO).f0,(au bf eO).f1,wrap64 ((wrap64 (((au bf eO).f2)+(rd l1 ((au bf eO).f1)))) - (rd l1 ((au bf eO).f0)))⟩:S40) [.int .i64 ((au bf eO).f0),.int .i64 ((au bf eO).f1),.int .i64 (wrap64 ((wrap64 (((au bf eO).f2)+(rd l1 ((au bf eO).f1)))) - (rd l1 ((au bf eO).f0))))] (fun k_=>k_≠iX) (fun _=>False) rfl rfl ?aP (fun _ hk=>hk.elim) ?aF ?aO ?aB ?aS ?aL ?_
           (case aP=>exact zK _ _ _ (⟨(au bf eO).f0,(au bf eO).f1,wrap64 ((wrap64 (((au bf eO).f2)+(rd l1 ((au bf eO).f1)))) - (rd l1 ((au bf eO).f0)))⟩:S40))
           (case aB=>exact(Ms HB tu wC EJ UA))
           (case aF=>exact(fun k_ hk=>Kd.FX (g:=iX) (o:=.cells #[.int .i64 ((au bf eO).f0),.int .i64 ((au bf eO).f1),.int .i64 ((au bf eO).f2)] 40 (0,0)) (dP oO) k_ hk))
           (case aO=>exact(cK iR))
           (case aS=>exact(aG (Ms HB tu wC EJ UA)))
           (case aL=>exact qz3 aiU)
           intro v226 w30 ho hb hg hat
           rw[← aiV.out]at ho
           replace kS:=ah.mk (Kd.sI (cK kS) (Kd.lC (cK iR)) (by decide) hg)
           replace mG:=ah.mk (dQ (g:=pV) (o:=.cells #[.slice eT bK.length eG,.slice (some Pg) bf.length eH] 27 (0,0)) (dP mG) hg (Kd.wT iR.out mG.out (by decide)))
           replace nL:=ah.mk (dQ (g:=oM) (o:=.cells #[.slice none 0 0,.slice none 0 0] 27 (0,0)) (dP nL) hg (Kd.wT iR.out nL.out (by decide)))
           replace lG:=ah.mk (dQ (g:=oN) (o:=.cells #[.slice Ao9 yG.length co9,u221001] 27 (0,0)) (dP lG) hg (Kd.wT iR.out lG.out (by decide)))
           replace oO:=ah.mk (dQ (g:=iX) (o:=.cells #[.int .i64 ((au bf eO).f0),.int .i64 ((au bf eO).f1),.int .i64 ((au bf eO).f2)] 40 (0,0)) (dP oO) hg (Kd.VJ iR.out (fun _ hk=>hk)))
           replace HB:=ah.mk (hb)
           have ad6:=ah.mk (ho)
           clear iR
           clear ho hb hg hat
           obtain⟨ZI,ZJ,ad7⟩:=Kd.dW ad6.out
           (first|subst ad7|(injection ad7 with f1_ f2_ f3_;have f4_:=f1_.symm;have f5_:=f3_.symm;clear f1_ f2_ f3_;subst f4_;subst f5_))
           refine hK.out _ _ ⟨(aj lG.out 0).trans rfl,(aj lG.out 1).trans rfl,(aj oO.out 0).trans rfl,(aj oO.out 1).trans rfl,(aj oO.out 2).trans rfl,((HB.out.cell (World.block_lt_of_cell? w _ tH)).trans tH),((HB.out.cell (World.block_lt_of_cell? w _ tJ)).trans tJ)⟩ (fun hHeld=>?_)
           clear hK K
           refine qno 41 rfl ?_
           refine qpu HT_ 23 42 #[true,true,true,true,true,true,true,true,true,true,true,true,true,true,true,true,true,true,true,true,true,true,true,true,false] rfl rfl ?_
           refine acM (i:=24) (N:=none) #[true,true,true,true,true,true,true,true,true,true,true,true,true,true,true,true,true,true,true,true,true,true,true,true,true] rfl rfl (nE HT_.out qz9) (by decide) (fun K hK=>?_)
           have aqV:w30.cell? ⟨oN,1,none⟩=some (u221001):=(aj lG.out 1).trans rfl
           have ai5:=ak lG.out 1
           have ZK:=tC.out
           have ai6:=tF.out
           have ai7:=GD.out
           have ZL:=Ai.out
           have ai8:=Aj.out
           have ai9:=Al.out
           refine acN (w1:=?_) (by rfl) rfl ?_ ?_
           rotate_left
           ·go_simp
            rfl
           refine hK.out _ _ ?_
           clear hK K
           refine xk (oh HT_.out qz9) ?_
           try go_wp2
           go_roundg k1
           case measure=>have:=HK1.out;omega
           case rel=>exact⟨(wrap64 (eO+1)),(ad5),(.slice ZI ad5.length ZJ),iY,H',⟨qz3 HK1⟩,⟨by refine qpr ?_;exact Kd.bS (Kd.bX (p:=⟨oN,1,none⟩) (Kd.cO kS.out lG.out (by decide)) (fun _ hk=>hk.2) (.slice ZI ad5.length ZJ)) (fun _ hk=>trivial)⟩,⟨by refine qpr ?_;exact Kd.bS (Kd.bX (p:=⟨oN,1,none⟩) (Kd.cO ad6.out lG.out (by decide)) (fun _ hk=>hk.2) (.slice ZI ad5.length ZJ)) (fun _ hk=>trivial)⟩,⟨ZM tC mG⟩,⟨ZM tF nL⟩,⟨by refine qpb ?_;refine aW (cs:=#[.slice Ao9 yG.length co9,u221001]) ?_ 1 _ rfl;refine qpb ?_;exact lG.out⟩,⟨Ms HB tu wC EJ UA⟩⟩
          rw[if_neg c22]at H
          exact absurd H (by simp)
         rw[if_neg c21]at H
         exact absurd H (by simp)
        rw[if_neg c20]at H
        exact absurd H (by simp)
       rw[if_neg c19]at H
       exact absurd H (by simp)
      rw[if_neg c18]at H
      exact absurd H (by simp)
     rw[if_neg c17]at H
     exact absurd H (by simp)
    rw[if_neg c16]at H
    exact absurd H (by simp)
   ·rw[if_neg c15]at H
    have Jg:decide (eO<(bf.length:Int))=false:=decide_eq_false c15
    clear c15
    simp only[Option.some.injEq,Prod.mk.injEq]at H
    obtain⟨rfl,rfl⟩:=H
    have adF:=Ai.out
    have adG:=tC.out
    have ZN:=Aj.out
    have ZO:=tF.out
    have sV:wr.cell? ⟨oN,0,none⟩=some (.slice Ao9 yG.length co9):=(aj lG.out 0).trans rfl
    have sW:wr.cell? ⟨oN,1,none⟩=some (u221001):=(aj lG.out 1).trans rfl
    have xD:=ak lG.out 0
    have xE:=ak lG.out 1
    have aja:=Gy.out
    have ajb:=Gx.out
    have ZP:wr.cell? ⟨oM,0,none⟩=some (.slice none 0 0):=(aj nL.out 0).trans rfl
    have ZQ:wr.cell? ⟨oM,1,none⟩=some (.slice none 0 0):=(aj nL.out 1).trans rfl
    have ZR:=ak nL.out 0
    have ZT:=ak nL.out 1
    obtain⟨Tk,Tm,ajc⟩:=Kd.dW iR.out
    subst ajc
    go_wp2
    refine bodyPost_ret (results_cell_row rfl _ _ oM 27 #[.slice Ao9 yG.length co9,.slice Tk mH.length Tm] (0,0) _ rfl (anK nL) Tryz.underlying27 rfl qz9) rfl ?_
    exact⟨_,_,qz7,by refine qpr ?_;exact Kd.bS (Kd.bX (p:=⟨oM,1,none⟩) (Kd.bX (p:=⟨oM,0,none⟩) (Kd.cO kS.out nL.out (by decide)) (fun _ hk=>hk.2) (.slice Ao9 yG.length co9)) (fun _ hk=>hk.2) (.slice Tk mH.length Tm)) (fun _ hk=>trivial),by refine qpr ?_;exact Kd.bS (Kd.bX (p:=⟨oM,1,none⟩) (Kd.bX (p:=⟨oM,0,none⟩) (Kd.cO iR.out nL.out (by decide)) (fun _ hk=>hk.2) (.slice Ao9 yG.length co9)) (fun _ hk=>hk.2) (.slice Tk mH.length Tm)) (fun _ hk=>trivial),wV HB tu wC EJ⟩
end Go.Proofs.YtalkmhnlgfncmaaGreatDoor.X
end
section
/- The program's areMoves over the library's search with a closure: what it answers. Conditions: none. -/
namespace Go.Proofs.YtalkmhnlgfncmaaGreatDoor.X
open Go.RowKit Go.Proofs.YtalkmhnlgfncmaaGreatDoorW.aC Go.Proofs.YtalkmhnlgfncmaaGreatDoorW.aN Go.Proofs.YtalkmhnlgfncmaaGreatDoorW.aT
theorem ou {a b c:World} (h:gQ a b) (k:gQ b c):gQ a c:=by
 obtain⟨m,rfl⟩:=h
 obtain⟨n,rfl⟩:=k
 exact⟨m+n,by simp[World.drewN,Nat.add_assoc]⟩
abbrev ab2:dG:=⟨fun x=>some (!decide (-20≤x∧x≤20))⟩
set_option maxHeartbeats 4000000 in
set_option maxRecDepth 100000 in
theorem ZU (x:Int) (b:Bool) (w:World) (h:aU.f x (-20) 20=some b):Calls Tryz.prog 59 #[.int .i64 x] w fun e w'=>e= .returned (.bool !b)∧gQ w w':=by
 have H:=ah.mk h
 clear h
 have HD:=ah.mk (gQ.refl w)
 go_enter Tryz.func59,Tryz.ntmps59
 go_wp2_with (first
  |(go_at_call 18;(with_reducible refine(aU.calls x (-20) 20 _ _ H.out).mono ?_);rintro e wn ⟨rfl,hb⟩;replace HD:=ah.mk (ou HD.out hb);clear hb))
 go_ret
 exact⟨rfl,HD.out⟩
theorem ad8 (x:Int) (w:World):Calls Tryz.prog 59 #[.int .i64 x] w fun e w'=>e= .returned (.bool (!decide (-20≤x∧x≤20)))∧gQ w w':=
 ZU x _ w (by unfold aU.f;by_cases h:x≥ -20<;>simp[h]<;>omega)
set_option maxHeartbeats 4000000 in
set_option maxRecDepth 100000 in
theorem ad9 (k:Nat) (A:Option Addr) (c:Nat) (l:List Int) (r:Int) (w:World) (hr:Kd.C (Kd.int .i64) w A l.length l) (hc:l.length≤c) (h:@aJ.f ab2 k l 0=some r):
  Calls Tryz.prog 44 #[.slice A l.length c,.func (.func 59) #[] #[]] w fun e w'=>e= .returned (.bool (decide (r≥0)))∧gQ w w':=by
 have H:=ah.mk h
 have HR:=ah.mk hr
 have HC:=ah.mk hc
 clear h hr hc
 have HD:=ah.mk (gQ.refl w)
 go_enter Tryz.func44,Tryz.ntmps44
 go_wp2_with (first
  |(go_at_call 66;refine(@aJ.calls ab2 k A c l 0 r 59 Tryz.f59 #[] ⟨Tryz.func59,rfl,qz9⟩ _ ?hcl HR.out HC.out H.out).mono ?_;(case hcl=>exact fun x r W hx _=>by obtain rfl:=Option.some.inj hx;exact ad8 x W);rintro e wn ⟨rfl,hb⟩;replace HD:=ah.mk (ou HD.out hb);clear hb))
 go_ret
 exact⟨rfl,HD.out⟩
def fH.f (k:Nat) (l:List Int):Option Bool:=(@aJ.f ab2 k l 0).bind fun i=>some (!decide (i≥0))
set_option maxHeartbeats 4000000 in
set_option maxRecDepth 100000 in
theorem fH.calls (k:Nat) (A:Option Addr) (c:Nat) (l:List Int) (r:Bool) (w:World) (hr:Kd.C (Kd.int .i64) w A l.length l) (hc:l.length≤c) (h:fH.f k l=some r):
  Calls Tryz.prog 33 #[.slice A l.length c] w fun e w'=>e= .returned (.bool r)∧gQ w w':=by
 unfold fH.f at h
 obtain⟨i,hi,h⟩:=Option.bind_eq_some_iff.mp h
 obtain rfl:=Option.some.inj h
 have H:=ah.mk hi
 have HR:=ah.mk hr
 have HC:=ah.mk hc
 clear h hr hc hi
 have HD:=ah.mk (gQ.refl w)
 go_enter Tryz.func33,Tryz.ntmps33
 go_wp2_with (first
  |(go_at_call 44;(with_reducible refine(ad9 k A c l i _ HR.out HC.out H.out).mono ?_);rintro e wn ⟨rfl,hb⟩;replace HD:=ah.mk (ou HD.out hb);clear hb))
 go_ret
 exact⟨rfl,HD.out⟩
end Go.Proofs.YtalkmhnlgfncmaaGreatDoor.X
end
section
namespace Go.Proofs.YtalkmhnlgfncmaaGreatDoor.X
open Go.RowKit Go.Proofs.YtalkmhnlgfncmaaGreatDoorW.aC Go.Proofs.YtalkmhnlgfncmaaGreatDoorW.aN Go.Proofs.YtalkmhnlgfncmaaGreatDoorW.aT
attribute [local go_sem] fq fu gJ gK dN dO fA fB
/-! ### impl_IsMove: function 13 -/
def iE.f (k:Nat) (bK:List Int) (bf:List (S40)) (l1:List Int):Option (Bool):=(aX.f k bK bf).bind fun t229=>(if t229=true then(if (l1.length:Int)=(bK.length:Int)then((fH.f k l1).bind fun aea=>(if aea=true then((bI.f k bK bf l1).bind fun Po=>((iW.f k Po.1 Po.2).bind fun aeb=>(some aeb)))else(some false)))else(some false))else(some false))
set_option maxHeartbeats 8000000 in
set_option maxRecDepth 100000 in
theorem iE.calls (k:Nat) (eT:Option Addr) (eG:Nat) (bK:List Int) (fE:Option Addr) (eH:Nat) (bf:List (S40)) (A1:Option Addr) (c1:Nat) (l1:List Int) (r:Bool) (w:World) (lZ:Kd.C (Kd.int .i64) w eT bK.length bK) (nV:bK.length≤eG) (lV:Kd.C k40 w fE bf.length bf) (nJ:bf.length≤eH) (hr1:Kd.C (Kd.int .i64) w A1 l1.length l1) (hc1:l1.length≤c1) (h:iE.f k bK bf l1=some r):
  Calls Tryz.prog 13 #[.agg #[.slice eT bK.length eG,.slice fE bf.length eH],.slice A1 l1.length c1] w fun e w'=>e= .returned (.bool r)∧Below w.heap.size w w':=by
 have Ux:=Tryz.underlying27
 have jT:=ah.mk lZ
 have kg:=ah.mk nV
 clear lZ nV
 have jU:=ah.mk lV
 have kC:=ah.mk nJ
 clear lV nJ
 have HR1:=ah.mk hr1
 have HC1:=ah.mk hc1
 clear hr1 hc1
 have HB:=ah.mk (Below.refl w.heap.size w)
 have H:((aX.f k bK bf).bind fun t229=>(if t229=true then(if (l1.length:Int)=(bK.length:Int)then((fH.f k l1).bind fun aea=>(if aea=true then((bI.f k bK bf l1).bind fun Po=>((iW.f k Po.1 Po.2).bind fun aeb=>(some aeb)))else(some false)))else(some false))else(some false)))=some r:=h
 clear h
 obtain⟨t229,A30,H⟩:=Option.bind_eq_some_iff.mp H
 have A3:=ah.mk A30
 clear A30
 by_cases c4:t229=true
 ·subst c4
  rw[if_pos rfl]at H
  by_cases c5:(l1.length:Int)=(bK.length:Int)
  ·rw[if_pos c5]at H
   have Cx:((l1.length:Int)==(bK.length:Int))=true:=beq_iff_eq.mpr c5
   have ah6:((l1.length:Int)!=(bK.length:Int))=false:=bne_eq_false_iff_eq.mpr c5
   have aqW:(l1.length==bK.length)=true:=by first|simpa using c5|(simp at c5 ⊢;omega)
   clear c5
   obtain⟨aea,A60,H⟩:=Option.bind_eq_some_iff.mp H
   have A6:=ah.mk A60
   clear A60
   by_cases c7:aea=true
   ·subst c7
    rw[if_pos rfl]at H
    obtain⟨⟨anL,t234⟩,A80,H⟩:=Option.bind_eq_some_iff.mp H
    try dsimp only at H
    have A8:=ah.mk A80
    clear A80
    obtain⟨aeb,A90,H⟩:=Option.bind_eq_some_iff.mp H
    have A9:=ah.mk A90
    clear A90
    obtain rfl:=Option.some.inj H
    go_enter Tryz.func13,Tryz.ntmps13
    go_wp2_with (first|((with_reducible refine aH (N:=2) rfl ?_);(try(refine iq (by rfl) ?_;dsimp only));refine qbx (N:=2) (cs:=#[.slice eT bK.length eG,.slice fE bf.length eH]) (t:=27) ?_;intro mP hg w10 bR hb;have jP:=ah.mk (bR);have ZV:=ah.mk ((mK HB:w.heap.size≤mP));have sw:=ah.mk ((mK HB:w.heap.size≤mP));replace HB:=ah.mk (av (qz0 HB) hb);clear hb bR hg;have Ae:w10.cell? ⟨mP,0,none⟩=some (.slice eT bK.length eG):=(aj jP.out 0).trans rfl;have Af:w10.cell? ⟨mP,1,none⟩=some (.slice fE bf.length eH):=(aj jP.out 1).trans rfl;have Ag:=ak jP.out 0;have Ah:=ak jP.out 1)|((with_reducible refine aK (f:=9) rfl ?_);refine dH (some 6) rfl rfl Tryz.func9 qz9 rfl #[.agg #[.slice eT bK.length eG,.slice fE bf.length eH]] rfl jh ?_;(with_reducible refine(aX.calls k _ _ bK _ _ bf true _ ?bT ?bU ?eu ?eF A3.out).mono ?_);(case bT=>exact qz2 jT HB);(case bU=>exact jL kg);(case eu=>exact qz2 jU HB);(case eF=>exact jL kC);rintro e w12 ⟨rfl,hb⟩;refine⟨_,rfl,?_⟩;replace jP:=ah.mk (aA (g:=mP) (o:=.cells #[.slice eT bK.length eG,.slice fE bf.length eH] 27 (0,0)) (dP jP) hb);replace HB:=ah.mk (av (qz4 HB sw) hb);(try clear hb);(try clear hb2);(try clear hk);(try clear hi);have xB:w12.cell? ⟨mP,0,none⟩=some (.slice eT bK.length eG):=(aj jP.out 0).trans rfl;have xC:w12.cell? ⟨mP,1,none⟩=some (.slice fE bf.length eH):=(aj jP.out 1).trans rfl;have OZ:=ak jP.out 0;have Pb:=ak jP.out 1)|(go_at_call 33;(with_reducible refine(fH.calls k _ _ l1 true _ ?bT ?bU A6.out).mono ?_);(case bT=>exact qz2 HR1 HB);(case bU=>exact jL HC1);rintro e w' ⟨rfl,⟨nd,rfl⟩⟩)|(go_at_call 32;(with_reducible refine(bI.calls k _ _ bK _ _ bf _ _ l1 anL t234 _ ?bT ?bU ?eu ?eF ?tK ?tL A8.out).mono ?_);(case bT=>exact UC jT HB sw);(case bU=>exact jL kg);(case eu=>exact UC jU HB sw);(case eF=>exact jL kC);(case tK=>exact UC HR1 HB sw);(case tL=>exact jL HC1);rintro e w14 ⟨v232,auY,rfl,ho0,ho1,hb⟩;have Pp:=ah.mk (Kd.dV ho0 (aG (qz4 HB sw)));have Pq:=ah.mk (Kd.dV ho1 (aG (qz4 HB sw)));replace jP:=ah.mk (aA (g:=mP) (o:=.cells #[.slice eT bK.length eG,.slice fE bf.length eH] 27 (0,0)) (dP jP) hb);replace HB:=ah.mk (av (qz4 HB sw) hb);(try clear hb);(try clear hb2);(try clear hk);(try clear hi);(try clear ho0);(try clear ho1);obtain⟨kV,jM,aec⟩:=Kd.dW Pp.out;subst aec;obtain⟨auZ,au0,aqX⟩:=Kd.dW Pq.out;subst aqX)|(go_at_call 24;(with_reducible refine(iW.calls k _ _ anL _ _ t234 aeb _ ?bT ?bU ?eu ?eF A9.out).mono ?_);(case bT=>exact qO Pp);(case bU=>exact qg Pp);(case eu=>exact qO Pq);(case eF=>exact qg Pq);rintro e w17 ⟨rfl,hb⟩;replace Pp:=ah.mk (Kd.aM (cK Pp) hb);replace Pq:=ah.mk (Kd.aM (cK Pq) hb);replace jP:=ah.mk (aA (g:=mP) (o:=.cells #[.slice eT bK.length eG,.slice fE bf.length eH] 27 (0,0)) (dP jP) hb);replace HB:=ah.mk (av (qz4 HB sw) hb);(try clear hb);(try clear hb2);(try clear hk);(try clear hi)))
    go_ret
    exact⟨qz7,qz4 HB sw⟩
   replace c7:=Bool.eq_false_iff.mpr c7
   subst c7
   rw[if_neg (show ¬(false=true) by decide)]at H
   obtain rfl:=Option.some.inj H
   go_enter Tryz.func13,Tryz.ntmps13
   go_wp2_with (first|((with_reducible refine aH (N:=2) rfl ?_);(try(refine iq (by rfl) ?_;dsimp only));refine qbx (N:=2) (cs:=#[.slice eT bK.length eG,.slice fE bf.length eH]) (t:=27) ?_;intro mP hg w18 bR hb;have jP:=ah.mk (bR);have ZV:=ah.mk ((mK HB:w.heap.size≤mP));have sw:=ah.mk ((mK HB:w.heap.size≤mP));replace HB:=ah.mk (av (qz0 HB) hb);clear hb bR hg;have Ap:w18.cell? ⟨mP,0,none⟩=some (.slice eT bK.length eG):=(aj jP.out 0).trans rfl;have Aq:w18.cell? ⟨mP,1,none⟩=some (.slice fE bf.length eH):=(aj jP.out 1).trans rfl;have Ar:=ak jP.out 0;have Au:=ak jP.out 1)|((with_reducible refine aK (f:=9) rfl ?_);refine dH (some 6) rfl rfl Tryz.func9 qz9 rfl #[.agg #[.slice eT bK.length eG,.slice fE bf.length eH]] rfl jh ?_;(with_reducible refine(aX.calls k _ _ bK _ _ bf true _ ?bT ?bU ?eu ?eF A3.out).mono ?_);(case bT=>exact qz2 jT HB);(case bU=>exact jL kg);(case eu=>exact qz2 jU HB);(case eF=>exact jL kC);rintro e w20 ⟨rfl,hb⟩;refine⟨_,rfl,?_⟩;replace jP:=ah.mk (aA (g:=mP) (o:=.cells #[.slice eT bK.length eG,.slice fE bf.length eH] 27 (0,0)) (dP jP) hb);replace HB:=ah.mk (av (qz4 HB sw) hb);(try clear hb);(try clear hb2);(try clear hk);(try clear hi);have NU:w20.cell? ⟨mP,0,none⟩=some (.slice eT bK.length eG):=(aj jP.out 0).trans rfl;have NV:w20.cell? ⟨mP,1,none⟩=some (.slice fE bf.length eH):=(aj jP.out 1).trans rfl;have NW:=ak jP.out 0;have NY:=ak jP.out 1)|(go_at_call 33;(with_reducible refine(fH.calls k _ _ l1 false _ ?bT ?bU A6.out).mono ?_);(case bT=>exact qz2 HR1 HB);(case bU=>exact jL HC1);rintro e w' ⟨rfl,⟨nd,rfl⟩⟩))
   go_ret
   exact⟨qz7,qz4 HB sw⟩
  rw[if_neg c5]at H
  have Cx:((l1.length:Int)==(bK.length:Int))=false:=beq_eq_false_iff_ne.mpr c5
  have ah6:((l1.length:Int)!=(bK.length:Int))=true:=bne_iff_ne.mpr c5
  have aqW:(l1.length==bK.length)=false:=by first|simpa using c5|(simp at c5 ⊢;omega)
  obtain rfl:=Option.some.inj H
  go_enter Tryz.func13,Tryz.ntmps13
  go_wp2_with (first|((with_reducible refine aH (N:=2) rfl ?_);(try(refine iq (by rfl) ?_;dsimp only));refine qbx (N:=2) (cs:=#[.slice eT bK.length eG,.slice fE bf.length eH]) (t:=27) ?_;intro mP hg w22 bR hb;have jP:=ah.mk (bR);have ZV:=ah.mk ((mK HB:w.heap.size≤mP));have sw:=ah.mk ((mK HB:w.heap.size≤mP));replace HB:=ah.mk (av (qz0 HB) hb);clear hb bR hg;have oK:w22.cell? ⟨mP,0,none⟩=some (.slice eT bK.length eG):=(aj jP.out 0).trans rfl;have oL:w22.cell? ⟨mP,1,none⟩=some (.slice fE bf.length eH):=(aj jP.out 1).trans rfl;have qG:=ak jP.out 0;have qH:=ak jP.out 1)|((with_reducible refine aK (f:=9) rfl ?_);refine dH (some 6) rfl rfl Tryz.func9 qz9 rfl #[.agg #[.slice eT bK.length eG,.slice fE bf.length eH]] rfl jh ?_;(with_reducible refine(aX.calls k _ _ bK _ _ bf true _ ?bT ?bU ?eu ?eF A3.out).mono ?_);(case bT=>exact qz2 jT HB);(case bU=>exact jL kg);(case eu=>exact qz2 jU HB);(case eF=>exact jL kC);rintro e w24 ⟨rfl,hb⟩;refine⟨_,rfl,?_⟩;replace jP:=ah.mk (aA (g:=mP) (o:=.cells #[.slice eT bK.length eG,.slice fE bf.length eH] 27 (0,0)) (dP jP) hb);replace HB:=ah.mk (av (qz4 HB sw) hb);(try clear hb);(try clear hb2);(try clear hk);(try clear hi);have Eb:w24.cell? ⟨mP,0,none⟩=some (.slice eT bK.length eG):=(aj jP.out 0).trans rfl;have Ec:w24.cell? ⟨mP,1,none⟩=some (.slice fE bf.length eH):=(aj jP.out 1).trans rfl;have Ee:=ak jP.out 0;have Ef:=ak jP.out 1))
  go_ret
  exact⟨qz7,qz4 HB sw⟩
 ·replace c4:=Bool.eq_false_iff.mpr c4
  subst c4
  rw[if_neg (show ¬(false=true) by decide)]at H
  obtain rfl:=Option.some.inj H
  go_enter Tryz.func13,Tryz.ntmps13
  go_wp2_with (first|((with_reducible refine aH (N:=2) rfl ?_);(try(refine iq (by rfl) ?_;dsimp only));refine qbx (N:=2) (cs:=#[.slice eT bK.length eG,.slice fE bf.length eH]) (t:=27) ?_;intro mP hg w26 bR hb;have jP:=ah.mk (bR);have ZV:=ah.mk ((mK HB:w.heap.size≤mP));have sw:=ah.mk ((mK HB:w.heap.size≤mP));replace HB:=ah.mk (av (qz0 HB) hb);clear hb bR hg;have Ey:w26.cell? ⟨mP,0,none⟩=some (.slice eT bK.length eG):=(aj jP.out 0).trans rfl;have Ez:w26.cell? ⟨mP,1,none⟩=some (.slice fE bf.length eH):=(aj jP.out 1).trans rfl;have Pm:=ak jP.out 0;have Pn:=ak jP.out 1)|((with_reducible refine aK (f:=9) rfl ?_);refine dH (some 6) rfl rfl Tryz.func9 qz9 rfl #[.agg #[.slice eT bK.length eG,.slice fE bf.length eH]] rfl jh ?_;(with_reducible refine(aX.calls k _ _ bK _ _ bf false _ ?bT ?bU ?eu ?eF A3.out).mono ?_);(case bT=>exact qz2 jT HB);(case bU=>exact jL kg);(case eu=>exact qz2 jU HB);(case eF=>exact jL kC);rintro e w28 ⟨rfl,hb⟩;refine⟨_,rfl,?_⟩;replace jP:=ah.mk (aA (g:=mP) (o:=.cells #[.slice eT bK.length eG,.slice fE bf.length eH] 27 (0,0)) (dP jP) hb);replace HB:=ah.mk (av (qz4 HB sw) hb);(try clear hb);(try clear hb2);(try clear hk);(try clear hi)))
  go_ret
  exact⟨qz7,qz4 HB sw⟩
end Go.Proofs.YtalkmhnlgfncmaaGreatDoor.X
end
section
namespace Go.Proofs.YtalkmhnlgfncmaaGreatDoor.X
open Go.RowKit Go.Proofs.YtalkmhnlgfncmaaGreatDoorW.aC Go.Proofs.YtalkmhnlgfncmaaGreatDoorW.aN Go.Proofs.YtalkmhnlgfncmaaGreatDoorW.aT
attribute [local go_sem] fq fu gJ gK dN dO fA fB
/-! ### slices_Max_int64_int64: function 35 -/
def bD.l0:Nat→List Int→Int→Int→Option (Int)
 |0,_,_,_=>none
 |k+1,x0,x3,x4=>if x4<(x0.length:Int)then(if 0≤x4 then(bD.l0 k x0 (mx x3 (rd x0 x4)) (wrap64 (x4+1)))else(none))else(some x3)
def bD.f (k:Nat) (l0:List Int):Option (Int):=if (l0.length:Int)<1 then(none)else(if 0<(l0.length:Int)then(bD.l0 k l0 (rd l0 0) 1)else(none))
set_option maxHeartbeats 8000000 in
set_option maxRecDepth 100000 in
theorem bD.calls (k:Nat) (A0:Option Addr) (c0:Nat) (l0:List Int) (r:Int) (w:World) (hr0:Kd.C (Kd.int .i64) w A0 l0.length l0) (hc0:l0.length≤c0) (h:bD.f k l0=some r):
  Calls Tryz.prog 35 #[.slice A0 l0.length c0] w fun e w'=>e= .returned (.int .i64 r)∧Below w.heap.size w w':=by
 have HR0:=ah.mk hr0
 have HC0:=ah.mk hc0
 clear hr0 hc0
 have HB:=ah.mk (Below.refl w.heap.size w)
 have H:(if (l0.length:Int)<1 then(none)else(if 0<(l0.length:Int)then(bD.l0 k l0 (rd l0 0) 1)else(none)))=some r:=h
 clear h
 by_cases c2:(l0.length:Int)<1
 ·rw[if_pos c2]at H
  exact absurd H (by simp)
 ·rw[if_neg c2]at H
  have ajd:decide ((l0.length:Int)<1)=false:=decide_eq_false c2
  have aqY:decide (l0.length<1)=false:=decide_eq_false (by omega)
  clear c2
  by_cases c3:0<(l0.length:Int)
  ·rw[if_pos c3]at H
   have Cy:decide (0<(l0.length:Int))=true:=decide_eq_true c3
   have Ww:decide (0<l0.length)=true:=decide_eq_true (by omega)
   clear c3
   have H':=ah.mk H
   clear H
   have agh:0≤(0:Int):=(by omega)
   have agi:0<(l0.length:Int):=of_decide_eq_true gN
   obtain⟨aje,e238,JD⟩:=Kd.iC HR0.out 0 agh agi
   cases e238
   have aqZ:(0<l0.length)=True:=eq_true (by omega)
   (try rw[show ((0:Int)).toNat=0 from rfl]at JD)
   (try rw[Addr.add_zero']at JD)
   replace agh:=eq_true agh
   replace agi:=eq_true agi
   go_enter Tryz.func35,Tryz.ntmps35
   go_wp2
   go_loopg [3,4] k (fun kq v3 v4 w'=>∃ (FQ:Int) (wD:Int),v3= .int .i64 FQ∧v4= .int .i64 wD∧ah (bD.l0 kq l0 FQ wD=some r)∧ah (kq≤k)∧ah (Below w.heap.size w w'))
   case atStart=>exact⟨(rd l0 0),(1),iY,iY,H',⟨Nat.le_refl _⟩,⟨qz0 HB⟩⟩
   case round=>
    clear H'
    try clear c2
    try clear ajd
    try clear aqY
    try clear p2
    try clear q2
    try clear hx2
    try clear qi2
    try clear c3
    try clear Cy
    try clear Ww
    try clear JD
    try clear agh
    try clear agi
    obtain⟨FQ,wD,rfl,rfl,HA,HK1,HB⟩:=hrel
    cases gk with
    |zero=>exact absurd HA.out (by simp[bD.l0])
    |succ k1=>
     have H:=HA.out
     clear HA
     simp only[bD.l0]at H
     by_cases c4:wD<(l0.length:Int)
     ·rw[if_pos c4]at H
      have Il:decide (wD<(l0.length:Int))=true:=decide_eq_true c4
      clear c4
      by_cases c5:0≤wD
      ·rw[if_pos c5]at H
       have Cx:decide (0≤wD)=true:=decide_eq_true c5
       clear c5
       obtain⟨ji6,agj⟩:∃ j_:Int,(mx FQ (rd l0 wD))=j_:=⟨_,rfl⟩
       replace H:(bD.l0 k1 l0 ji6 (wrap64 (wD+1)))=some r:=by first|(rw[agj]at H;exact H)|(simp only[agj]at H ⊢;exact H)
       have aq0:(if FQ<(rd l0 wD)then(rd l0 wD)else FQ)=ji6:=agj
       have H':=ah.mk H
       clear H
       have ajf:0≤(wD:Int):=of_decide_eq_true gN
       have ajg:wD<(l0.length:Int):=of_decide_eq_true gN
       obtain⟨ajh,aq1,JE⟩:=Kd.iC HR0.out wD ajf ajg
       obtain rfl:aje=ajh:=(by injection aq1)
       replace JE:=(HB.out.cell (World.block_lt_of_cell? w _ JE)).trans JE
       replace ajf:=eq_true ajf
       replace ajg:=eq_true ajg
       go_wp2
       go_roundg k1
       case measure=>have:=HK1.out;omega
       case rel=>exact⟨(ji6),(wrap64 (wD+1)),(by first|rfl|(simp;done)|(simp only[← agj]<;>(first|rfl|simp))|(simp[*];done)),iY,H',⟨qz3 HK1⟩,⟨qz0 HB⟩⟩
      rw[if_neg c5]at H
      exact absurd H (by simp)
     ·rw[if_neg c4]at H
      have Il:decide (wD<(l0.length:Int))=false:=decide_eq_false c4
      clear c4
      obtain rfl:=Option.some.inj H
      go_wp2
      go_ret
      exact⟨qz7,qz0 HB⟩
  rw[if_neg c3]at H
  exact absurd H (by simp)
end Go.Proofs.YtalkmhnlgfncmaaGreatDoor.X
end
section
/- The program's movesFor: its rounds. Conditions: as each lemma says. -/
namespace Go.Proofs.YtalkmhnlgfncmaaGreatDoor.X
open Go.RowKit Go.Proofs.YtalkmhnlgfncmaaGreatDoorW.aC Go.Proofs.YtalkmhnlgfncmaaGreatDoorW.aN Go.Proofs.YtalkmhnlgfncmaaGreatDoorW.aT
def Av (w:S40) (s:MC):MC:=qx s w.f1.toNat (wrap64 (rd s.1 w.f0 - w.f2))
def mwN (ws:List S40) (s:MC):Nat→MC
 |0=>s
 |j+1=>Av (au ws (j:Int)) (mwN ws s j)
def Aw (P:Int) (i j:Nat) (x:S68) (s:MC):MC:=if x.f2=true then(if x.f1>P then qx s j (wrap64 (wrap64 (rd s.1 (i:Int) - x.f0)+1))else s)else s
def mpN (P:Int) (i:Nat) (row:List S68) (s:MC):Nat→MC
 |0=>s
 |j+1=>Aw P i j (pU row (j:Int)) (mpN P i row s j)
def mrN (P:Int) (n:Nat) (rows:List (List S68)) (s:MC):Nat→MC
 |0=>s
 |i+1=>mpN P i (nT rows (i:Int)) (mrN P n rows s i) n
def lH (P:Int) (n:Nat) (ws:List S40) (rows:List (List S68)) (m:List Int):MC:=mrN P n rows (mwN ws (m,false) ws.length) n
def mvF (K:Nat) (P:Int) (n:Nat) (d:List Int) (ws:List S40) (rows:List (List S68)):Nat→List Int→Option (List Int×Bool)
 |0,_=>some ([],false)
 |e+1,m=>if (lH P n ws rows m).2=true then mvF K P n d ws rows e (lH P n ws rows m).1 else(iE.f K d ws (lH P n ws rows m).1).bind fun b=>some ((lH P n ws rows m).1,b)
theorem Di (s:MC) (i:Nat) (x:Int):(qx s i x).1.length=s.1.length:=by unfold qx;split<;>simp
structure MvA (w0:World) (fl:Array Value) (n g1 g8 g9 gm cm:Nat) (s:MC) (w:World):Prop where
 b1:w.heap[g1]?=some (.cells fl 27 (0,0))
 mv:MvW w0.heap.size n w g8 g9 gm cm s
 bel:Below w0.heap.size w0 w
variable {w0 w w1:World} {fl:Array Value} {n g1 g8 g9 gm cm:Nat} {s s':MC}
theorem MvA.move (h:MvA w0 fl n g1 g8 g9 gm cm s w) (hb:Below w.heap.size w w1):MvA w0 fl n g1 g8 g9 gm cm s w1:=
 ⟨aA h.b1 hb,h.mv.move hb,av h.bel hb⟩
theorem MvA.other (h:MvA w0 fl n g1 g8 g9 gm cm s w) (hp:OJ w0.heap.size n w g8 g9 gm cm s' w1) {g:Nat} {cs:Array Value} {t:TypeId} (hg:w.heap[g]?=some (.cells cs t (0,0))) (h1:t≠4) (h2:t≠2):w1.heap[g]?=some (.cells cs t (0,0)):=
 uN hg hp.2.2 (by
  rintro(e|e)
  ·obtain⟨cells,q⟩:=h.mv.typ;exact jq hg q h2 e
  exact jq hg h.mv.b9 h1 e)
theorem MvA.Wx (h:MvA w0 fl n g1 g8 g9 gm cm s w) (hp:OJ w0.heap.size n w g8 g9 gm cm s' w1):MvA w0 fl n g1 g8 g9 gm cm s' w1:=
 ⟨h.other hp h.b1 (by decide) (by decide),hp.1,h.bel.trans hp.2.1⟩
theorem aed {w0:World} {g8 g1:Nat} {v1 v2 v3:Value} (l8:g8<w0.heap.size) (l1:g1<w0.heap.size) {W W':World} (h:W.cell? ⟨g8,0,none⟩=some v1∧W.cell? ⟨g1,0,none⟩=some v2∧W.cell? ⟨g1,1,none⟩=some v3∧Below w0.heap.size w0 W) (hb:Below W.heap.size W W'):
  W'.cell? ⟨g8,0,none⟩=some v1∧W'.cell? ⟨g1,0,none⟩=some v2∧W'.cell? ⟨g1,1,none⟩=some v3∧Below w0.heap.size w0 W':=
 have hsz:w0.heap.size≤W.heap.size:=aG h.2.2.2
 ⟨(hb.cell (p:=⟨g8,0,none⟩) (Nat.lt_of_lt_of_le l8 hsz)).trans h.1,(hb.cell (p:=⟨g1,0,none⟩) (Nat.lt_of_lt_of_le l1 hsz)).trans h.2.1,(hb.cell (p:=⟨g1,1,none⟩) (Nat.lt_of_lt_of_le l1 hsz)).trans h.2.2.1,av h.2.2.2 hb⟩
set_option maxHeartbeats 16000000 in
set_option maxRecDepth 100000 in
theorem ZW (A0:Option Addr) (c0:Nat) (d:List Int) (A1:Option Addr) (c1:Nat) (ws:List S40) (P:Int) (A2:Option Addr) (c2:Nat) (rows:List (List S68)) (n m:Nat) (hn0:n=d.length) (hm0:m=ws.length) (anM:n=rows.length) (aee:∀ i:Nat,i<n→(nT rows (i:Int)).length=n) (hdc:n≤c0) (hmc:m≤c1) (h1:1≤n) (hn:n≤1000000) (hm:m≤1000000) (hw:∀ j:Nat,j<m→jg n (au ws (j:Int))) (w:World)
  (hr0:Kd.C (Kd.int .i64) w A0 n d) (hr1:Kd.C k40 w A1 m ws) (hr2:Kd.C (Kd.slice 68 k68) w A2 n rows) (K:Nat) (mx:Int) (hmx:bD.f K d=some mx) (r1:List Int) (r2:Bool)
  (hR:(if mx>P then some (([]:List Int),false)else mvF K P n d ws rows (n+1) (List.replicate n 0))=some (r1,r2)):
  Calls Tryz.prog 19 #[.agg #[.slice A0 n c0,.slice A1 m c1],.int .i64 P,.slice A2 n c2] w fun e w'=>∃ v:Value,e= .returned (.tuple #[v,.bool r2])∧Kd.R (Kd.int .i64) 2 w' w.heap.size (fun _=>True) v r1∧Below w.heap.size w w':=by
 have HR0:=ah.mk hr0
 have HR1:=ah.mk hr1
 have HR2:=ah.mk hr2
 have HW:=ah.mk hw
 have HN0:=ah.mk hn0
 have HM0:=ah.mk hm0
 have HRN:=ah.mk anM
 have HCO:=ah.mk aee
 have HRR:=ah.mk hR
 have HMX:=ah.mk hmx
 have HDC:=ah.mk hdc
 have HMC:=ah.mk hmc
 clear hr0 hr1 hr2 hw hm0 hn0 hR anM aee hmx hdc hmc
 have HB:=ah.mk (Below.refl w.heap.size w)
 have hmk:decide (0≤(n:Int))=true:=decide_eq_true (by omega)
 have wn1:IntKind.i64.wrap ((n:Int)+1)=(n:Int)+1:=IntWalk.i64_in _ ⟨by omega,by omega⟩
 cases hP:decide (P<mx)with
 |true=>
  have HE:ah (r1=[]∧r2=false):=⟨by have h:=HRR.out;rw[if_pos (of_decide_eq_true hP)]at h;injection h with h;injection h with h3 h4;exact⟨h3.symm,h4.symm⟩⟩
  clear HRR
  go_enter Tryz.func19,Tryz.ntmps19
  go_wp2_with (first
   |((with_reducible refine aH (N:=3) rfl ?_);refine qbx (N:=3) (cs:=#[.slice A0 n c0,.slice A1 m c1]) (t:=27) ?_;intro g1 hg wn bR hb;clear hg;have BK1:=ah.mk bR;replace HB:=ah.mk (av HB.out hb);clear hb bR;have oI:wn.cell? ⟨g1,0,none⟩=some (.slice A0 n c0):=(aj BK1.out 0).trans rfl)
   |((with_reducible refine aH (N:=20) rfl ?_);refine Kd.FW (Kd.int .i64) _ 2 rfl (N:=20) rfl 24 _ _ rfl (n:Int) rfl rfl Tryz.underlying24 (.int .i64 0) 8 sS rfl (by decide) (by omega) 0 (ok:=fun _=>True) (okp:=fun _=>True) rfl (fun _ hk=>hk) trivial (by omega) (by omega) (Below.refl _ _) (Nat.le_refl _) ?_;intro v20 w4 ho5 hb hg_ lF;clear hg_ lF;rw[Int.toNat_natCast]at ho5;obtain⟨gm,cm,hv,_,_,_⟩:=Kd.zw ho5 (by rw[List.length_replicate];omega);rw[List.length_replicate]at hv;subst hv;have HO:=ah.mk (Kd.dV ho5 (aG HB.out));replace HB:=ah.mk (av HB.out hb);replace BK1:=ah.mk (aA BK1.out hb);clear hb ho5 oI)
   |((with_reducible refine aH (N:=8) rfl ?_);refine qbx (N:=8) (cs:=#[.slice none 0 0]) (t:=24) ?_;intro g8 hg wn8 bR hb;have GE8:=ah.mk (xu HB:w.heap.size≤g8);clear hg;have BK8:=ah.mk bR;have n0_:=ah.mk (av HB.out hb);have n1_:=ah.mk (aA BK1.out hb);have n2_:=ah.mk (Kd.aM HO.out hb);clear HB BK1 HO hb bR;have ab3:wn8.cell? ⟨g8,0,none⟩=some (.slice none 0 0):=(aj BK8.out 0).trans rfl;have z8:=ak BK8.out 0;have HB:=ah.mk (n0_.out.setCell (p:=⟨g8,0,none⟩) GE8.out (.slice (some ⟨gm,0,none⟩) n cm));have BK1:=ah.mk (dJ n1_.out (p:=⟨g8,0,none⟩) (jq n1_.out BK8.out (by decide)) (.slice (some ⟨gm,0,none⟩) n cm));have HO:=ah.mk (Kd.bS (Kd.bX (p:=⟨g8,0,none⟩) (Kd.cO n2_.out BK8.out (by decide)) (fun _ hk=>hk.2) (.slice (some ⟨gm,0,none⟩) n cm)) (ok':=fun _=>True) (fun _ _=>trivial));have P8:=ah.mk (aW BK8.out 0 (.slice (some ⟨gm,0,none⟩) n cm) rfl);clear n0_ n1_ n2_ BK8;have oI:(wn8.setCell ⟨g8,0,none⟩ (.slice (some ⟨gm,0,none⟩) n cm)).cell? ⟨g1,0,none⟩=some (.slice A0 n c0):=(aj BK1.out 0).trans rfl)
   |(go_at_call 35;have T:=bD.calls K A0 c0 d mx (wn8.setCell ⟨g8,0,none⟩ (.slice (some ⟨gm,0,none⟩) n cm)) (by rw[← HN0.out];exact Kd.gX HR0.out HB.out) (by rw[← HN0.out];exact HDC.out) HMX.out;rw[← HN0.out]at T;refine T.mono ?_;clear T;rintro e wz ⟨rfl,hb⟩;replace HB:=ah.mk (av HB.out hb);replace BK1:=ah.mk (aA BK1.out hb);replace HO:=ah.mk (Kd.aM HO.out hb);replace P8:=ah.mk (aA P8.out hb);clear hb oI ab3 z8;have ab3:wz.cell? ⟨g8,0,none⟩=some (.slice (some ⟨gm,0,none⟩) n cm):=(aj P8.out 0).trans rfl))
  go_ret2
  obtain⟨e1,e2⟩:=HE.out
  subst e1 e2
  exact⟨_,rfl,Kd.Cq _ _ _ _ _,HB.out⟩
 |false=>
  have HRE:ah (mvF K P n d ws rows (n+1) (List.replicate n 0)=some (r1,r2)):=⟨by have h:=HRR.out;rw[if_neg (of_decide_eq_false hP)]at h;exact h⟩
  clear HRR
  go_enter Tryz.func19,Tryz.ntmps19
  go_wp2_with (first
   |((with_reducible refine aH (N:=3) rfl ?_);refine qbx (N:=3) (cs:=#[.slice A0 n c0,.slice A1 m c1]) (t:=27) ?_;intro g1 hg wn bR hb;clear hg;have BK1:=ah.mk bR;replace HB:=ah.mk (av HB.out hb);clear hb bR;have oI:wn.cell? ⟨g1,0,none⟩=some (.slice A0 n c0):=(aj BK1.out 0).trans rfl)
   |((with_reducible refine aH (N:=20) rfl ?_);refine Kd.FW (Kd.int .i64) _ 2 rfl (N:=20) rfl 24 _ _ rfl (n:Int) rfl rfl Tryz.underlying24 (.int .i64 0) 8 sS rfl (by decide) (by omega) 0 (ok:=fun _=>True) (okp:=fun _=>True) rfl (fun _ hk=>hk) trivial (by omega) (by omega) (Below.refl _ _) (Nat.le_refl _) ?_;intro v20 w4 ho5 hb hg_ lF;clear hg_ lF;rw[Int.toNat_natCast]at ho5;obtain⟨gm,cm,hv,_,_,_⟩:=Kd.zw ho5 (by rw[List.length_replicate];omega);rw[List.length_replicate]at hv;subst hv;have HO:=ah.mk (Kd.dV ho5 (aG HB.out));replace HB:=ah.mk (av HB.out hb);replace BK1:=ah.mk (aA BK1.out hb);clear hb ho5 oI)
   |((with_reducible refine aH (N:=8) rfl ?_);refine qbx (N:=8) (cs:=#[.slice none 0 0]) (t:=24) ?_;intro g8 hg wn8 bR hb;have GE8:=ah.mk (xu HB:w.heap.size≤g8);clear hg;have BK8:=ah.mk bR;have n0_:=ah.mk (av HB.out hb);have n1_:=ah.mk (aA BK1.out hb);have n2_:=ah.mk (Kd.aM HO.out hb);clear HB BK1 HO hb bR;have ab3:wn8.cell? ⟨g8,0,none⟩=some (.slice none 0 0):=(aj BK8.out 0).trans rfl;have z8:=ak BK8.out 0;have HB:=ah.mk (n0_.out.setCell (p:=⟨g8,0,none⟩) GE8.out (.slice (some ⟨gm,0,none⟩) n cm));have BK1:=ah.mk (dJ n1_.out (p:=⟨g8,0,none⟩) (jq n1_.out BK8.out (by decide)) (.slice (some ⟨gm,0,none⟩) n cm));have HO:=ah.mk (Kd.bS (Kd.bX (p:=⟨g8,0,none⟩) (Kd.cO n2_.out BK8.out (by decide)) (fun _ hk=>hk.2) (.slice (some ⟨gm,0,none⟩) n cm)) (ok':=fun _=>True) (fun _ _=>trivial));have P8:=ah.mk (aW BK8.out 0 (.slice (some ⟨gm,0,none⟩) n cm) rfl);clear n0_ n1_ n2_ BK8;have oI:(wn8.setCell ⟨g8,0,none⟩ (.slice (some ⟨gm,0,none⟩) n cm)).cell? ⟨g1,0,none⟩=some (.slice A0 n c0):=(aj BK1.out 0).trans rfl)
   |(go_at_call 35;have T:=bD.calls K A0 c0 d mx (wn8.setCell ⟨g8,0,none⟩ (.slice (some ⟨gm,0,none⟩) n cm)) (by rw[← HN0.out];exact Kd.gX HR0.out HB.out) (by rw[← HN0.out];exact HDC.out) HMX.out;rw[← HN0.out]at T;refine T.mono ?_;clear T;rintro e wz ⟨rfl,hb⟩;replace HB:=ah.mk (av HB.out hb);replace BK1:=ah.mk (aA BK1.out hb);replace HO:=ah.mk (Kd.aM HO.out hb);replace P8:=ah.mk (aA P8.out hb);clear hb oI ab3 z8;have ab3:wz.cell? ⟨g8,0,none⟩=some (.slice (some ⟨gm,0,none⟩) n cm):=(aj P8.out 0).trans rfl))
  go_loopg [29] (n+1) (fun kq v29 w'=>∃ (i:Nat) (mv:List Int),v29= .int .i64 i∧ah (i+kq=n+1)∧ah (mvF K P n d ws rows kq mv=some (r1,r2))∧ah (w'.heap[g1]?=some (.cells #[.slice A0 n c0,.slice A1 m c1] 27 (0,0)))∧ah (w'.heap[g8]?=some (.cells #[.slice (some ⟨gm,0,none⟩) n cm] 24 (0,0)))∧ah (Kd.R (Kd.int .i64) 2 w' w.heap.size (fun _=>True) (.slice (some ⟨gm,0,none⟩) n cm) mv)∧ah (Below w.heap.size w w'))
  case atStart=>exact⟨0,_,Db,⟨by omega⟩,HRE,BK1,P8,HO,HB⟩
  case round=>
   clear HRE BK1 P8 HO HB ab3
   obtain⟨i,mv,rfl,HI,HF,BK1,P8,HO,HB⟩:=hrel
   by_cases hlt:i<n+1
   ·cases gk with
    |zero=>have:=HI.out;omega
    |succ gq=>
    have f1:decide ((i:Int)<(n:Int)+1)=true:=decide_eq_true (by omega)
    go_wp2_with (first
     |((with_reducible refine aH (N:=9) rfl ?_);refine qbx (N:=9) (cs:=#[.bool false]) (t:=4) ?_;intro g9 hg wn bR hb;have GE9:=ah.mk (xu HB:w.heap.size≤g9);clear hg;have HS:=ah.mk (show MvA w #[.slice A0 n c0,.slice A1 m c1] n g1 g8 g9 gm cm (mv,false) wn from⟨aA BK1.out hb,⟨aA P8.out hb,Kd.aM HO.out hb,bR,GE8.out,GE9.out⟩,av HB.out hb⟩);clear BK1 P8 HO HB hb bR;have c9:wn.cell? ⟨g9,0,none⟩=some (.bool false):=(aj HS.out.mv.b9 0).trans rfl;have z9:=ak HS.out.mv.b9 0;have uV:(wn.setCell ⟨g9,0,none⟩ (.bool false)).cell? ⟨g1,1,none⟩=some (.slice A1 m c1):=(aj (dJ HS.out.b1 (p:=⟨g9,0,none⟩) (jq HS.out.b1 HS.out.mv.b9 (by decide)) (.bool false)) 1).trans rfl))
    have HS1:=ah.mk (show MvA w #[.slice A0 n c0,.slice A1 m c1] n g1 g8 g9 gm cm (mv,false) (wn.setCell ⟨g9,0,none⟩ (.bool false)) from⟨dJ HS.out.b1 (p:=⟨g9,0,none⟩) (jq HS.out.b1 HS.out.mv.b9 (by decide)) _,HS.out.mv.flag false,HS.out.bel.setCell GE9.out _⟩)
    clear HS c9 z9 uV
    generalize wn.setCell ⟨g9,0,none⟩ (.bool false)=W1 at HS1 ⊢
    go_loopg [35] m (fun kq v35 w'=>∃ j:Nat,v35= .int .i64 j∧ah (j+kq=m)∧ah (MvA w #[.slice A0 n c0,.slice A1 m c1] n g1 g8 g9 gm cm (mwN ws (mv,false) j) w'))
    case atStart=>exact⟨0,Db,⟨by omega⟩,HS1⟩
    case round=>
     clear HS1
     obtain⟨j,rfl,HJ,HS⟩:=hrel
     by_cases hlj:j<m
     ·cases gk with
      |zero=>have:=HJ.out;omega
      |succ gq2=>
      obtain⟨ad,hA,x0,x1,x2⟩:=kH (Kd.gX HR1.out HS.out.bel) (j:Int) (by omega) (by omega)
      cases hA
      rw[Int.toNat_natCast]at x0 x1 x2
      obtain⟨o0,o1,o2,o3⟩:=HW.out j hlj
      have HX:ah (mwN ws (mv,false) (j+1)=Av (au ws (j:Int)) (mwN ws (mv,false) j)):=⟨rfl⟩
      obtain⟨S,hS⟩:∃ S,S=mwN ws (mv,false) j:=⟨_,rfl⟩
      rw[← hS]at HS HX
      clear hS
      obtain⟨el,hel⟩:∃ el,el=au ws (j:Int):=⟨_,rfl⟩
      rw[← hel]at x0 x1 x2 o0 o1 o2 o3 HX
      clear hel
      obtain⟨a,ha⟩:∃ a:Nat,el.f0=a:=⟨el.f0.toNat,by omega⟩
      obtain⟨b,hb⟩:∃ b:Nat,el.f1=b:=⟨el.f1.toNat,by omega⟩
      obtain⟨f0,f1',f2⟩:=el
      simp only at x0 x1 x2 o0 o1 o2 o3 ha hb
      subst ha
      subst hb
      have hi0:a<n:=by omega
      have hi1:b<n:=by omega
      have p0:(0≤(a:Int))=True:=eq_true (by omega)
      have p1:((a:Int)<(n:Int))=True:=eq_true (by omega)
      have p2:(0≤(j:Int))=True:=eq_true (by omega)
      have p3:((j:Int)<(m:Int))=True:=eq_true (by omega)
      have wj:IntKind.i64.wrap ((j:Int)+1)=(j:Int)+1:=IntWalk.i64_in _ ⟨by omega,by omega⟩
      go_wp2_with ((with_reducible refine aH (N:=12) rfl ?_);refine qbx (N:=12) (cs:=#[.int .i64 0,.int .i64 0,.int .i64 0]) (t:=40) ?_;intro g7 hg wn bR hb7;have B7:=ah.mk bR;have HB7:=ah.mk hb7;have GE7:=ah.mk (show wr.heap.size≤g7 from Mi);clear hg hb7 bR;have adb:=ak B7.out 0;have ade:=ak B7.out 1;have adf:=ak B7.out 2;have adg:wn.cell? ⟨g7,0,none⟩=some (.int .i64 0):=(aj B7.out 0).trans rfl;have adh:wn.cell? ⟨g7,1,none⟩=some (.int .i64 0):=(aj B7.out 1).trans rfl;have adi:wn.cell? ⟨g7,2,none⟩=some (.int .i64 0):=(aj B7.out 2).trans rfl)
      have p7:=ah.mk (aW (cs':=#[.int .i64 (a:Int),.int .i64 (b:Int),.int .i64 f2]) (aW (cs':=#[.int .i64 (a:Int),.int .i64 (b:Int),.int .i64 0]) (aW (cs':=#[.int .i64 (a:Int),.int .i64 0,.int .i64 0]) B7.out 0 (.int .i64 (a:Int)) rfl) 1 (.int .i64 (b:Int)) rfl) 2 (.int .i64 f2) rfl)
      have HA:=ah.mk (HS.out.move (bF (j:=2) (v:=.int .i64 f2) (bF (j:=1) (v:=.int .i64 (b:Int)) (bF (j:=0) (v:=.int .i64 (a:Int)) HB7.out GE7.out) GE7.out) GE7.out))
      clear adg adh adi adb ade adf B7 HB7 GE7 HS x0 x1 x2
      generalize ((wn.setCell ⟨g7,0,none⟩ (.int .i64 (a:Int))).setCell ⟨g7,1,none⟩ (.int .i64 (b:Int))).setCell ⟨g7,2,none⟩ (.int .i64 f2)=W5 at p7 HA ⊢
      have Td:W5.cell? ⟨g7,0,none⟩=some (.int .i64 (a:Int)):=(aj p7.out 0).trans rfl
      have Te:W5.cell? ⟨g7,1,none⟩=some (.int .i64 (b:Int)):=(aj p7.out 1).trans rfl
      have Tf:W5.cell? ⟨g7,2,none⟩=some (.int .i64 f2):=(aj p7.out 2).trans rfl
      have aji:=HA.out.mv.c8
      obtain⟨km,zm⟩:=HA.out.mv.cel a hi0
      clear zm
      go_still_tail 11,qz9
      change wpList _ _ _ _ _ W5.drew
      go_wp2_with ((with_reducible refine aH (N:=50) rfl ?_);(refine xY (some 50) rfl rfl Tryz.func36 rfl qz9 #[.int .i64 (b:Int),.int .i64 (wrap64 (rd S.1 (a:Int) - f2))] rfl rfl (by simp[Act.eval,Act.put,IntWalk.i64_left]) ?_;refine(KY b (wrap64 (rd S.1 (a:Int) - f2)) hi1 hn HA.out.mv.drew).mono ?_;rintro e w2 ⟨rfl,hp⟩;refine⟨_,rfl,?_⟩;replace HA:=ah.mk ((HA.out.move (bG (Below.refl _ _))).Wx hp);clear p7 hp Td Te Tf aji km))
      go_roundg gq2
      case measure=>omega
      case rel=>exact⟨j+1,by go_num,⟨qz3 HJ⟩,by rw[HX.out];unfold Av;rw[Int.toNat_natCast];exact HA⟩
     have hj:j=m:=by have:=HJ.out;omega
     have f2:decide ((j:Int)<(m:Int))=false:=decide_eq_false (by omega)
     have f2':decide (j<m)=false:=decide_eq_false hlj
     obtain⟨S0,hS0⟩:∃ S0,S0=mwN ws (mv,false) j:=⟨_,rfl⟩
     rw[← hS0]at HS
     have anN:ah (mwN ws (mv,false) ws.length=S0):=⟨by rw[hS0,hj,HM0.out]⟩
     clear hS0 hj hlj
     go_wp2
     go_loopg [54] n (fun kq v54 w'=>∃ p:Nat,v54= .int .i64 p∧ah (p+kq=n)∧ah (MvA w #[.slice A0 n c0,.slice A1 m c1] n g1 g8 g9 gm cm (mrN P n rows S0 p) w'))
     case atStart=>exact⟨0,Db,⟨by omega⟩,HS⟩
     case round=>
      clear HS f2 f2'
      obtain⟨p,rfl,HP,HS⟩:=hrel
      by_cases hlp:p<n
      ·cases gk with
       |zero=>have:=HP.out;omega
       |succ gq3=>
       obtain⟨ad,AR,cR,hA,y0,hcR,hrow⟩:=TL HR2.out (p:Int) (by omega) (by omega)
       cases hA
       rw[Int.toNat_natCast,HCO.out p hlp]at y0
       rw[HCO.out p hlp]at hrow
       have anO:=ah.mk hrow
       have x0:=aV HS.out.bel y0
       clear hrow y0 hcR
       obtain⟨row,hrw⟩:∃ row,row=nT rows (p:Int):=⟨_,rfl⟩
       rw[← hrw]at anO
       have HX:ah (mrN P n rows S0 (p+1)=mpN P p row (mrN P n rows S0 p) n):=⟨by rw[hrw];rfl⟩
       clear hrw
       obtain⟨S,hS⟩:∃ S,S=mrN P n rows S0 p:=⟨_,rfl⟩
       rw[← hS]at HS HX
       clear hS
       have p2:(0≤(p:Int))=True:=eq_true (by omega)
       have p3:((p:Int)<(n:Int))=True:=eq_true (by omega)
       go_wp2
       go_loopg [61] n (fun kq v61 w'=>∃ q:Nat,v61= .int .i64 q∧ah (q+kq=n)∧ah (MvA w #[.slice A0 n c0,.slice A1 m c1] n g1 g8 g9 gm cm (mpN P p row S q) w'))
       case atStart=>exact⟨0,Db,⟨by omega⟩,HS⟩
       case round=>
        clear HS x0
        obtain⟨q,rfl,HQ,HA⟩:=hrel
        by_cases hlq:q<n
        ·cases gk with
         |zero=>have:=HQ.out;omega
         |succ gq4=>
         have q2:(0≤(q:Int))=True:=eq_true (by omega)
         have q3:((q:Int)<(n:Int))=True:=eq_true (by omega)
         have wq:IntKind.i64.wrap ((q:Int)+1)=(q:Int)+1:=IntWalk.i64_in _ ⟨by omega,by omega⟩
         obtain⟨ad2,hA2,cm0,cm1,cm2⟩:=KS (Kd.gX anO.out HA.out.bel) (q:Int) (by omega) (by omega)
         cases hA2
         rw[Int.toNat_natCast]at cm0 cm1 cm2
         obtain⟨Z,hZ⟩:∃ Z,Z=mpN P p row S q:=⟨_,rfl⟩
         obtain⟨x,hx⟩:∃ x,x=pU row (q:Int):=⟨_,rfl⟩
         have HZ:ah (mpN P p row S (q+1)=Aw P p q x Z):=⟨by rw[hZ,hx];rfl⟩
         rw[← hZ]at HA
         rw[← hx]at cm0 cm1 cm2
         clear hZ hx
         obtain⟨xr,xd,xf⟩:=x
         simp only at cm0 cm1 cm2
         cases xf with
         |false=>
          have HV:ah (mpN P p row S (q+1)=Z):=⟨by rw[HZ.out];unfold Aw;rw[if_neg (show ¬(false=true) from Bool.false_ne_true)]⟩
          clear HZ
          go_wp2_with ((with_reducible refine aH (N:=16) rfl ?_);refine qbx (N:=16) (cs:=#[.int .i64 0,.int .i64 0,.bool false]) (t:=68) ?_;intro g9' hg wn bR hb9;have B9:=ah.mk bR;have HB9:=ah.mk hb9;have Nc:=ah.mk (show wr.heap.size≤g9' from Mi);clear hg hb9 bR;have TV:=ak B9.out 0;have TW:=ak B9.out 1;have TY:=ak B9.out 2;have Ua:wn.cell? ⟨g9',0,none⟩=some (.int .i64 0):=(aj B9.out 0).trans rfl;have Ub:wn.cell? ⟨g9',1,none⟩=some (.int .i64 0):=(aj B9.out 1).trans rfl;have Uc:wn.cell? ⟨g9',2,none⟩=some (.bool false):=(aj B9.out 2).trans rfl;have Ud:∀ u v t,(((wn.setCell ⟨g9',0,none⟩ u).setCell ⟨g9',1,none⟩ v).setCell ⟨g9',2,none⟩ t).cell? ⟨g9',2,none⟩=some t:=fun u v t=>(aj (aW (aW (aW B9.out 0 u rfl) 1 v rfl) 2 t rfl) 2).trans rfl;have aef:∀ u v t,(((wn.setCell ⟨g9',0,none⟩ u).setCell ⟨g9',1,none⟩ v).setCell ⟨g9',2,none⟩ t).cell? ⟨g9',1,none⟩=some v:=fun u v t=>(aj (aW (aW (aW B9.out 0 u rfl) 1 v rfl) 2 t rfl) 1).trans rfl)
          have HBX:=bF (j:=2) (v:=.bool false) (bF (j:=1) (v:=.int .i64 xd) (bF (j:=0) (v:=.int .i64 xr) HB9.out Nc.out) Nc.out) Nc.out
          have HA2:=ah.mk (HA.out.move HBX)
          clear Ua Ub Uc Ud aef TV TW TY
          go_roundg gq4
          case measure=>omega
          case rel=>exact⟨q+1,by go_num,⟨qz3 HQ⟩,by rw[HV.out];exact HA2⟩
         |true=>
          cases hP2:decide (P<xd)with
          |false=>
           have HV:ah (mpN P p row S (q+1)=Z):=⟨by rw[HZ.out];unfold Aw;rw[if_pos rfl,if_neg (show ¬xd>P from of_decide_eq_false hP2)]⟩
           clear HZ
           go_wp2_with ((with_reducible refine aH (N:=16) rfl ?_);refine qbx (N:=16) (cs:=#[.int .i64 0,.int .i64 0,.bool false]) (t:=68) ?_;intro g9' hg wn bR hb9;have B9:=ah.mk bR;have HB9:=ah.mk hb9;have Nc:=ah.mk (show wr.heap.size≤g9' from Mi);clear hg hb9 bR;have TV:=ak B9.out 0;have TW:=ak B9.out 1;have TY:=ak B9.out 2;have Ua:wn.cell? ⟨g9',0,none⟩=some (.int .i64 0):=(aj B9.out 0).trans rfl;have Ub:wn.cell? ⟨g9',1,none⟩=some (.int .i64 0):=(aj B9.out 1).trans rfl;have Uc:wn.cell? ⟨g9',2,none⟩=some (.bool false):=(aj B9.out 2).trans rfl;have Ud:∀ u v t,(((wn.setCell ⟨g9',0,none⟩ u).setCell ⟨g9',1,none⟩ v).setCell ⟨g9',2,none⟩ t).cell? ⟨g9',2,none⟩=some t:=fun u v t=>(aj (aW (aW (aW B9.out 0 u rfl) 1 v rfl) 2 t rfl) 2).trans rfl;have aef:∀ u v t,(((wn.setCell ⟨g9',0,none⟩ u).setCell ⟨g9',1,none⟩ v).setCell ⟨g9',2,none⟩ t).cell? ⟨g9',1,none⟩=some v:=fun u v t=>(aj (aW (aW (aW B9.out 0 u rfl) 1 v rfl) 2 t rfl) 1).trans rfl)
           have HBX:=bF (j:=2) (v:=.bool true) (bF (j:=1) (v:=.int .i64 xd) (bF (j:=0) (v:=.int .i64 xr) HB9.out Nc.out) Nc.out) Nc.out
           have HA2:=ah.mk (HA.out.move HBX)
           clear Ua Ub Uc Ud aef TV TW TY
           go_roundg gq4
           case measure=>omega
           case rel=>exact⟨q+1,by go_num,⟨qz3 HQ⟩,by rw[HV.out];exact HA2⟩
          |true=>
           have HV:ah (mpN P p row S (q+1)=qx Z q (wrap64 (wrap64 (rd Z.1 (p:Int) - xr)+1))):=⟨by rw[HZ.out];unfold Aw;rw[if_pos rfl,if_pos (show xd>P from of_decide_eq_true hP2)]⟩
           clear HZ
           go_wp2_with ((with_reducible refine aH (N:=16) rfl ?_);refine qbx (N:=16) (cs:=#[.int .i64 0,.int .i64 0,.bool false]) (t:=68) ?_;intro g9' hg wn bR hb9;have B9:=ah.mk bR;have HB9:=ah.mk hb9;have Nc:=ah.mk (show wr.heap.size≤g9' from Mi);clear hg hb9 bR;have TV:=ak B9.out 0;have TW:=ak B9.out 1;have TY:=ak B9.out 2;have Ua:wn.cell? ⟨g9',0,none⟩=some (.int .i64 0):=(aj B9.out 0).trans rfl;have Ub:wn.cell? ⟨g9',1,none⟩=some (.int .i64 0):=(aj B9.out 1).trans rfl;have Uc:wn.cell? ⟨g9',2,none⟩=some (.bool false):=(aj B9.out 2).trans rfl;have Ud:∀ u v t,(((wn.setCell ⟨g9',0,none⟩ u).setCell ⟨g9',1,none⟩ v).setCell ⟨g9',2,none⟩ t).cell? ⟨g9',2,none⟩=some t:=fun u v t=>(aj (aW (aW (aW B9.out 0 u rfl) 1 v rfl) 2 t rfl) 2).trans rfl;have aef:∀ u v t,(((wn.setCell ⟨g9',0,none⟩ u).setCell ⟨g9',1,none⟩ v).setCell ⟨g9',2,none⟩ t).cell? ⟨g9',1,none⟩=some v:=fun u v t=>(aj (aW (aW (aW B9.out 0 u rfl) 1 v rfl) 2 t rfl) 1).trans rfl)
           have HBX:=bF (j:=2) (v:=.bool true) (bF (j:=1) (v:=.int .i64 xd) (bF (j:=0) (v:=.int .i64 xr) HB9.out Nc.out) Nc.out) Nc.out
           have HA2:=ah.mk (HA.out.move HBX)
           have p92:=ah.mk (aW (cs':=#[.int .i64 xr,.int .i64 xd,.bool true]) (aW (cs':=#[.int .i64 xr,.int .i64 xd,.bool false]) (aW (cs':=#[.int .i64 xr,.int .i64 0,.bool false]) B9.out 0 (.int .i64 xr) rfl) 1 (.int .i64 xd) rfl) 2 (.bool true) rfl)
           clear Ua Ub Uc Ud aef TV TW TY B9 HB9 Nc HBX HA cm0 cm1 cm2
           generalize ((wn.setCell ⟨g9',0,none⟩ (.int .i64 xr)).setCell ⟨g9',1,none⟩ (.int .i64 xd)).setCell ⟨g9',2,none⟩ (.bool true)=W6 at HA2 p92 ⊢
           have ah4:W6.cell? ⟨g9',0,none⟩=some (.int .i64 xr):=(aj p92.out 0).trans rfl
           have aji:=HA2.out.mv.c8
           obtain⟨km,zm⟩:=HA2.out.mv.cel p hlp
           clear zm
           go_still_tail 10,qz9
           change wpList _ _ _ _ _ W6.drew
           go_wp2_with ((with_reducible refine aH (N:=84) rfl ?_);(refine xY (some 84) rfl rfl Tryz.func36 rfl qz9 #[.int .i64 (q:Int),.int .i64 (wrap64 (wrap64 (rd Z.1 (p:Int) - xr)+1))] rfl rfl (by simp[Act.eval,Act.put,IntWalk.i64_left]) ?_;refine(KY q (wrap64 (wrap64 (rd Z.1 (p:Int) - xr)+1)) hlq hn HA2.out.mv.drew).mono ?_;rintro e w3 ⟨rfl,hp⟩;refine⟨_,rfl,?_⟩;have HA:=ah.mk ((HA2.out.move (bG (Below.refl _ _))).Wx hp);clear HA2 p92 hp ah4 aji km))
           go_roundg gq4
           case measure=>omega
           case rel=>exact⟨q+1,by go_num,⟨qz3 HQ⟩,by rw[HV.out];exact HA⟩
        have hq:q=n:=by have:=HQ.out;omega
        have f3:decide ((q:Int)<(n:Int))=false:=decide_eq_false (by omega)
        have f3':decide (q<n)=false:=decide_eq_false hlq
        have wp:IntKind.i64.wrap ((p:Int)+1)=(p:Int)+1:=IntWalk.i64_in _ ⟨by omega,by omega⟩
        have HV:ah (mrN P n rows S0 (p+1)=mpN P p row S q):=⟨by rw[HX.out,hq]⟩
        clear hq
        go_wp2
        go_roundg gq3
        case measure=>omega
        case rel=>exact⟨p+1,by go_num,⟨qz3 HP⟩,by rw[HV.out];exact HA⟩
      have hp:p=n:=by have:=HP.out;omega
      have f4:decide ((p:Int)<(n:Int))=false:=decide_eq_false (by omega)
      have f4':decide (p<n)=false:=decide_eq_false hlp
      obtain⟨⟨mv2,ch⟩,hS⟩:∃ S:MC,S=mrN P n rows S0 p:=⟨_,rfl⟩
      rw[← hS]at HS
      have HRD:ah (lH P n ws rows mv=(mv2,ch)):=⟨by unfold lH;rw[anN.out,hS,hp]⟩
      clear hS hp hlp anN
      have c9:wr.cell? ⟨g9,0,none⟩=some (.bool ch):=(aj HS.out.mv.b9 0).trans rfl
      cases ch with
      |true=>
       have HF2:ah (mvF K P n d ws rows gq mv2=some (r1,r2)):=⟨by have h:=HF.out;rw[mvF,HRD.out,if_pos rfl]at h;exact h⟩
       clear HF HRD
       have wi:IntKind.i64.wrap ((i:Int)+1)=(i:Int)+1:=IntWalk.i64_in _ ⟨by omega,by omega⟩
       go_wp2
       go_roundg gq
       case measure=>omega
       case rel=>exact⟨i+1,mv2,by go_num,⟨qz3 HI⟩,HF2,⟨HS.out.b1⟩,⟨HS.out.mv.b8⟩,⟨HS.out.mv.R⟩,⟨HS.out.bel⟩⟩
      |false=>
       obtain⟨hIM,hr1⟩:iE.f K d ws mv2=some r2∧r1=mv2:=by
        have h:=HF.out
        rw[mvF,HRD.out,if_neg (show ¬(false=true) from Bool.false_ne_true)]at h
        obtain⟨b,h3,h4⟩:=Option.bind_eq_some_iff.mp h
        injection h4 with h4
        injection h4 with h5 h6
        subst h5 h6
        exact⟨h3,rfl⟩
       subst hr1
       have HT:ah (∀ W,Below wr.heap.size wr W→Calls Tryz.prog 13 #[.agg #[.slice A0 n c0,.slice A1 m c1],.slice (some ⟨gm,0,none⟩) n cm] W fun e w'=>e= .returned (.bool r2)∧Below W.heap.size W w'):=⟨fun W hW=>by
        have hbl:=av HS.out.bel hW
        have q:=Kd.dF (Kd.aM HS.out.mv.R hW)
        have hl:n=r1.length:=q.1
        have T:=iE.calls K A0 c0 d A1 c1 ws (some ⟨gm,0,none⟩) cm r1 r2 W (by rw[← HN0.out];exact Kd.gX HR0.out hbl) (by rw[← HN0.out];exact HDC.out) (by rw[← HM0.out];exact Kd.gX HR1.out hbl) (by rw[← HM0.out];exact HMC.out) q.2.2 (by rw[← hl];exact q.2.1) hIM
        rw[← HN0.out, ← HM0.out, ← hl]at T
        exact T⟩
       clear HF HRD hIM
       have c8:=HS.out.mv.c8
       have oI:wr.cell? ⟨g1,0,none⟩=some (.slice A0 n c0):=(aj HS.out.b1 0).trans rfl
       have uV:wr.cell? ⟨g1,1,none⟩=some (.slice A1 m c1):=(aj HS.out.b1 1).trans rfl
       have l8:=gD HS.out.mv.b8
       have l1:=gD HS.out.b1
       have hd:∀ x,x=wr.drew→(x.cell? ⟨g8,0,none⟩=some (.slice (some ⟨gm,0,none⟩) n cm)∧x.cell? ⟨g1,0,none⟩=some (.slice A0 n c0)∧x.cell? ⟨g1,1,none⟩=some (.slice A1 m c1)∧Below wr.heap.size wr x):=by
        rintro x rfl
        exact⟨c8,oI,uV,bG (Below.refl _ _)⟩
       go_wp2
       go_region_held3 (fun W=>W.cell? ⟨g8,0,none⟩=some (.slice (some ⟨gm,0,none⟩) n cm)∧W.cell? ⟨g1,0,none⟩=some (.slice A0 n c0)∧W.cell? ⟨g1,1,none⟩=some (.slice A1 m c1)∧Below wr.heap.size wr W) (first|exact hd _ rfl|assumption|exact aed l8 l1 ‹_› ‹_›) (first|(go_at_call 13;(with_reducible refine(HT.out _ (by first|exact(‹_∧_∧_∧Below wr.heap.size wr _›).2.2.2|exact bG (Below.refl _ _))).mono ?_);rintro e wn ⟨rfl,hb⟩))
       have HSb:=(‹_∧_∧_∧Below wr.heap.size wr _›).2.2.2
       go_wp2
       go_ret2
       exact⟨_,rfl,Kd.aM HS.out.mv.R HSb,av HS.out.bel HSb⟩
   have hi:i=n+1:=by have:=HI.out;omega
   have hk0:gk=0:=by have:=HI.out;omega
   subst hk0
   have f1:decide ((i:Int)<(n:Int)+1)=false:=decide_eq_false (by omega)
   have HE:ah (r1=[]∧r2=false):=⟨by have h:=HF.out;rw[mvF]at h;injection h with h;injection h with h3 h4;exact⟨h3.symm,h4.symm⟩⟩
   clear HF hi hlt
   go_wp2
   go_ret2
   obtain⟨e1,e2⟩:=HE.out
   subst e1 e2
   exact⟨_,rfl,Kd.Cq _ _ _ _ _,HB.out⟩
end Go.Proofs.YtalkmhnlgfncmaaGreatDoor.X
end
