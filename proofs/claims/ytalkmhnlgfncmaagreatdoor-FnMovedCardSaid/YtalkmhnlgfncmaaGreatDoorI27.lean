/- My own texts of this seat and its words, merged: Xp41, XSCan, CMoves, CMovP, Xp64, XQuietTail, XEnds, XForF, CForR. Conditions: as each lemma says. -/
import Derived.Test.YtalkmhnlgfncmaaGreatDoorI21
import Derived.Test.YtalkmhnlgfncmaaGreatDoorI22
import Derived.Test.YtalkmhnlgfncmaaGreatDoorI26
import Derived.Test.YtalkmhnlgfncmaaGreatDoorI25
import Derived.Test.YtalkmhnlgfncmaaGreatDoorI24
import Derived.StillTail
import Derived.Deep.QuietTactic
import Derived.Test.YtalkmhnlgfncmaaGreatDoorI23
import Derived.StillTailTactics
import Derived.Test.YtalkmhnlgfncmaaGreatDoorXSlim
set_option linter.unusedVariables false
set_option linter.unusedSimpArgs false
section
namespace Go.Proofs.YtalkmhnlgfncmaaGreatDoor.X
open Go.RowKit Go.Proofs.YtalkmhnlgfncmaaGreatDoorW.aC Go.Proofs.YtalkmhnlgfncmaaGreatDoorW.aN Go.Proofs.YtalkmhnlgfncmaaGreatDoorW.aT
attribute [local go_sem] fq fu gJ gK dN dO fA fB
/-! ### spec_l08Moved: function 41 -/
def bn.l0:Nat→List Int→Int→List Int→List (S40)→List Int→List (S40)→Option (List Int×(List (S40)))
 |0,_,_,_,_,_,_=>none
 |k+1,x1,x6,x1000,jJ,PY,JW=>if x6<(jJ.length:Int)then(if 0≤x6 then(if 0≤((au jJ x6).f1)then(if ((au jJ x6).f1)<(x1.length:Int)then(if 0≤((au jJ x6).f0)then(if ((au jJ x6).f0)<(x1.length:Int)then(if JW.length<5864062014805 then(bn.l0 k x1 (wrap64 (x6+1)) x1000 jJ PY (JW++[(⟨(au jJ x6).f0,(au jJ x6).f1,wrap64 ((wrap64 (((au jJ x6).f2)+(rd x1 ((au jJ x6).f1)))) - (rd x1 ((au jJ x6).f0)))⟩:S40)]))else(none))else(none))else(none))else(none))else(none))else(none))else(some (PY,JW))
def bn.f (k:Nat) (dX:List Int) (bH:List (S40)) (l1:List Int):Option (List Int×(List (S40))):=(jQ.f dX).bind fun xH=>(bn.l0 k l1 0 dX bH xH (([]:List (S40))))
theorem bn.mY:∀ k,(∀ y0 y1 y2 y3 y4 y5,LeO (bn.l0 k y0 y1 y2 y3 y4 y5) (bn.l0 (k+1) y0 y1 y2 y3 y4 y5))
 |0=>fun _ _ _ _ _ _ r h=>by simp[bn.l0]at h
 |k+1=>by
  have ih0:=bn.mY k
  ·intro y0 y1 y2 y3 y4 y5
   unfold bn.l0
   repeat' first
   |(with_reducible exact ih0 _ _ _ _ _ _)
   |(with_reducible exact LeO.refl _)
   |(with_reducible exact LeO.none _)
   |(with_reducible refine LeO.ite ?_ ?_)
   |(with_reducible refine LeO.bind ?_ (fun _=>?_))
   |exact ih0 _ _ _ _ _ _
   |exact LeO.none _
   |refine LeO.ite ?_ ?_
   |refine LeO.bind ?_ (fun _=>?_)
theorem bn.mono:∀ a0 a1 a2 k,LeO (bn.f k a0 a1 a2) (bn.f (k+1) a0 a1 a2):=by
 intro a0 a1 a2 k
 have ih0:=bn.mY k
 unfold bn.f
 repeat' first
  |(with_reducible exact ih0 _ _ _ _ _ _)
  |(with_reducible exact LeO.refl _)
  |(with_reducible exact LeO.none _)
  |(with_reducible refine LeO.ite ?_ ?_)
  |(with_reducible refine LeO.bind ?_ (fun _=>?_))
  |exact ih0 _ _ _ _ _ _
  |exact LeO.none _
  |refine LeO.ite ?_ ?_
  |refine LeO.bind ?_ (fun _=>?_)
def bn.T6:Bool×List (List Nat×List Nat):=(true,[([],[]),([0],[0]),([],[]),([2],[2]),([],[]),([4],[4]),([],[]),([6],[6]),([],[]),([],[]),([9],[9]),([8,10],[8,10]),([11],[11]),([7,12],[7,12]),([],[]),([],[]),([15],[15]),([14,16],[14,16]),([17],[17]),([13,18],[13,18]),([3,5,19],[3,5,19]),([20],[20]),([1,21],[1,21]),([0,1,2,3,4,5,6,7,8,9,10,11,12,13,14,15,16,17,18,19,20,21,22],[]),([23,22,22,0,1,2,3,4,5,6,7,8,9,10,11,12,13,14,15,16,17,18,19,20,21,22],[22,23])])
def bn.B6:List Nat:=[0,1,0,4,0,16,0,64,0,0,512,1792,3840,8128,0,0,32768,114688,245760,524224,1048572,2097148,4194303,8388607,16777215]
theorem bn.ajU:uU .any (opsOf Tryz.f41 6)=bn.T6:=by kernel_rfl
theorem bn.aaq:nG bn.T6.2 bn.B6=true:=by kernel_rfl
set_option maxHeartbeats 8000000 in
set_option maxRecDepth 100000 in
theorem bn.calls (k:Nat) (g:Nat) (dX:List Int) (bH:List (S40)) (A1:Option Addr) (c1:Nat) (l1:List Int) (r1:List Int) (r2:List (S40)) (w0 w:World) (hI:dK w0 w g dX bH) (hB:Below w0.heap.size w0 w) (hr1:Kd.C (Kd.int .i64) w A1 l1.length l1) (hc1:l1.length≤c1) (hf1:∀ ad,A1=some ad→0<l1.length→ad.block≠g) (h:bn.f k dX bH l1=some (r1,r2)):
  Calls Tryz.prog 41 #[.pointer (some ⟨g,0,none⟩),.slice A1 l1.length c1] w fun e w'=>∃ v0_ v1_:Value,e= .returned (.agg #[v0_,v1_])∧Kd.R (Kd.int .i64) 2 w' w.heap.size (fun _=>True) v0_ r1∧Kd.R k40 40 w' w.heap.size (fun _=>True) v1_ r2∧dK w0 w' g dX bH∧Below w0.heap.size w0 w'∧aI w w' g none:=by
 have Ux:=Tryz.underlying27
 have Wh:=Tryz.underlying40
 have HR1:=ah.mk hr1
 have HC1:=ah.mk hc1
 clear hr1 hc1
 have HI0:=ah.mk hI
 have HK:=ah.mk (aI.refl w g none)
 have HL:=ah.mk hB.size
 clear hI
 have HW0:=ah.mk hB.size
 have HB:=ah.mk hB
 clear hB
 have H:((jQ.f dX).bind fun xH=>(bn.l0 k l1 0 dX bH xH (([]:List (S40)))))=some (r1,r2):=h
 clear h
 obtain⟨xH,A30,H⟩:=Option.bind_eq_some_iff.mp H
 have A3:=ah.mk A30
 clear A30
 obtain⟨aen,PZ⟩:∃ y_:List (S40),y_=(([]:List (S40))):=⟨_,rfl⟩
 replace H:(bn.l0 k l1 0 dX bH xH aen)=some (r1,r2):=by first|(rw[PZ];with_reducible exact H)|(have H2_:=(Option.bind_some _ _).symm.trans H;rw[PZ];with_reducible exact H2_)|(have H2_:=(Option.bind_some _ _).symm.trans H;with_reducible exact H2_)|with_reducible exact H|(rw[PZ];exact H)|exact H
 have aeo:=ah.mk PZ
 clear PZ
 have H':=ah.mk H
 clear H
 go_enter Tryz.func41,Tryz.ntmps41
 go_wp2_with (first|((with_reducible refine aH (N:=4) rfl ?_);refine qbx (N:=4) (cs:=#[.slice none 0 0,.slice none 0 0]) (t:=27) ?_;intro ow hg w4 bR hb;replace HB:=ah.mk (av (Mj HB HI0) hb);have mQ:=ah.mk (bR);have uR:=ah.mk ((yR HK:w.heap.size≤ow));have CF:=ah.mk ((Nat.le_trans HW0.out (yR HK:w.heap.size≤ow):w0.heap.size≤ow));replace HK:=ah.mk (aI.trans (mM HK) (aI.of_below hb g none) (.inl rfl));have nM:=ah.mk ((adD HI0:g≠ow));have aar:=ah.mk ((adE HI0:ow≠g));replace HI0:=ah.mk (dK.below (IX HI0) hb);clear hb bR hg;obtain⟨WG,WH,an4,an5,Tn,ajV,Qa,an6⟩:=HI0.out;have GJ:=eZ Tn;have GK:=fP Tn;clear Tn ajV)|((with_reducible refine aK (f:=63) rfl ?_);refine dH (some 12) rfl rfl Tryz.func63 qz9 rfl #[.slice WG dX.length WH] rfl jh ?_;(with_reducible refine(jQ.calls _ _ dX xH _ ?bT ?bU A3.out).mono ?_);(case bT=>repeat(first|exact Kd.gX Qa (Wn HB HI0 CF)|(with_reducible refine Kd.oJ ?_ _)|(with_reducible refine Kd.qE ?_ _)|(with_reducible refine Kd.uT ?_)));(case bU=>first|exact trivial|(fail));rintro e w6 ⟨avf,rfl,ho0,hb⟩;refine⟨_,rfl,?_⟩;have MF:=ah.mk (Kd.dV ho0 (iw (w:=w) (g:=g) (row:=none) (uP HK uR)));replace mQ:=ah.mk (aA (g:=ow) (o:=.cells #[.slice none 0 0,.slice none 0 0] 27 (0,0)) (dP mQ) hb);replace HK:=ah.mk (aI.trans (uP HK uR) (aI.of_below hb g none) (.inl rfl));replace HB:=ah.mk (av (Wn HB HI0 CF) hb);replace HI0:=ah.mk (dK.below (Ul HI0 nM) hb);(try clear hb);(try clear hb2);(try clear hk);(try clear hi);(try clear ho0))|((with_reducible refine aH (N:=13) rfl ?_);refine Kd.vR k40 _ 40 ?hg (N:=13) ?hd (xs:=([]:List (S40))) (inner:=[]) (ok:=fun _=>True) (okp:=fun _=>True) ?hr ?hp (fun _ hk=>hk) trivial (Below.refl _ _) (Nat.le_refl _) (by simp) ?_;(case hd=>rfl);(case hg=>rfl);(case hr=>exact qz1);(case hp=>exact(jO.none _ _));intro avg w7 ho8 hb hg_ lF;clear hg_ lF;(first|rw[← aeo.out]at ho8|(simp only[Int.reduceToNat]at ho8;rw[← aeo.out]at ho8));replace MF:=ah.mk (Kd.aM (cK MF) hb);have UF:=ah.mk (Kd.dV ho8 (iw (w:=w) (g:=g) (row:=none) (uP HK uR)));replace mQ:=ah.mk (aA (g:=ow) (o:=.cells #[.slice none 0 0,.slice none 0 0] 27 (0,0)) (dP mQ) hb);replace HK:=ah.mk (aI.trans (uP HK uR) (aI.of_below hb g none) (.inl rfl));replace HB:=ah.mk (av (Wn HB HI0 CF) hb);replace HI0:=ah.mk (dK.below (Ul HI0 nM) hb);clear hb ho8;obtain⟨Ao9,co9,eo9⟩:=Kd.dW UF.out;subst eo9;obtain⟨ET,EU,ajW⟩:=Kd.dW MF.out;subst ajW)|((with_reducible refine aH (N:=5) rfl ?_);refine qbx (N:=5) (cs:=#[.slice none 0 0,.slice none 0 0]) (t:=27) ?_;intro nW hg w11 bR hb;replace MF:=ah.mk (Kd.aM (cK MF) hb);replace UF:=ah.mk (Kd.aM (cK UF) hb);replace HB:=ah.mk (av (Wn HB HI0 CF) hb);have lg:=ah.mk (bR);have EW:=ah.mk ((by rw[hg];exact(iw (w:=w) (g:=g) (row:=none) (uP HK uR)):w.heap.size≤nW));have MG:=ah.mk ((Nat.le_trans HW0.out (by rw[hg];exact(iw (w:=w) (g:=g) (row:=none) (uP HK uR)):w.heap.size≤nW):w0.heap.size≤nW));replace HK:=ah.mk (aI.trans (uP HK uR) (aI.of_below hb g none) (.inl rfl));have tQ:=ah.mk ((by rw[hg];exact Nat.ne_of_lt (gD (g:=ow) (o:=.cells #[.slice none 0 0,.slice none 0 0] 27 (0,0)) (dP mQ)):ow≠nW));have AJ:=ah.mk ((by rw[hg];exact Nat.ne_of_gt (gD (g:=ow) (o:=.cells #[.slice none 0 0,.slice none 0 0] 27 (0,0)) (dP mQ)):nW≠ow));replace mQ:=ah.mk (aA (g:=ow) (o:=.cells #[.slice none 0 0,.slice none 0 0] 27 (0,0)) (dP mQ) hb);have qJ:=ah.mk ((by rw[hg];exact Nat.ne_of_lt (dK.lt (show dK w0 _ g dX bH from Ul HI0 nM)):g≠nW));have Qb:=ah.mk ((by rw[hg];exact Nat.ne_of_gt (dK.lt (show dK w0 _ g dX bH from Ul HI0 nM)):nW≠g));replace HI0:=ah.mk (dK.below (Ul HI0 nM) hb);clear hb bR hg;have aiS:=AJ.out;have aiT:=tQ.out;have arq:=Qb.out;have ars:=qJ.out;have oo:w11.cell? ⟨nW,0,none⟩=some (.slice none 0 0):=(aj lg.out 0).trans rfl;have oq:w11.cell? ⟨nW,1,none⟩=some (.slice none 0 0):=(aj lg.out 1).trans rfl;have rG:=ak lg.out 0;have rH:=ak lg.out 1))
 go_loopg [6] k (fun kq v6 w'=>∃ (gY:Int) (mI:List (S40)) (u265001:Value),v6= .int .i64 gY∧ah (bn.l0 kq l1 gY dX bH xH mI=some (r1,r2))∧ah (kq≤k)∧ah (Kd.R (Kd.int .i64) 2 w' w.heap.size (fun _=>True) (.slice ET xH.length EU) xH)∧ah (Kd.R k40 40 w' w.heap.size (fun _=>True) u265001 mI)∧ah (w'.heap[ow]?=some (.cells #[(.slice none 0 0),(.slice none 0 0)] 27 (0,0)))∧ah (w'.heap[nW]?=some (.cells #[(.slice ET xH.length EU),u265001] 27 (0,0)))∧ah (dK w0 w' g dX bH)∧ah (aI w w' g none)∧ah (Below w0.heap.size w0 w'))
 case atStart=>exact⟨(0),(aen),(.slice Ao9 aen.length co9),iY,H',⟨Nat.le_refl _⟩,⟨by refine qpr ?_;exact Kd.bS (Kd.bX (p:=⟨nW,1,none⟩) (Kd.bX (p:=⟨nW,0,none⟩) (Kd.cO MF.out lg.out (by decide)) (fun _ hk=>hk.2) (.slice ET xH.length EU)) (fun _ hk=>hk.2) (.slice Ao9 aen.length co9)) (fun _ hk=>trivial)⟩,⟨by refine qpr ?_;exact Kd.bS (Kd.bX (p:=⟨nW,1,none⟩) (Kd.bX (p:=⟨nW,0,none⟩) (Kd.cO UF.out lg.out (by decide)) (fun _ hk=>hk.2) (.slice ET xH.length EU)) (fun _ hk=>hk.2) (.slice Ao9 aen.length co9)) (fun _ hk=>trivial)⟩,⟨Tj tQ mQ⟩,⟨an7 lg⟩,⟨aep HI0 nM qJ⟩,⟨aer HK uR EW⟩,⟨ajX HB HI0 CF MG⟩⟩
 case round=>
  clear H'
  try clear c1
  try clear p2
  try clear c4
  try clear c6
  try clear c12
  try clear c13
  try clear oo
  try clear oq
  try clear GJ
  try clear GK
  try clear rG
  try clear rH
  obtain⟨gY,mI,u265001,rfl,HA,HK1,kT,iK,mQ,lg,HI0,HK,HB⟩:=hrel
  cases gk with
  |zero=>exact absurd HA.out (by simp[bn.l0])
  |succ k1=>
   have H:=HA.out
   clear HA
   simp only[bn.l0]at H
   by_cases c15:gY<(bH.length:Int)
   ·rw[if_pos c15]at H
    have Jg:decide (gY<(bH.length:Int))=true:=decide_eq_true c15
    clear c15
    by_cases c16:0≤gY
    ·rw[if_pos c16]at H
     have Jh:decide (0≤gY)=true:=decide_eq_true c16
     clear c16
     by_cases c17:0≤((au bH gY).f1)
     ·rw[if_pos c17]at H
      have ZE:decide (0≤((au bH gY).f1))=true:=decide_eq_true c17
      clear c17
      by_cases c18:((au bH gY).f1)<(l1.length:Int)
      ·rw[if_pos c18]at H
       have Uz:decide (((au bH gY).f1)<(l1.length:Int))=true:=decide_eq_true c18
       clear c18
       by_cases c19:0≤((au bH gY).f0)
       ·rw[if_pos c19]at H
        have adn:decide (0≤((au bH gY).f0))=true:=decide_eq_true c19
        clear c19
        by_cases c20:((au bH gY).f0)<(l1.length:Int)
        ·rw[if_pos c20]at H
         have Uh:decide (((au bH gY).f0)<(l1.length:Int))=true:=decide_eq_true c20
         clear c20
         by_cases c21:mI.length<5864062014805
         ·rw[if_pos c21]at H
          have Yd:=ah.mk c21
          clear c21
          obtain⟨aes,Qc⟩:∃ y_:List (S40),y_=(mI++[(⟨(au bH gY).f0,(au bH gY).f1,wrap64 ((wrap64 (((au bH gY).f2)+(rd l1 ((au bH gY).f1)))) - (rd l1 ((au bH gY).f0)))⟩:S40)]):=⟨_,rfl⟩
          replace H:(bn.l0 k1 l1 (wrap64 (gY+1)) dX bH xH aes)=some (r1,r2):=by first|(rw[Qc];with_reducible exact H)|(have H2_:=(Option.bind_some _ _).symm.trans H;rw[Qc];with_reducible exact H2_)|(have H2_:=(Option.bind_some _ _).symm.trans H;with_reducible exact H2_)|with_reducible exact H|(rw[Qc];exact H)|exact H
          have ajY:=ah.mk Qc
          clear Qc
          have H':=ah.mk H
          clear H
          obtain⟨ajZ,aj0,aj1,aj2,aas,aj3,aj4,aat⟩:=HI0.out
          have Qd:=eZ aas
          have Qe:=fP aas
          clear aas aj3
          have aj5:0≤(gY:Int):=of_decide_eq_true gN
          have aj6:gY<(bH.length:Int):=of_decide_eq_true gN
          obtain⟨aru,arv,Qf,Qg,Qh⟩:=kH aat gY aj5 aj6
          cases arv
          replace Qf:=aV HB.out Qf
          replace Qg:=aV HB.out Qg
          replace Qh:=aV HB.out Qh
          replace aj5:=eq_true aj5
          replace aj6:=eq_true aj6
          try go_wp2_with (first|((with_reducible refine aH (N:=7) rfl ?_);refine qbx (N:=7) (cs:=#[.int .i64 0,.int .i64 0,.int .i64 0]) (t:=40) ?_;intro iO hg w23 bR hb;replace kT:=ah.mk (Kd.aM (cK kT) hb);replace iK:=ah.mk (Kd.aM (Kd.nD (cK iK) iO (Nat.le_of_eq hg.symm)) hb);replace HB:=ah.mk (av (ajX HB HI0 CF MG) hb);have oP:=ah.mk (bR);have UG:=ah.mk ((by rw[hg];exact(iw (w:=w) (g:=g) (row:=none) (aer HK uR EW)):w.heap.size≤iO));have aau:=ah.mk ((Nat.le_trans HW0.out (by rw[hg];exact(iw (w:=w) (g:=g) (row:=none) (aer HK uR EW)):w.heap.size≤iO):w0.heap.size≤iO));replace HK:=ah.mk (aI.trans (aer HK uR EW) (aI.of_below hb g none) (.inl rfl));have GN:=ah.mk ((by rw[hg];exact Nat.ne_of_lt (gD (g:=ow) (o:=.cells #[.slice none 0 0,.slice none 0 0] 27 (0,0)) (dP mQ)):ow≠iO));have Qi:=ah.mk ((by rw[hg];exact Nat.ne_of_gt (gD (g:=ow) (o:=.cells #[.slice none 0 0,.slice none 0 0] 27 (0,0)) (dP mQ)):iO≠ow));replace mQ:=ah.mk (aA (g:=ow) (o:=.cells #[.slice none 0 0,.slice none 0 0] 27 (0,0)) (dP mQ) hb);have AL:=ah.mk ((by rw[hg];exact Nat.ne_of_lt (gD (g:=nW) (o:=.cells #[.slice ET xH.length EU,u265001] 27 (0,0)) (dP lg)):nW≠iO));have GQ:=ah.mk ((by rw[hg];exact Nat.ne_of_gt (gD (g:=nW) (o:=.cells #[.slice ET xH.length EU,u265001] 27 (0,0)) (dP lg)):iO≠nW));replace lg:=ah.mk (aA (g:=nW) (o:=.cells #[.slice ET xH.length EU,u265001] 27 (0,0)) (dP lg) hb);have EX:=ah.mk ((by rw[hg];exact Nat.ne_of_lt (dK.lt (show dK w0 _ g dX bH from aep HI0 nM qJ)):g≠iO));have aav:=ah.mk ((by rw[hg];exact Nat.ne_of_gt (dK.lt (show dK w0 _ g dX bH from aep HI0 nM qJ)):iO≠g));replace HI0:=ah.mk (dK.below (aep HI0 nM qJ) hb);clear hb bR hg;have ac6:=Qi.out;have ac7:=GN.out;have Uj:=GQ.out;have Uk:=AL.out;have aiY:=aav.out;have aiZ:=EX.out;have Ey:w23.cell? ⟨iO,0,none⟩=some (.int .i64 0):=(aj oP.out 0).trans rfl;have Ez:w23.cell? ⟨iO,1,none⟩=some (.int .i64 0):=(aj oP.out 1).trans rfl;have ZF:w23.cell? ⟨iO,2,none⟩=some (.int .i64 0):=(aj oP.out 2).trans rfl;have Pm:=ak oP.out 0;have Pn:=ak oP.out 1;have ZG:=ak oP.out 2))
          have n0_:ah (Kd.R (Kd.int .i64) 2 (((w23.setCell ⟨iO,0,none⟩ (.int .i64 ((au bH gY).f0))).setCell ⟨iO,1,none⟩ (.int .i64 ((au bH gY).f1))).setCell ⟨iO,2,none⟩ (.int .i64 ((au bH gY).f2))) w.heap.size (fun _=>True) (.slice ET xH.length EU) xH):=⟨by refine qpr ?_;exact Kd.bS (Kd.bX (p:=⟨iO,2,none⟩) (Kd.bX (p:=⟨iO,1,none⟩) (Kd.bX (p:=⟨iO,0,none⟩) (Kd.cO kT.out oP.out (by decide)) (fun _ hk=>hk.2) (.int .i64 ((au bH gY).f0))) (fun _ hk=>hk.2) (.int .i64 ((au bH gY).f1))) (fun _ hk=>hk.2) (.int .i64 ((au bH gY).f2))) (fun _ hk=>trivial)⟩
          have n1_:ah (Kd.R k40 40 (((w23.setCell ⟨iO,0,none⟩ (.int .i64 ((au bH gY).f0))).setCell ⟨iO,1,none⟩ (.int .i64 ((au bH gY).f1))).setCell ⟨iO,2,none⟩ (.int .i64 ((au bH gY).f2))) w.heap.size (fun k_=>k_≠iO) u265001 mI):=⟨by refine qpr ?_;exact Kd.bS (Kd.bX (p:=⟨iO,2,none⟩) (Kd.bX (p:=⟨iO,1,none⟩) (Kd.bX (p:=⟨iO,0,none⟩) (Kd.bS iK.out (fun k_ hk=>(⟨hk,hk.2⟩:_∧k_≠iO))) (fun _ hk=>hk.2) (.int .i64 ((au bH gY).f0))) (fun _ hk=>hk.2) (.int .i64 ((au bH gY).f1))) (fun _ hk=>hk.2) (.int .i64 ((au bH gY).f2))) (fun _ hk=>hk.1.2)⟩
          have n2_:ah ((((w23.setCell ⟨iO,0,none⟩ (.int .i64 ((au bH gY).f0))).setCell ⟨iO,1,none⟩ (.int .i64 ((au bH gY).f1))).setCell ⟨iO,2,none⟩ (.int .i64 ((au bH gY).f2))).heap[ow]?=some (.cells #[.slice none 0 0,.slice none 0 0] 27 (0,0))):=⟨Nb GN mQ⟩
          have n3_:ah ((((w23.setCell ⟨iO,0,none⟩ (.int .i64 ((au bH gY).f0))).setCell ⟨iO,1,none⟩ (.int .i64 ((au bH gY).f1))).setCell ⟨iO,2,none⟩ (.int .i64 ((au bH gY).f2))).heap[nW]?=some (.cells #[.slice ET xH.length EU,u265001] 27 (0,0))):=⟨Nb AL lg⟩
          have n4_:ah ((((w23.setCell ⟨iO,0,none⟩ (.int .i64 ((au bH gY).f0))).setCell ⟨iO,1,none⟩ (.int .i64 ((au bH gY).f1))).setCell ⟨iO,2,none⟩ (.int .i64 ((au bH gY).f2))).heap[iO]?=some (.cells #[.int .i64 ((au bH gY).f0),.int .i64 ((au bH gY).f1),.int .i64 ((au bH gY).f2)] 40 (0,0))):=⟨by refine qpb ?_;refine aW (cs:=#[.int .i64 ((au bH gY).f0),.int .i64 ((au bH gY).f1),.int .i64 0]) ?_ 2 _ rfl;refine qpb ?_;refine aW (cs:=#[.int .i64 ((au bH gY).f0),.int .i64 0,.int .i64 0]) ?_ 1 _ rfl;refine qpb ?_;refine aW (cs:=#[.int .i64 0,.int .i64 0,.int .i64 0]) ?_ 0 _ rfl;refine qpb ?_;exact oP.out⟩
          have n5_:ah (dK w0 (((w23.setCell ⟨iO,0,none⟩ (.int .i64 ((au bH gY).f0))).setCell ⟨iO,1,none⟩ (.int .i64 ((au bH gY).f1))).setCell ⟨iO,2,none⟩ (.int .i64 ((au bH gY).f2))) g dX bH):=⟨aj7 HI0 nM qJ EX⟩
          have n6_:ah (aI w (((w23.setCell ⟨iO,0,none⟩ (.int .i64 ((au bH gY).f0))).setCell ⟨iO,1,none⟩ (.int .i64 ((au bH gY).f1))).setCell ⟨iO,2,none⟩ (.int .i64 ((au bH gY).f2))) g none):=⟨agq HK uR EW UG⟩
          have n7_:ah (Below w0.heap.size w0 (((w23.setCell ⟨iO,0,none⟩ (.int .i64 ((au bH gY).f0))).setCell ⟨iO,1,none⟩ (.int .i64 ((au bH gY).f1))).setCell ⟨iO,2,none⟩ (.int .i64 ((au bH gY).f2)))):=⟨aj8 HB HI0 CF MG aau⟩
          (try clear kT)
          (try clear iK)
          (try clear mQ)
          (try clear lg)
          (try clear oP)
          (try clear HI0)
          (try clear HK)
          (try clear HB)
          generalize (((w23.setCell ⟨iO,0,none⟩ (.int .i64 ((au bH gY).f0))).setCell ⟨iO,1,none⟩ (.int .i64 ((au bH gY).f1))).setCell ⟨iO,2,none⟩ (.int .i64 ((au bH gY).f2)))=w28 at n0_ n1_ n2_ n3_ n4_ n5_ n6_ n7_ ⊢
          have kT:=n0_
          have iK:=n1_
          have mQ:=n2_
          have lg:=n3_
          have oP:=n4_
          have HI0:=n5_
          have HK:=n6_
          have HB:=n7_
          clear n0_ n1_ n2_ n3_ n4_ n5_ n6_ n7_
          replace kT:=ah.mk (Kd.fO kT.out)
          replace iK:=ah.mk (Kd.fO iK.out)
          replace mQ:=ah.mk (dS mQ.out)
          replace lg:=ah.mk (dS lg.out)
          replace oP:=ah.mk (dS oP.out)
          replace HI0:=ah.mk (dK.drew HI0.out)
          replace HK:=ah.mk (sJ HK.out)
          replace HB:=ah.mk (bG HB.out)
          have aj9:0≤(((au bH gY).f1):Int):=of_decide_eq_true gN
          have akb:((au bH gY).f1)<(l1.length:Int):=of_decide_eq_true gN
          obtain⟨xI,e267,EY⟩:=Kd.iC HR1.out ((au bH gY).f1) aj9 akb
          have EZ:=EY
          cases e267
          have yV:=(show ((xI.add (((au bH gY).f1)).toNat):Addr).block≠g from by first|(rw[add_block];exact hf1 xI rfl (by omega))|(show (Addr.add _ _).block≠ _;rw[add_block];exact hf1 xI rfl (by omega))|exact hf1 xI rfl (by omega))
          replace EY:=kP HK.out EY (by first|(rw[add_block];exact hf1 _ rfl (by omega))|exact hf1 _ rfl (by omega)|exact hf1 xI rfl (by omega))
          replace aj9:=eq_true aj9
          replace akb:=eq_true akb
          have akc:0≤(((au bH gY).f0):Int):=of_decide_eq_true gN
          have akd:((au bH gY).f0)<(l1.length:Int):=of_decide_eq_true gN
          obtain⟨ake,e268,Fa⟩:=Kd.iC HR1.out ((au bH gY).f0) akc akd
          have Fb:=Fa
          obtain rfl:xI=ake:=(by injection e268)
          have yX:=(show ((xI.add (((au bH gY).f0)).toNat):Addr).block≠g from by first|(rw[add_block];exact hf1 xI rfl (by omega))|(show (Addr.add _ _).block≠ _;rw[add_block];exact hf1 xI rfl (by omega))|exact hf1 xI rfl (by omega))
          replace Fa:=kP HK.out Fa (by first|(rw[add_block];exact hf1 _ rfl (by omega))|exact hf1 _ rfl (by omega)|exact hf1 xI rfl (by omega))
          replace akc:=eq_true akc
          replace akd:=eq_true akd
          refine qP (n:=25) (S:=fun w'=>w'.cell? ⟨nW,0,none⟩=some (.slice ET xH.length EU)∧w'.cell? ⟨nW,1,none⟩=some (u265001)∧w'.cell? ⟨iO,0,none⟩=some (.int .i64 ((au bH gY).f0))∧w'.cell? ⟨iO,1,none⟩=some (.int .i64 ((au bH gY).f1))∧w'.cell? ⟨iO,2,none⟩=some (.int .i64 ((au bH gY).f2))∧w'.cell? (xI.add (((au bH gY).f1)).toNat)=some (.int .i64 (rd l1 ((au bH gY).f1)))∧w'.cell? (xI.add (((au bH gY).f0)).toNat)=some (.int .i64 (rd l1 ((au bH gY).f0)))) (ds:=[24]) #[false,false,false,false,false,false,false,false,false,false,false,false,false,false,false,false,false,false,false,false,false,false,false,false,false] qz9 rfl rfl ⟨(aj lg.out 0).trans rfl,(aj lg.out 1).trans rfl,(aj oP.out 0).trans rfl,(aj oP.out 1).trans rfl,(aj oP.out 2).trans rfl,(kP HK.out EZ yV),(kP HK.out Fb yX)⟩ (fun hHeld=>?_);refine jZ bn.ajU bn.aaq (fun HT_ HW_=>?_)
          generalize w28.drew=w29 at kT iK mQ lg oP HI0 HK HB EY Fa hHeld ⊢
          refine qpu HT_ 0 31 #[true,false,false,false,false,false,false,false,false,false,false,false,false,false,false,false,false,false,false,false,false,false,false,false,false] rfl rfl ?_
          refine qpu HT_ 2 33 #[true,false,true,false,false,false,false,false,false,false,false,false,false,false,false,false,false,false,false,false,false,false,false,false,false] rfl rfl ?_
          refine qpu HT_ 4 35 #[true,false,true,false,true,false,false,false,false,false,false,false,false,false,false,false,false,false,false,false,false,false,false,false,false] rfl rfl ?_
          refine qpu HT_ 6 37 #[true,false,true,false,true,false,true,false,false,false,false,false,false,false,false,false,false,false,false,false,false,false,false,false,false] rfl rfl ?_
          refine qpu HT_ 8 39 #[true,false,true,false,true,false,true,false,true,false,false,false,false,false,false,false,false,false,false,false,false,false,false,false,false] rfl rfl ?_
          refine qpu HT_ 9 40 #[true,false,true,false,true,false,true,false,true,true,false,false,false,false,false,false,false,false,false,false,false,false,false,false,false] rfl rfl ?_
          refine qpu HT_ 14 45 #[true,false,true,false,true,false,true,false,true,true,false,false,false,false,true,false,false,false,false,false,false,false,false,false,false] rfl rfl ?_
          refine qpu HT_ 15 46 #[true,false,true,false,true,false,true,false,true,true,false,false,false,false,true,true,false,false,false,false,false,false,false,false,false] rfl rfl ?_
          refine qtk HT_ HW_ 1 32 #[true,true,true,false,true,false,true,false,true,true,false,false,false,false,true,true,false,false,false,false,false,false,false,false,false] rfl rfl hHeld ?_
          refine qtk HT_ HW_ 3 34 #[true,true,true,true,true,false,true,false,true,true,false,false,false,false,true,true,false,false,false,false,false,false,false,false,false] rfl rfl hHeld ?_
          refine qtk HT_ HW_ 5 36 #[true,true,true,true,true,true,true,false,true,true,false,false,false,false,true,true,false,false,false,false,false,false,false,false,false] rfl rfl hHeld ?_
          refine qtk HT_ HW_ 7 38 #[true,true,true,true,true,true,true,true,true,true,false,false,false,false,true,true,false,false,false,false,false,false,false,false,false] rfl rfl hHeld ?_
          refine qtk HT_ HW_ 10 41 #[true,true,true,true,true,true,true,true,true,true,true,false,false,false,true,true,false,false,false,false,false,false,false,false,false] rfl rfl hHeld ?_
          refine qpu HT_ 11 42 #[true,true,true,true,true,true,true,true,true,true,true,true,false,false,true,true,false,false,false,false,false,false,false,false,false] rfl rfl ?_
          refine qtk HT_ HW_ 12 43 #[true,true,true,true,true,true,true,true,true,true,true,true,true,false,true,true,false,false,false,false,false,false,false,false,false] rfl rfl hHeld ?_
          refine qpu HT_ 13 44 #[true,true,true,true,true,true,true,true,true,true,true,true,true,true,true,true,false,false,false,false,false,false,false,false,false] rfl rfl ?_
          refine qtk HT_ HW_ 16 47 #[true,true,true,true,true,true,true,true,true,true,true,true,true,true,true,true,true,false,false,false,false,false,false,false,false] rfl rfl hHeld ?_
          refine qpu HT_ 17 48 #[true,true,true,true,true,true,true,true,true,true,true,true,true,true,true,true,true,true,false,false,false,false,false,false,false] rfl rfl ?_
          refine qtk HT_ HW_ 18 49 #[true,true,true,true,true,true,true,true,true,true,true,true,true,true,true,true,true,true,true,false,false,false,false,false,false] rfl rfl hHeld ?_
          refine qpu HT_ 19 50 #[true,true,true,true,true,true,true,true,true,true,true,true,true,true,true,true,true,true,true,true,false,false,false,false,false] rfl rfl ?_
          refine qpu HT_ 20 51 #[true,true,true,true,true,true,true,true,true,true,true,true,true,true,true,true,true,true,true,true,true,false,false,false,false] rfl rfl ?_
          refine FP (i:=21) (N:=some 52) #[true,true,true,true,true,true,true,true,true,true,true,true,true,true,true,true,true,true,true,true,true,true,false,false,false] rfl rfl (nE HT_.out qz9) (by decide) (fun K hK=>?_)
          refine Nu (w1:=?_) (v:=?_) (by rfl) rfl ?_ ?_
          rotate_left 2
          ·go_simp
           constructor
           ·rfl
           rfl
          refine hK.out _ _ ⟨(aj (fV lg.out _) 0).trans rfl,(aj (fV lg.out _) 1).trans rfl,(aj (fV oP.out _) 0).trans rfl,(aj (fV oP.out _) 1).trans rfl,(aj (fV oP.out _) 2).trans rfl,(World.cell?_alloc_lt _ _ _ (World.block_lt_of_cell? _ _ ((kP HK.out EZ yV)))).trans ((kP HK.out EZ yV)),(World.cell?_alloc_lt _ _ _ (World.block_lt_of_cell? _ _ ((kP HK.out Fb yX)))).trans ((kP HK.out Fb yX))⟩ (fun hHeld=>?_)
          clear hK K
          refine qno 52 rfl ?_
          refine FP (i:=22) (N:=some 53) #[true,true,true,true,true,true,true,true,true,true,true,true,true,true,true,true,true,true,true,true,true,true,true,false,false] rfl rfl (nE HT_.out qz9) (by decide) (fun K hK=>?_)
          refine Kd.ru k40 w.heap.size (by rfl) (.tmp 32) (.tmp 52) 25 40 (.agg #[(.int .i64 0),(.int .i64 0),(.int .i64 0)]) 24 rfl Tryz.underlying25 CZ rfl (by decide) (by omega) u265001 mI (⟨(au bH gY).f0,(au bH gY).f1,wrap64 ((wrap64 (((au bH gY).f2)+(rd l1 ((au bH gY).f1)))) - (rd l1 ((au bH gY).f0)))⟩:S40) [.int .i64 ((au bH gY).f0),.int .i64 ((au bH gY).f1),.int .i64 (wrap64 ((wrap64 (((au bH gY).f2)+(rd l1 ((au bH gY).f1)))) - (rd l1 ((au bH gY).f0))))] (fun k_=>k_≠iO) (fun _=>False) rfl rfl ?aP (fun _ hk=>hk.elim) ?aF ?aO (Below.refl _ _) ?aS ?aL ?_
          (case aP=>exact zK _ _ _ (⟨(au bH gY).f0,(au bH gY).f1,wrap64 ((wrap64 (((au bH gY).f2)+(rd l1 ((au bH gY).f1)))) - (rd l1 ((au bH gY).f0)))⟩:S40))
          (case aF=>exact(fun k_ hk=>Kd.FX (g:=iO) (o:=.cells #[.int .i64 ((au bH gY).f0),.int .i64 ((au bH gY).f1),.int .i64 ((au bH gY).f2)] 40 (0,0)) (dP oP) k_ hk))
          (case aO=>exact(cK iK))
          (case aS=>exact(iw (w:=w) (g:=g) (row:=none) (agq HK uR EW UG)))
          (case aL=>exact qz3 Yd)
          intro avh w30 ho hb hg hat
          rw[← ajY.out]at ho
          replace kT:=ah.mk (Kd.sI (cK kT) (Kd.lC (cK iK)) (by decide) hg)
          replace mQ:=ah.mk (dQ (g:=ow) (o:=.cells #[.slice none 0 0,.slice none 0 0] 27 (0,0)) (dP mQ) hg (Kd.wT iK.out mQ.out (by decide)))
          replace lg:=ah.mk (dQ (g:=nW) (o:=.cells #[.slice ET xH.length EU,u265001] 27 (0,0)) (dP lg) hg (Kd.wT iK.out lg.out (by decide)))
          replace oP:=ah.mk (dQ (g:=iO) (o:=.cells #[.int .i64 ((au bH gY).f0),.int .i64 ((au bH gY).f1),.int .i64 ((au bH gY).f2)] 40 (0,0)) (dP oP) hg (Kd.VJ iK.out (fun _ hk=>hk)))
          replace HB:=ah.mk (qp (aj8 HB HI0 CF MG aau) HL.out hb)
          replace HI0:=ah.mk (dK.grown (aj7 HI0 nM qJ EX) hg (dK.own_ne HI0.out iK.out (by decide)))
          replace HK:=ah.mk (aI.trans (agq HK uR EW UG) (aI.qZ hg g) (Kd.DF iK.out))
          have aeu:=ah.mk (ho)
          clear iK
          clear ho hb hg hat
          obtain⟨ZI,ZJ,ad7⟩:=Kd.dW aeu.out
          (first|subst ad7|(injection ad7 with f1_ f2_ f3_;have f4_:=f1_.symm;have f5_:=f3_.symm;clear f1_ f2_ f3_;subst f4_;subst f5_))
          refine hK.out _ _ ⟨(aj lg.out 0).trans rfl,(aj lg.out 1).trans rfl,(aj oP.out 0).trans rfl,(aj oP.out 1).trans rfl,(aj oP.out 2).trans rfl,(kP HK.out EZ yV),(kP HK.out Fb yX)⟩ (fun hHeld=>?_)
          clear hK K
          refine qno 53 rfl ?_
          refine qpu HT_ 23 54 #[true,true,true,true,true,true,true,true,true,true,true,true,true,true,true,true,true,true,true,true,true,true,true,true,false] rfl rfl ?_
          refine acM (i:=24) (N:=none) #[true,true,true,true,true,true,true,true,true,true,true,true,true,true,true,true,true,true,true,true,true,true,true,true,true] rfl rfl (nE HT_.out qz9) (by decide) (fun K hK=>?_)
          have aqV:w30.cell? ⟨nW,1,none⟩=some (u265001):=(aj lg.out 1).trans rfl
          have ai5:=ak lg.out 1
          have ZK:=tQ.out
          have akf:=GQ.out
          have ZL:=AJ.out
          have akg:=AL.out
          refine acN (w1:=?_) (by rfl) rfl ?_ ?_
          rotate_left
          ·go_simp
           rfl
          refine hK.out _ _ ?_
          clear hK K
          refine xk (oh HT_.out qz9) ?_
          try go_wp2
          go_roundg k1
          case measure=>have:=HK1.out;omega
          case rel=>exact⟨(wrap64 (gY+1)),(aes),(.slice ZI aes.length ZJ),iY,H',⟨qz3 HK1⟩,⟨by refine qpr ?_;exact Kd.bS (Kd.bX (p:=⟨nW,1,none⟩) (Kd.cO kT.out lg.out (by decide)) (fun _ hk=>hk.2) (.slice ZI aes.length ZJ)) (fun _ hk=>trivial)⟩,⟨by refine qpr ?_;exact Kd.bS (Kd.bX (p:=⟨nW,1,none⟩) (Kd.cO aeu.out lg.out (by decide)) (fun _ hk=>hk.2) (.slice ZI aes.length ZJ)) (fun _ hk=>trivial)⟩,⟨ZM tQ mQ⟩,⟨by refine qpb ?_;refine aW (cs:=#[.slice ET xH.length EU,u265001]) ?_ 1 _ rfl;refine qpb ?_;exact lg.out⟩,⟨aj7 HI0 nM qJ EX⟩,⟨agq HK uR EW UG⟩,⟨aj8 HB HI0 CF MG aau⟩⟩
         rw[if_neg c21]at H
         exact absurd H (by simp)
        rw[if_neg c20]at H
        exact absurd H (by simp)
       rw[if_neg c19]at H
       exact absurd H (by simp)
      rw[if_neg c18]at H
      exact absurd H (by simp)
     rw[if_neg c17]at H
     exact absurd H (by simp)
    rw[if_neg c16]at H
    exact absurd H (by simp)
   ·rw[if_neg c15]at H
    have Jg:decide (gY<(bH.length:Int))=false:=decide_eq_false c15
    clear c15
    simp only[Option.some.injEq,Prod.mk.injEq]at H
    obtain⟨rfl,rfl⟩:=H
    obtain⟨akh,aki,akj,akk,aaw,akl,akm,akn⟩:=HI0.out
    have aax:=eZ aaw
    have aay:=fP aaw
    clear aaw akl
    have ZN:=AJ.out
    have ZO:=tQ.out
    have arw:=Qb.out
    have arx:=qJ.out
    have ako:wr.cell? ⟨nW,0,none⟩=some (.slice ET xH.length EU):=(aj lg.out 0).trans rfl
    have akp:wr.cell? ⟨nW,1,none⟩=some (u265001):=(aj lg.out 1).trans rfl
    have akq:=ak lg.out 0
    have akr:=ak lg.out 1
    have adH:=aar.out
    have adI:=nM.out
    have EC:wr.cell? ⟨ow,0,none⟩=some (.slice none 0 0):=(aj mQ.out 0).trans rfl
    have ED:wr.cell? ⟨ow,1,none⟩=some (.slice none 0 0):=(aj mQ.out 1).trans rfl
    have EF:=ak mQ.out 0
    have EG:=ak mQ.out 1
    obtain⟨aks,akt,arz⟩:=Kd.dW iK.out
    subst arz
    go_wp2
    refine bodyPost_ret (results_cell_row rfl _ _ ow 27 #[.slice ET xH.length EU,.slice aks mI.length akt] (0,0) _ rfl (an7 mQ) Tryz.underlying27 rfl qz9) rfl ?_
    exact⟨_,_,qz7,by refine qpr ?_;exact Kd.bS (Kd.bX (p:=⟨ow,1,none⟩) (Kd.bX (p:=⟨ow,0,none⟩) (Kd.cO kT.out mQ.out (by decide)) (fun _ hk=>hk.2) (.slice ET xH.length EU)) (fun _ hk=>hk.2) (.slice aks mI.length akt)) (fun _ hk=>trivial),by refine qpr ?_;exact Kd.bS (Kd.bX (p:=⟨ow,1,none⟩) (Kd.bX (p:=⟨ow,0,none⟩) (Kd.cO iK.out mQ.out (by decide)) (fun _ hk=>hk.2) (.slice ET xH.length EU)) (fun _ hk=>hk.2) (.slice aks mI.length akt)) (fun _ hk=>trivial),aep HI0 nM qJ,ajX HB HI0 CF MG,aer HK uR EW⟩
end Go.Proofs.YtalkmhnlgfncmaaGreatDoor.X
end
section
/- The reference's l08Can. Conditions: none. -/
namespace Go.Proofs.YtalkmhnlgfncmaaGreatDoor.X
open Go.RowKit Go.Proofs.YtalkmhnlgfncmaaGreatDoorW.aC Go.Proofs.YtalkmhnlgfncmaaGreatDoorW.aN Go.Proofs.YtalkmhnlgfncmaaGreatDoorW.aT
set_option maxHeartbeats 8000000 in
set_option maxRecDepth 100000 in
theorem UH (k:Nat) (g:Nat) (l0:List Int) (l1:List S40) (A:Option Addr) (c:Nat) (m:List Int) (w0 w:World) (hI:dK w0 w g l0 l1) (hB:Below w0.heap.size w0 w) (hm:Kd.C (Kd.int .i64) w A m.length m) (hc:m.length≤c) (hf:∀ ad,A=some ad→0<m.length→ad.block≠g) (h1:bN.f k l0 l1=some false):
  Calls Tryz.prog 43 #[.pointer (some ⟨g,0,none⟩),.slice A m.length c] w fun e w'=>e= .returned (.bool false)∧dK w0 w' g l0 l1∧Below w0.heap.size w0 w'∧aI w w' g none:=by
 have HhI:=ah.mk hI
 have HhB:=ah.mk hB
 have Hhm:=ah.mk hm
 have Hhc:=ah.mk hc
 have Hhf:=ah.mk hf
 have Hh1:=ah.mk h1
 clear hI hB hm hc hf h1
 have HI:=HhI
 have HB:=HhB
 have HK:=ah.mk (aI.refl w g none)
 clear HhI HhB
 go_enter Tryz.func43,Tryz.ntmps43
 go_wp2_with (first
  |(go_at_call 21;refine(bN.calls k g l0 l1 false w0 _ HI.out HB.out Hh1.out).mono ?_;rintro e wn ⟨rfl,hi,hb,hk⟩;have n0_:=ah.mk (aI.trans HK.out hk (.inl rfl));clear HI HB HK hk;have HI:=ah.mk hi;have HB:=ah.mk hb;have HK:=n0_;clear hi hb n0_;obtain⟨Aa,ca,Ab,cb,hg,hgg,q0,q1⟩:=HI.out;have cg0:=eZ hg;clear hg hgg q0 q1))
 go_ret
 exact⟨rfl,HI.out,HB.out,HK.out⟩
set_option maxHeartbeats 8000000 in
set_option maxRecDepth 100000 in
theorem UJ (k:Nat) (g:Nat) (l0:List Int) (l1:List S40) (A:Option Addr) (c:Nat) (m:List Int) (w0 w:World) (hI:dK w0 w g l0 l1) (hB:Below w0.heap.size w0 w) (hm:Kd.C (Kd.int .i64) w A m.length m) (hc:m.length≤c) (hf:∀ ad,A=some ad→0<m.length→ad.block≠g) (h1:bN.f k l0 l1=some true) (h2:bO.f k (l0.length:Int) m=some false):
  Calls Tryz.prog 43 #[.pointer (some ⟨g,0,none⟩),.slice A m.length c] w fun e w'=>e= .returned (.bool false)∧dK w0 w' g l0 l1∧Below w0.heap.size w0 w'∧aI w w' g none:=by
 have HhI:=ah.mk hI
 have HhB:=ah.mk hB
 have Hhm:=ah.mk hm
 have Hhc:=ah.mk hc
 have Hhf:=ah.mk hf
 have Hh1:=ah.mk h1
 have Hh2:=ah.mk h2
 clear hI hB hm hc hf h1 h2
 have HI:=HhI
 have HB:=HhB
 have HK:=ah.mk (aI.refl w g none)
 clear HhI HhB
 go_enter Tryz.func43,Tryz.ntmps43
 go_wp2_with (first
  |(go_at_call 21;refine(bN.calls k g l0 l1 true w0 _ HI.out HB.out Hh1.out).mono ?_;rintro e wn ⟨rfl,hi,hb,hk⟩;have n0_:=ah.mk (aI.trans HK.out hk (.inl rfl));clear HI HB HK hk;have HI:=ah.mk hi;have HB:=ah.mk hb;have HK:=n0_;clear hi hb n0_;obtain⟨Aa,ca,Ab,cb,hg,hgg,q0,q1⟩:=HI.out;have cg0:=eZ hg;clear hg hgg q0 q1)
  |(go_at_call 65;refine(bO.calls k (l0.length:Int) A c m false _ (Kd.Nr 0 Hhm.out HK.out Hhf.out) Hhc.out Hh2.out).mono ?_;rintro e wn ⟨rfl,hd⟩;obtain⟨q,hq⟩:=hd;subst hq;replace HK:=ah.mk (pJ HK.out q);replace HI:=ah.mk (dK.drewN HI.out q);replace HB:=ah.mk (bZ HB.out q);clear cg0))
 go_ret
 exact⟨rfl,HI.out,HB.out,HK.out⟩
set_option maxHeartbeats 8000000 in
set_option maxRecDepth 100000 in
theorem UK (k:Nat) (g:Nat) (l0:List Int) (l1:List S40) (A:Option Addr) (c:Nat) (m:List Int) (r1:List Int) (r2:List S40) (b:Bool) (w0 w:World) (hI:dK w0 w g l0 l1) (hB:Below w0.heap.size w0 w) (hm:Kd.C (Kd.int .i64) w A m.length m) (hc:m.length≤c) (hf:∀ ad,A=some ad→0<m.length→ad.block≠g) (h1:bN.f k l0 l1=some true) (h2:bO.f k (l0.length:Int) m=some true) (h3:bn.f k l0 l1 m=some (r1,r2)) (h4:aD.f k r1 r2=some b):
  Calls Tryz.prog 43 #[.pointer (some ⟨g,0,none⟩),.slice A m.length c] w fun e w'=>e= .returned (.bool b)∧dK w0 w' g l0 l1∧Below w0.heap.size w0 w'∧aI w w' g none:=by
 have HhI:=ah.mk hI
 have HhB:=ah.mk hB
 have Hhm:=ah.mk hm
 have Hhc:=ah.mk hc
 have Hhf:=ah.mk hf
 have Hh1:=ah.mk h1
 have Hh2:=ah.mk h2
 have Hh3:=ah.mk h3
 have Hh4:=ah.mk h4
 clear hI hB hm hc hf h1 h2 h3 h4
 have HI:=HhI
 have HB:=HhB
 have HK:=ah.mk (aI.refl w g none)
 clear HhI HhB
 go_enter Tryz.func43,Tryz.ntmps43
 go_wp2_with (first
  |(go_at_call 21;refine(bN.calls k g l0 l1 true w0 _ HI.out HB.out Hh1.out).mono ?_;rintro e wn ⟨rfl,hi,hb,hk⟩;have n0_:=ah.mk (aI.trans HK.out hk (.inl rfl));clear HI HB HK hk;have HI:=ah.mk hi;have HB:=ah.mk hb;have HK:=n0_;clear hi hb n0_;obtain⟨Aa,ca,Ab,cb,hg,hgg,q0,q1⟩:=HI.out;have cg0:=eZ hg;clear hg hgg q0 q1)
  |(go_at_call 65;refine(bO.calls k (l0.length:Int) A c m true _ (Kd.Nr 0 Hhm.out HK.out Hhf.out) Hhc.out Hh2.out).mono ?_;rintro e wn ⟨rfl,hd⟩;obtain⟨q,hq⟩:=hd;subst hq;replace HK:=ah.mk (pJ HK.out q);replace HI:=ah.mk (dK.drewN HI.out q);replace HB:=ah.mk (bZ HB.out q);clear cg0)
  |(go_at_call 41;refine(bn.calls k g l0 l1 A c m r1 r2 w0 _ HI.out HB.out (Kd.Nr 0 Hhm.out HK.out Hhf.out) Hhc.out Hhf.out Hh3.out).mono ?_;rintro e wn ⟨v0,v1,rfl,hr0,hr1,hi,hb,hk⟩;have n0_:=ah.mk (aI.trans HK.out hk (.inl rfl));clear HI HB HK hk;have HI:=ah.mk hi;have HB:=ah.mk hb;have HK:=n0_;clear hi hb n0_;obtain⟨A0,c0,e0⟩:=Kd.dW hr0;subst e0;obtain⟨A1,c1,e1⟩:=Kd.dW hr1;subst e1;have HO0:=ah.mk (Kd.dF hr0).2.2;have HO1:=ah.mk (Kd.dF hr1).2.2;clear hr0 hr1;obtain⟨W3,hW3⟩:∃ W3,W3=wn:=⟨_,rfl⟩;subst hW3)
  |((with_reducible refine aH (N:=5) rfl ?_);refine qbx (N:=5) (cs:=#[.slice none 0 0,.slice none 0 0]) (t:=27) ?_;intro g5 hg wb bR hb;have HG:=ah.mk hg;have BX:=ah.mk bR;have HBB:=ah.mk hb;clear hg bR hb;have z0:=ak BX.out 0;have z1:=ak BX.out 1;have x0:wb.cell? ⟨g5,0,none⟩=some (.slice none 0 0):=(aj BX.out 0).trans rfl;have x1:wb.cell? ⟨g5,1,none⟩=some (.slice none 0 0):=(aj BX.out 1).trans rfl)
  |(go_at_call 39;have P0:=aW (cs':=#[.slice A0 r1.length c0,.slice A1 r2.length c1]) (aW (cs':=#[.slice A0 r1.length c0,.slice none 0 0]) BX.out 0 (.slice A0 r1.length c0) rfl) 1 (.slice A1 r2.length c1) rfl;have PB:=bF (j:=1) (v:=.slice A1 r2.length c1) (bF (j:=0) (v:=.slice A0 r1.length c0) HBB.out (Nat.le_of_eq HG.out.symm)) (Nat.le_of_eq HG.out.symm);refine(aD.calls k g5 r1 r2 b _ _ ⟨A0,c0,A1,c1,P0,Nat.le_of_eq HG.out.symm,HO0.out,HO1.out⟩ PB Hh4.out).mono ?_;rintro e wz ⟨rfl,hi,hb,hk⟩;clear P0 PB hi hk;have HF:=ah.mk hb;clear hb))
 go_ret
 exact⟨rfl,dK.below HI.out HF.out,av HB.out HF.out,aI.trans HK.out (aI.of_below HF.out g none) (.inl rfl)⟩
def iF.f (k:Nat) (l0:List Int) (l1:List S40) (m:List Int):Option Bool:=
 (bN.f k l0 l1).bind fun a=>if a=true then(bO.f k (l0.length:Int) m).bind fun b=>if b=true then(bn.f k l0 l1 m).bind fun r=>aD.f k r.1 r.2 else some false else some false
theorem iF.mono:∀ a0 a1 a2 k,LeO (iF.f k a0 a1 a2) (iF.f (k+1) a0 a1 a2):=by
 intro a0 a1 a2 k
 unfold iF.f
 refine LeO.bind (bN.mono a0 a1 k) (fun a=>?_)
 split
 ·refine LeO.bind (bO.mono _ a2 k) (fun b=>?_)
  split
  ·exact LeO.bind (bn.mono a0 a1 a2 k) (fun r=>aD.mono r.1 r.2 k)
  exact LeO.refl _
 exact LeO.refl _
theorem iF.calls (k:Nat) (g:Nat) (dX:List Int) (bH:List (S40)) (A1:Option Addr) (c1:Nat) (l1:List Int) (r:Bool) (w0 w:World) (hI:dK w0 w g dX bH) (hB:Below w0.heap.size w0 w) (hr1:Kd.C (Kd.int .i64) w A1 l1.length l1) (hc1:l1.length≤c1) (hf1:∀ ad,A1=some ad→0<l1.length→ad.block≠g) (h:iF.f k dX bH l1=some r):
  Calls Tryz.prog 43 #[.pointer (some ⟨g,0,none⟩),.slice A1 l1.length c1] w fun e w'=>e= .returned (.bool r)∧dK w0 w' g dX bH∧Below w0.heap.size w0 w'∧aI w w' g none:=by
 unfold iF.f at h
 obtain⟨a,ha,h⟩:=Option.bind_eq_some_iff.mp h
 cases a with
 |false=>
  rw[if_neg (by simp)]at h
  obtain rfl:=Option.some.inj h
  exact UH k g dX bH A1 c1 l1 w0 w hI hB hr1 hc1 hf1 ha
 |true=>
  rw[if_pos rfl]at h
  obtain⟨b,hb,h⟩:=Option.bind_eq_some_iff.mp h
  cases b with
  |false=>
   rw[if_neg (by simp)]at h
   obtain rfl:=Option.some.inj h
   exact UJ k g dX bH A1 c1 l1 w0 w hI hB hr1 hc1 hf1 ha hb
  |true=>
   rw[if_pos rfl]at h
   obtain⟨⟨r1,r2⟩,hr,h⟩:=Option.bind_eq_some_iff.mp h
   exact UK k g dX bH A1 c1 l1 r1 r2 r w0 w hI hB hr1 hc1 hf1 ha hb hr h
end Go.Proofs.YtalkmhnlgfncmaaGreatDoor.X
end
section
/- Moves of registers: both ways tell the same. Conditions: as each lemma says. -/
namespace Go.Proofs.YtalkmhnlgfncmaaGreatDoor.X
open Go.RowKit Go.Proofs.YtalkmhnlgfncmaaGreatDoorW.aC Go.Proofs.YtalkmhnlgfncmaaGreatDoorW.aN Go.Proofs.YtalkmhnlgfncmaaGreatDoorW.aT Go.Proofs.YtalkmhnlgfncmaaGreatDoor.iP
def mvW (m:List Int) (w:S40):S40:=⟨w.f0,w.f1,wrap64 ((wrap64 (w.f2+rd m w.f1)) - rd m w.f0)⟩
theorem AO (m:List Int) (ws:List S40) (d0:List Int) (hm:ws.length≤16) (hw:∀ w,w∈ws→fQ m.length w):∀ (e i k:Nat) (out:List S40),i+e=ws.length→out.length≤i→e<k→
  bI.l0 k m ws (ws.length:Int) i d0 out=some (d0,out++(ws.drop i).map (mvW m))
 |0,i,k,out,hi,ho,hk=>by
  cases k with
  |zero=>omega
  |succ k=>rw[bI.l0,if_neg (by omega),List.drop_of_length_le (by omega)];simp
 |e+1,i,k,out,hi,ho,hk=>by
  cases k with
  |zero=>omega
  |succ k=>
   have hlt:i<ws.length:=by omega
   obtain⟨o1,o2,o3,o4,o5,o6⟩:=hw _ (List.getElem_mem hlt)
   have ih:=AO m ws d0 hm hw e (i+1) k (out++[mvW m ws[i]]) (by omega) zT (by omega)
   rw[Int.natCast_add,Int.natCast_one]at ih
   rw[bI.l0,if_pos (by omega),if_pos (by omega),if_pos (by omega),rX ws i hlt,w64 (n:=(i:Int)+1) (by omega) (by omega),if_pos (by omega),if_pos (by omega),if_pos (by omega),if_pos (by omega),if_pos (by omega),List.drop_eq_getElem_cons hlt,List.map_cons]
   have e1:(⟨ws[i].f0,ws[i].f1,wrap64 ((wrap64 (ws[i].f2+rd m ws[i].f1)) - rd m ws[i].f0)⟩:S40)=mvW m ws[i]:=rfl
   rw[e1,ih];simp
theorem AP (m:List Int) (ws:List S40) (l0 d0:List Int) (hm:ws.length≤16) (hw:∀ w,w∈ws→fQ m.length w):∀ (e i k:Nat) (out:List S40),i+e=ws.length→out.length≤i→e<k→
  bn.l0 k m i l0 ws d0 out=some (d0,out++(ws.drop i).map (mvW m))
 |0,i,k,out,hi,ho,hk=>by
  cases k with
  |zero=>omega
  |succ k=>rw[bn.l0,if_neg (by omega),List.drop_of_length_le (by omega)];simp
 |e+1,i,k,out,hi,ho,hk=>by
  cases k with
  |zero=>omega
  |succ k=>
   have hlt:i<ws.length:=by omega
   obtain⟨o1,o2,o3,o4,o5,o6⟩:=hw _ (List.getElem_mem hlt)
   have ih:=AP m ws l0 d0 hm hw e (i+1) k (out++[mvW m ws[i]]) (by omega) zT (by omega)
   rw[Int.natCast_add,Int.natCast_one]at ih
   rw[bn.l0,if_pos (by omega),if_pos (by omega),rX ws i hlt,w64 (n:=(i:Int)+1) (by omega) (by omega),if_pos (by omega),if_pos (by omega),if_pos (by omega),if_pos (by omega),if_pos (by omega),List.drop_eq_getElem_cons hlt,List.map_cons]
   have e1:(⟨ws[i].f0,ws[i].f1,wrap64 ((wrap64 (ws[i].f2+rd m ws[i].f1)) - rd m ws[i].f0)⟩:S40)=mvW m ws[i]:=rfl
   rw[e1,ih];simp
theorem GU (k:Nat) (l0:List Int) (ws:List S40) (m:List Int) (h0:l0.length≤8) (hm:ws.length≤16) (hw:∀ w,w∈ws→fQ m.length w) (hk:100<k):bI.f k l0 ws m=some (l0,ws.map (mvW m)):=by
 unfold bI.f fZ.f
 have:=AO m ws l0 hm hw ws.length 0 k [] (by omega) (by simp) (by omega)
 rw[show ((0:Nat):Int)=0 from rfl]at this
 rw[if_pos (by omega),Option.bind_some,this];simp
theorem GV (k:Nat) (l0:List Int) (ws:List S40) (m:List Int) (h0:l0.length≤8) (hm:ws.length≤16) (hw:∀ w,w∈ws→fQ m.length w) (hk:100<k):bn.f k l0 ws m=some (l0,ws.map (mvW m)):=by
 unfold bn.f jQ.f
 have:=AP m ws l0 l0 hm hw ws.length 0 k [] (by omega) (by simp) (by omega)
 rw[show ((0:Nat):Int)=0 from rfl]at this
 rw[Option.bind_some,if_pos zT,Option.bind_some,List.nil_append,this];simp
noncomputable def yg (l0:List Int) (ws:List S40) (m:List Int):Bool:=iV l0 ws&&(decide (m.length=l0.length)&&(m.all mv&&wE l0 (ws.map (mvW m))))
theorem Fe {l0:List Int} {ws:List S40} (h:iV l0 ws=true):(1≤l0.length∧l0.length≤8)∧ws.length≤16∧(∀ d,d∈l0→0≤d∧d≤100)∧∀ w,w∈ws→fQ l0.length w:=by
 unfold iV at h
 rw[Bool.and_eq_true]at h
 exact tN h.1
theorem UL (k:Nat) (l0:List Int) (ws:List S40) (m:List Int) (h0:l0.length≤2000000) (h1:ws.length≤2000000) (hm:m.length≤2000000) (hk:4000000<k):iF.f k l0 ws m=some (yg l0 ws m):=by
 unfold iF.f yg
 rw[JK k l0 ws (by omega) (by omega) (by omega),Option.bind_some]
 cases hv:iV l0 ws with
 |false=>rfl
 |true=>
  obtain⟨hn,hl,-,hw⟩:=Fe hv
  rw[if_pos rfl,Bool.true_and]
  by_cases hq:m.length=l0.length
  ·rw[← hq,UE k m (by omega) (by omega),Option.bind_some,decide_eq_true rfl,Bool.true_and]
   cases hmv:m.all mv with
   |false=>rfl
   |true=>
    rw[if_pos rfl,Bool.true_and,GV k l0 ws m (by omega) hl (by rw[hq];exact hw) (by omega),Option.bind_some]
    exact La k l0 _ (by omega) zT (by omega)
  ·have:bO.f k (l0.length:Int) m=some false:=by unfold bO.f;rw[if_neg (by omega)]
   rw[this,decide_eq_false hq];rfl
theorem Fg (k:Nat) (l0:List Int) (ws:List S40) (m:List Int) (hm:m.length≤2000000) (hk:4000000<k):iE.f k l0 ws m=some (yg l0 ws m):=by
 unfold iE.f yg
 rw[mZ k l0 ws (by omega),Option.bind_some]
 cases hv:iV l0 ws with
 |false=>rfl
 |true=>
  obtain⟨hn,hl,-,hw⟩:=Fe hv
  rw[if_pos rfl,Bool.true_and]
  by_cases hq:m.length=l0.length
  ·rw[if_pos (by omega),PD k m (by omega) (by omega),Option.bind_some,decide_eq_true hq,Bool.true_and]
   cases hmv:m.all mv with
   |false=>rfl
   |true=>
    rw[if_pos rfl,Bool.true_and,GU k l0 ws m (by omega) hl (by rw[hq];exact hw) (by omega),Option.bind_some,Lb k l0 _ (by omega),Option.bind_some]
  ·rw[if_neg (by omega),decide_eq_false hq];rfl
end Go.Proofs.YtalkmhnlgfncmaaGreatDoor.X
end
section
/- The program's movesFor: the least solution of the constraints, or none. Plain; conditions: as each lemma says. -/
namespace Go.Proofs.YtalkmhnlgfncmaaGreatDoor.lU
open Go.RowKit Go.Proofs.YtalkmhnlgfncmaaGreatDoorW.aC Go.Proofs.YtalkmhnlgfncmaaGreatDoorW.aN Go.Proofs.YtalkmhnlgfncmaaGreatDoorW.aT
open Go.Proofs.YtalkmhnlgfncmaaGreatDoor.X Go.Proofs.YtalkmhnlgfncmaaGreatDoor.iP
variable {d:List Int} {ws:List S40} {n:Nat} {P:Int} {M:Nat→Nat→Bt}
theorem aaz {w:S40} (hw:w∈ws):Cn P n ws M w.f0.toNat w.f1.toNat (- w.f2):=List.mem_append.2 (.inl (List.mem_map.2 ⟨w,hw,rfl⟩))
theorem aaA {i j:Nat} (hi:i<n) (hj:j<n) (hf:(M i j).f=true) (hd:(M i j).d>P):Cn P n ws M i j (1 - (M i j).r):=by
 refine List.mem_append.2 (.inr ?_)
 unfold eP
 refine List.mem_flatMap.2 ⟨i,List.mem_range.2 hi,List.mem_flatMap.2 ⟨j,List.mem_range.2 hj,?_⟩⟩
 unfold ePs
 rw[if_pos ⟨hf,hd⟩]
 exact List.mem_singleton.2 rfl
theorem Li {u v:Nat} {x:Int} (h:Cn P n ws M u v x):(∃ w,w∈ws∧u=w.f0.toNat∧v=w.f1.toNat∧x= - w.f2)∨(u<n∧v<n∧(M u v).f=true∧(M u v).d>P∧x=1 - (M u v).r):=by
 unfold Cn eA at h
 rcases List.mem_append.1 h with h|h
 ·obtain⟨w,h1,h2⟩:=List.mem_map.1 h
  unfold eW at h2
  simp only[Prod.mk.injEq]at h2
  exact .inl ⟨w,h1,h2.1.symm,h2.2.1.symm,h2.2.2.symm⟩
 unfold eP at h
 obtain⟨i,hi,h⟩:=List.mem_flatMap.1 h
 obtain⟨j,hj,h⟩:=List.mem_flatMap.1 h
 rw[List.mem_range]at hi hj
 unfold ePs at h
 split at h
 ·rename_i hc
  rw[List.mem_singleton]at h
  simp only[Prod.mk.injEq]at h
  obtain⟨rfl,rfl,rfl⟩:=h
  exact .inr ⟨hi,hj,hc.1,hc.2,rfl⟩
 cases h
theorem aaB (hw:∀ w,w∈ws→fQ n w):∀ u v x,Cn P n ws M u v x→u<n∧v<n:=by
 intro u v x h
 rcases Li h with⟨w,h1,h2,h3,h4⟩|⟨h1,h2,h3⟩
 ·have:=hw w h1
  unfold fQ at this
  omega
 exact⟨h1,h2⟩
theorem Far.mono {C:Nat→Nat→Int→Prop} {k k':Nat} {f:Nat→Int} (h:Far C n k f) (hk:k'≤k):Far C n k' f:=fun m v s hm hw=>h m v s (by omega) hw
/-- What is known of a list of moves that answers the constraints best. -/
structure Best (C:Nat→Nat→Int→Prop) (n:Nat) (m:List Int):Prop where
 len:m.length=n
 sol:Sol C n fun v=>rd m (v:Int)
 least:∀ L,Sol C n L→∀ v,v<n→rd m (v:Int)≤L v
theorem Qj (l:List Int) (v:Nat) (h:l.length≤v):rd l (v:Int)=0:=by
 unfold rd
 rw[Int.toNat_natCast,List.getD_eq_getElem?_getD,List.getElem?_eq_none h];rfl
theorem WJ {x y:List Int} (hl:x.length=y.length) (h:∀ v:Nat,v<x.length→rd x (v:Int)=rd y (v:Int)):x=y:=by
 apply List.ext_getElem hl
 intro i h1 h2
 have:=h i h1
 unfold rd at this
 rwa [Int.toNat_natCast,List.getD_eq_getElem?_getD,List.getD_eq_getElem?_getD,List.getElem?_eq_getElem h1,List.getElem?_eq_getElem h2]at this
theorem Best.same {C:Nat→Nat→Int→Prop} {m m':List Int} (h:Best C n m) (h':Best C n m'):m=m':=by
 refine WJ (by rw[h.len,h'.len]) fun v hv=>?_
 have hv:v<n:=by rw[← h.len];exact hv
 have h1:rd m (v:Int)≤rd m' (v:Int):=h.least _ h'.sol v hv
 have h2:rd m' (v:Int)≤rd m (v:Int):=h'.least _ h.sol v hv
 omega
theorem aku (K:Nat) (h8:n≤8) (h16:ws.length≤16) (hw:∀ w,w∈ws→fQ n w) (hM:∀ i j,(M i j).f=true→0≤(M i j).r∧(M i j).r≤1000000) (hK:4000000<K):
  ∀ (e i:Nat) (m:List Int),e+i=n+1→m.length=n→Bn (80*i) (fun v=>rd m (v:Int))→Snd (Cn P n ws M) n (fun v=>rd m (v:Int))→Far (Cn P n ws M) n i (fun v=>rd m (v:Int))→(e=0→∀ L,¬Sol (Cn P n ws M) n L)→
  ∃ R,mvF K P n d ws (kQ n M) e m=some R∧((R=([],false)∧∀ L,¬Sol (Cn P n ws M) n L)∨∃ m',Best (Cn P n ws M) n m'∧R=(m',yg d ws m')):=by
 have hC:=aaB (P:=P) (M:=M) hw
 intro e
 induction e with
 |zero=>exact fun i m _ _ _ _ _ h0=>⟨_,rfl,.inl ⟨rfl,h0 rfl⟩⟩
 |succ e ih=>
  intro i m hi hl hb hs hf h0
  obtain⟨hU,hB⟩:=Mt P M h8 h16 hw hM hl (t:=80*i) (by omega) hb
  have hlen:(lH P n ws (kQ n M) m).1.length=n:=by rw[JG];exact hl
  have hes:∀ e,e∈eA P n ws M→Cn P n ws M e.1 e.2.1 e.2.2:=fun e he=>he
  have h1:(fun v:Nat=>rd (lH P n ws (kQ n M) m).1 (v:Int))=(ups (eA P n ws M) (mU (m,false))).1:=congrArg Prod.fst hU
  have h2:(lH P n ws (kQ n M) m).2=(ups (eA P n ws M) (mU (m,false))).2:=congrArg Prod.snd hU
  have hs0:Snd (Cn P n ws M) n (mU (m,false)).1:=hs
  have hf0:Far (Cn P n ws M) n i (mU (m,false)).1:=hf
  rw[mvF]
  by_cases hfl:(lH P n ws (kQ n M) m).2=true
  ·rw[if_pos hfl]
   refine ih (i+1) _ (by omega) hlen (by rw[Nat.mul_add];exact hB) (by rw[h1];exact Iz hC _ _ hes hs0) (by rw[h1];exact KQ (fun u v x h=>h) hf0) fun he L hL=>?_
   have:=NI hC hL hes hs0 (hf0.mono (by omega))
   rw[this]at h2
   rw[h2]at hfl
   exact Bool.noConfusion hfl
  ·rw[if_neg hfl]
   have hfl:(lH P n ws (kQ n M) m).2=false:=by simpa using hfl
   rw[hfl]at h2
   obtain⟨_,q2,q3⟩:=DT _ _ h2.symm
   rw[q2]at h1
   rw[Fg K d ws _ (by omega) hK,Option.bind_some]
   refine⟨_,rfl,.inr ⟨_,⟨hlen,?_,?_⟩,rfl⟩⟩
   ·rw[h1]
    exact⟨fun v hv=>(hb v).1,fun u v x hc=>q3 _ hc⟩
   intro L hL v hv
   have e1:rd (lH P n ws (kQ n M) m).1 (v:Int)=(mU (m,false)).1 v:=congrFun h1 v
   rw[e1]
   obtain⟨k,hk⟩:=hs0 v hv
   exact hL.ge hk
theorem Dl (n v:Nat):rd (List.replicate n 0) (v:Int)=0:=by
 unfold rd
 rw[Int.toNat_natCast,List.getD_eq_getElem?_getD,List.getElem?_replicate]
 split<;>rfl
theorem WK (K:Nat) (h8:n≤8) (h16:ws.length≤16) (hw:∀ w,w∈ws→fQ n w) (hM:∀ i j,(M i j).f=true→0≤(M i j).r∧(M i j).r≤1000000) (hK:4000000<K):
  ∃ R,mvF K P n d ws (kQ n M) (n+1) (List.replicate n 0)=some R∧((R=([],false)∧∀ L,¬Sol (Cn P n ws M) n L)∨∃ m',Best (Cn P n ws M) n m'∧R=(m',yg d ws m')):=by
 have hC:=aaB (P:=P) (M:=M) hw
 refine aku K h8 h16 hw hM hK (n+1) 0 _ (by omega) (List.length_replicate ..) (fun v=>?_) (fun v hv=>?_) (fun m v s hm hh=>?_) (fun h=>by omega)
 ·simp only[Dl];omega
 ·simp only[Dl];exact⟨0,.start hv⟩
 ·have:m=0:=by omega
  subst this
  cases hh
  simp only[Dl];exact Int.le_refl _
end Go.Proofs.YtalkmhnlgfncmaaGreatDoor.lU
end
section
namespace Go.Proofs.YtalkmhnlgfncmaaGreatDoor.X
open Go.RowKit Go.Proofs.YtalkmhnlgfncmaaGreatDoorW.aC Go.Proofs.YtalkmhnlgfncmaaGreatDoorW.aN Go.Proofs.YtalkmhnlgfncmaaGreatDoorW.aT
attribute [local go_sem] fq fu gJ gK dN dO fA fB
/-! ### spec_l00Max: function 64 -/
def oz.f (a0:Int) (a1:Int):Option (Int):=if a0>a1 then(some a0)else(some a1)
set_option maxHeartbeats 8000000 in
set_option maxRecDepth 100000 in
theorem oz.calls (a0:Int) (a1:Int) (r:Int) (w:World) (h:oz.f a0 a1=some r):
  Calls Tryz.prog 64 #[.int .i64 a0,.int .i64 a1] w fun e w'=>e= .returned (.int .i64 r)∧gQ w w':=by
 have H:(if a0>a1 then(some a0)else(some a1))=some r:=h
 clear h
 by_cases c3:a0>a1
 ·rw[if_pos c3]at H
  have Cy:decide (a1<a0)=true:=decide_eq_true c3
  clear c3
  obtain rfl:=Option.some.inj H
  go_enter Tryz.func64,Tryz.ntmps64
  go_wp2
  go_ret
  exact⟨iY,vM⟩
 ·rw[if_neg c3]at H
  have Cy:decide (a1<a0)=false:=decide_eq_false c3
  clear c3
  obtain rfl:=Option.some.inj H
  go_enter Tryz.func64,Tryz.ntmps64
  go_wp2
  go_ret
  exact⟨iY,vM⟩
end Go.Proofs.YtalkmhnlgfncmaaGreatDoor.X
end
section
/- A region that draws its order: quiet operations, calls among them, and a tail in one order behind all of them. One walk serves. Conditions: as the lemma says. -/
namespace Go.Proofs.YtalkmhnlgfncmaaGreatDoor.X
open Go
section
variable {P:Program} {ops:Array Oper} {md:Region.Mode} {C:World→Prop}
/-- Whatever of the head comes up, and then L. -/
def Qk (P:Program) (md:Region.Mode) (ops:Array Oper) (C:World→Prop) (n:Nat) (L:Array Bool→Act→Prop):Nat→Array Bool→Act→Prop
 |0,listed,a=>L listed a
 |f+1,listed,a=>Region.ready md ops listed≠[]∧∀ i∈Region.ready md ops listed,i<n∧qOp P ops C i (Qk P md ops C n L f (listed.setIfInBounds i true)) a
theorem yh {n g:Nat} {L:Array Bool→Act→Prop} {Q':Exit→Act→World→Prop} (hL:∀ listed a w,C w→L listed a→wpAny P md ops Q' g listed a w):
  ∀ (f:Nat) (listed:Array Bool) (a:Act) (w:World),C w→Qk P md ops C n L f listed a→wpAny P md ops Q' (f+g) listed a w
 |0,listed,a,w,hw,h=>by rw[Nat.zero_add];exact hL _ _ _ hw h
 |f+1,listed,a,w,hw,h=>by
  rw[show f+1+g=(f+g)+1 by omega]
  exact⟨fun h0=>absurd h0 h.1,fun i hi=>wpOp_of_qOp hw (fun a' w' hw' h'=>yh hL f _ a' w' hw' h') (h.2 i hi).2⟩
theorem JX {n i:Nat} {oi:Oper} {v:Value} {L:Array Bool→Act→Prop} (hi:ops[i]?=some oi) (hsel:∀ (j:Nat) (o:Oper) cs b,ops[j]?=some o→o.op≠ .select cs b)
  (hs:Region.sinkB md ops n=true) (hc:Region.chainB md ops n=true) (hn:n<ops.size) (hin:i<n) (hdone:∀ listed a,L listed a→∀ j∈Region.ready md ops listed,n≤j):
  ∀ (f:Nat) (listed:Array Bool) (a:Act),HeadInv md ops n listed→
   (∀ j oj,ops[j]?=some oj→j≠i→listed.getD j true=false→(∀ e∈oj.after,Region.binds md e=true→e.on≠i)→oi.apart ops oj=true)→
   i∈Region.ready md ops listed→YieldsIn P ops C oi v a→Qk P md ops C n L f (listed.setIfInBounds i true) (a.put oi.dst v)→Qk P md ops C n L (f+1) listed a:=by
 intro f
 induction f with
 |zero=>
  intro listed a inv _ hr hy H
  refine⟨List.ne_nil_of_mem hr,fun j hj=>?_⟩
  have hjn:j<n:=Nat.lt_of_not_le fun hh=>tail_waits hs hc hn inv _ i rfl hin (mem_ready.1 hr).1 j hh hj
  refine⟨hjn,?_⟩
  by_cases hji:j=i
  ·subst hji;exact hy.qOp hi H
  ·exact absurd (hdone _ _ H j (ready_mono hj hji)) (by omega)
 |succ f ih=>
  intro listed a inv hfree hr hy H
  have hun:=(mem_ready.1 hr).1
  refine⟨List.ne_nil_of_mem hr,fun j hj=>?_⟩
  have hjn:j<n:=Nat.lt_of_not_le fun hh=>tail_waits hs hc hn inv _ i rfl hin hun j hh hj
  refine⟨hjn,?_⟩
  by_cases hji:j=i
  ·subst hji;exact hy.qOp hi H
  ·obtain⟨hjun,oj,hoj,hall⟩:=mem_ready.1 hj
   have hnot:∀ e∈oj.after,Region.binds md e=true→e.on≠i:=fun e he hb heq=>by
    have:=hall e he hb
    rw[heq,getD_both hun]at this
    cases this
   have h2:=qOp_put hoj (hfree j oj hoj hji hjun hnot) (fun cs b=>hsel i oi cs b hi) (fun cs b=>hsel j oj cs b hoj) hy (H.2 j (ready_mono hj hji)).2
   refine qOp_mono (fun a' h3=>ih (listed.setIfInBounds j true) a' (inv.set hj hjn) (fun k ok hk hki hku hno=>hfree k ok hk hki (by
    by_cases hjk:j=k
    ·subst hjk;exact hjun
    rwa [getD_set_ne true hjk]at hku) hno) (ready_mono hr (Ne.symm hji)) h3.1 (by rw[Array.setIfInBounds_comm _ _ hji];exact h3.2)) h2
theorem GX {n g:Nat} {Lq:Act→Prop} (hsel:Region.noSelect ops=true) (hs:Region.sinkB md ops n=true) (hc:Region.chainB md ops n=true) (hn:n<ops.size):
  ∀ (l:List Oper) (k:Nat) (listed:Array Bool) (a:Act),(∀ j,j<l.length→l[j]?=ops[k+j]?)→k+l.length=n→HeadInv md ops n listed→
  Region.lexHead md ops g l.length k listed=true→wpQuiet P ops C Lq l a→Qk P md ops C n (fun listed' a'=>Region.seqB md ops g n listed'=true∧Lq a') l.length listed a
 |[],k,listed,a,_,hk,_,hB,h=>by
  have:k=n:=by simpa using hk
  subst this
  exact⟨by simpa [Region.lexHead]using hB,h⟩
 |o::l,k,listed,a,hl,hk,inv,hB,h=>by
  have h0:ops[k]?=some o:=by simpa using(hl 0 (by simp)).symm
  simp only[List.length_cons,Region.lexHead,Bool.and_eq_true]at hB
  obtain⟨⟨hr,hf⟩,hB'⟩:=hB
  have hkn:k<n:=by simp only[List.length_cons]at hk;omega
  have hr':k∈Region.ready md ops listed:=by simpa using hr
  obtain⟨v,hy,hK⟩:=yieldsIn_of_qOp (i:=k) h0 (show qOp P ops C k (wpQuiet P ops C Lq l) a by unfold qOp;simp only[h0];exact h)
  exact JX h0 (Region.noSelect_spec hsel) hs hc hn hkn (fun _ _ hL=>seqB_ready hL.1) l.length listed a inv (Region.free_spec h0 hf) hr' hy
   (GX hsel hs hc hn l (k+1) _ _ (fun j hj=>by have:=hl (j+1) zT;simpa [Nat.add_assoc,Nat.add_comm 1 j]using this) (by simp only[List.length_cons]at hk;omega) (inv.set hr' hkn) hB' hK)
/-- The operations ahead of number n are quiet; those from n on come in one order, behind all of them. -/
theorem xJ {id:Nat} {Q:Exit→Act→World→Prop} {a:Act} {w:World} {l:List Oper} (n:Nat) (hm:P.follows .mixedOrders=true) (hB:Region.lexTailB .any l.toArray n=true)
  (h:wpQuiet P l.toArray (fun w'=>∃ k,w'=w.drewN k) (fun a'=>∀ w',(∃ k,w'=w.drewN k)→wpList P l.toArray Q (l.drop n) a' w') (l.take n) a):(Code.region id l.toArray true).wp P Q a w:=by
 simp only[Region.lexTailB,Bool.and_eq_true,decide_eq_true_eq]at hB
 obtain⟨⟨⟨⟨hsel,hn⟩,hs⟩,hc⟩,hlex⟩:=hB
 have hn':n<l.length:=by simpa using hn
 have htl:(l.take n).length=n:=by simp;omega
 have hdl:(l.drop n).length=l.toArray.size - n:=by simp
 have inv0:HeadInv .any l.toArray n (Array.replicate l.toArray.size false):=
  ⟨by simp,fun j oj _ hl=>(by rw[getD_replicate_false]at hl;cases hl),fun t _ ht=>getD_in (by simpa using ht) (getD_replicate_false _ _)⟩
 have H:=GX (md:=.any) (C:=fun w'=>∃ k,w'=w.drewN k) (g:=l.toArray.size - n) hsel hs hc hn (l.take n) 0 _ a (fun j hj=>by
  have hj':j<n:=by rw[htl]at hj;exact hj
  simp[hj']) (by simpa using htl) inv0 (by rw[htl];exact hlex) h
 refine wp_region_any hm ?_
 have:=yh (Q':=Q) (g:=l.toArray.size - n) (fun listed a' w' hw' hL=>by
  have:=wpAny_of_seq (md:=.any) (Q':=Q) (l.drop n) n listed a' w' (fun j=>by simp[List.getElem?_drop]) (by rw[hdl];exact hL.1) (hL.2 w' hw')
  rwa [hdl]at this) _ _ _ { w with drawn:=w.drawn+1 } ⟨1,rfl⟩ H
 rw[htl,show n+(l.toArray.size - n)=l.toArray.size by omega]at this
 exact this
end
end Go.Proofs.YtalkmhnlgfncmaaGreatDoor.X
end
section
/- The reference's l08Ends: its loops. Conditions: wires lead from vertices to vertices. -/
namespace Go.Proofs.YtalkmhnlgfncmaaGreatDoor.X
open Go.RowKit Go.Proofs.YtalkmhnlgfncmaaGreatDoorW.aC Go.Proofs.YtalkmhnlgfncmaaGreatDoorW.aN Go.Proofs.YtalkmhnlgfncmaaGreatDoorW.aT
def smx (a b:Int):Int:=if a>b then a else b
theorem aev (a b:Int):oz.f a b=some (smx a b):=by unfold oz.f smx;split<;>rfl
def qK (d x:List Int) (w:S40):List Int:=if w.f2=0 then x.set w.f1.toNat (smx (rd x w.f1) (wrap64 (rd x w.f0+rd d w.f1)))else x
def endRound (d:List Int) (ws:List S40):Nat→List Int→List Int
 |0,x=>x
 |j+1,x=>qK d (endRound d ws j x) (au ws (j:Int))
def dY (d:List Int) (ws:List S40):Nat→List Int
 |0=>d
 |i+1=>endRound d ws ws.length (dY d ws i)
def lI (P:Int) (n:Nat) (x:List Int):Nat→List Bool
 |0=>List.replicate n false
 |i+1=>(lI P n x i).set i (decide (rd x (i:Int)>P))
set_option maxHeartbeats 16000000 in
set_option maxRecDepth 100000 in
theorem Ql (g:Nat) (A0:Option Addr) (c0:Nat) (d:List Int) (A1:Option Addr) (c1:Nat) (ws:List S40) (P:Int) (n m:Nat) (hn0:n=d.length) (hm0:m=ws.length) (h1:1≤n) (hn:n≤1000000) (hm:m≤1000000) (hw:∀ j:Nat,j<m→jg n (au ws (j:Int))) (w:World)
  (hb1:w.heap[g]?=some (.cells #[.slice A0 n c0,.slice A1 m c1] 27 (0,0))) (hr0:Kd.C (Kd.int .i64) w A0 n d) (hr1:Kd.C k40 w A1 m ws):
  Calls Tryz.prog 42 #[.pointer (some ⟨g,0,none⟩),.int .i64 P] w fun e w'=>∃ v:Value,e= .returned v∧Kd.R Kd.bool 4 w' w.heap.size (fun _=>True) v (lI P n (dY d ws n) n)∧Below w.heap.size w w':=by
 have HR0:=ah.mk hr0
 have HR1:=ah.mk hr1
 have HW:=ah.mk hw
 have HN0:=ah.mk hn0
 have HM0:=ah.mk hm0
 have HB1:=ah.mk hb1
 have HCL:ah (jQ.f d=some d):=⟨by unfold jQ.f;rw[Option.bind_some,if_pos zT,List.nil_append]⟩
 have oI:w.cell? ⟨g,0,none⟩=some (.slice A0 n c0):=(aj hb1 0).trans rfl
 have uV:w.cell? ⟨g,1,none⟩=some (.slice A1 m c1):=(aj hb1 1).trans rfl
 clear hr0 hr1 hw hm0 hn0 hb1
 have HB:=ah.mk (Below.refl w.heap.size w)
 go_enter Tryz.func42,Tryz.ntmps42
 go_wp2_with (first
  |(go_at_call 63;have T:=jQ.calls A0 c0 d d w (by rw[← HN0.out];exact HR0.out) trivial HCL.out;rw[← HN0.out]at T;refine T.mono ?_;clear T;rintro e wz ⟨v1,rfl,ho,hb⟩;obtain⟨gR,cR,rfl,hgb,hgl,cl,hcl⟩:=Kd.zw ho (by rw[← HN0.out];exact h1);rw[← HN0.out]at ho;have HO:=ah.mk ho;have GR:=ah.mk hgb;clear ho hgb hgl hcl cl oI uV;rw[← HN0.out];replace HB:=ah.mk (av HB.out hb);replace HB1:=ah.mk (aA HB1.out hb);clear hb))
 go_loopg [7] n (fun kq v7 w'=>∃ i:Nat,v7= .int .i64 i∧ah (i+kq=n)∧ah (w'.heap[g]?=some (.cells #[.slice A0 n c0,.slice A1 m c1] 27 (0,0)))∧ah (Kd.R (Kd.int .i64) 2 w' w.heap.size (fun _=>True) (.slice (some ⟨gR,0,none⟩) n cR) (dY d ws i))∧ah (Below w.heap.size w w'))
 case atStart=>exact⟨0,Db,⟨by omega⟩,HB1,HO,HB⟩
 case round=>
  clear HB1 HO HB
  obtain⟨i,rfl,HE,Q1,QR,QB⟩:=hrel
  by_cases hlt:i<n
  ·cases gk with
   |zero=>have:=HE.out;omega
   |succ gq=>
   have e1:decide ((i:Int)<(n:Int))=true:=decide_eq_true (by omega)
   have e1':decide (i<n)=true:=decide_eq_true hlt
   go_wp2
   obtain⟨wo,rfl⟩:∃ wo:World,wo=wr:=⟨_,rfl⟩
   go_loopg [8] m (fun kq v8 w'=>∃ j:Nat,v8= .int .i64 j∧ah (j+kq=m)∧ah (w'.heap[g]?=some (.cells #[.slice A0 n c0,.slice A1 m c1] 27 (0,0)))∧ah (Kd.R (Kd.int .i64) 2 w' w.heap.size (fun _=>True) (.slice (some ⟨gR,0,none⟩) n cR) (endRound d ws j (dY d ws i)))∧ah (Below w.heap.size w w'))
   case atStart=>exact⟨0,Db,⟨by omega⟩,Q1,QR,QB⟩
   case round=>
    clear Q1 QR QB
    obtain⟨j,rfl,HJ,Q1,QR,QB⟩:=hrel
    have uV:wr.cell? ⟨g,1,none⟩=some (.slice A1 m c1):=(aj Q1.out 1).trans rfl
    by_cases hlj:j<m
    ·cases gk with
     |zero=>have:=HJ.out;omega
     |succ gq2=>
     obtain⟨ad,hA,x0,x1,x2⟩:=kH (Kd.gX HR1.out QB.out) (j:Int) (by omega) (by omega)
     cases hA
     rw[Int.toNat_natCast]at x0 x1 x2
     obtain⟨o0,o1,o2,o3⟩:=HW.out j hlj
     obtain⟨X,hX⟩:∃ X,X=endRound d ws j (dY d ws i):=⟨_,rfl⟩
     have HX:ah (endRound d ws (j+1) (dY d ws i)=qK d X (au ws (j:Int))):=⟨by rw[hX];rfl⟩
     rw[← hX]at QR
     clear hX
     obtain⟨el,hel⟩:∃ el,el=au ws (j:Int):=⟨_,rfl⟩
     rw[← hel]at x0 x1 x2 o0 o1 o2 o3 HX
     clear hel
     obtain⟨a,ha⟩:∃ a:Nat,el.f0=a:=⟨el.f0.toNat,by omega⟩
     obtain⟨b,hb⟩:∃ b:Nat,el.f1=b:=⟨el.f1.toNat,by omega⟩
     obtain⟨f0,f1',f2⟩:=el
     simp only at x0 x1 x2 o0 o1 o2 o3 ha hb
     subst ha
     subst hb
     have hi0:a<n:=by omega
     have hi1:b<n:=by omega
     have p0:(0≤(a:Int))=True:=eq_true (by omega)
     have p1:((a:Int)<(n:Int))=True:=eq_true (by omega)
     have q0:(0≤(b:Int))=True:=eq_true (by omega)
     have q1:((b:Int)<(n:Int))=True:=eq_true (by omega)
     have p2:(0≤(j:Int))=True:=eq_true (by omega)
     have p3:((j:Int)<(m:Int))=True:=eq_true (by omega)
     have wj:IntKind.i64.wrap ((j:Int)+1)=(j:Int)+1:=IntWalk.i64_in _ ⟨by omega,by omega⟩
     cases hf:(f2==0)with
     |false=>
      have HF:ah (¬f2=0):=⟨by simpa using hf⟩
      go_wp2_with ((with_reducible refine aH (N:=9) rfl ?_);refine qbx (N:=9) (cs:=#[.int .i64 0,.int .i64 0,.int .i64 0]) (t:=40) ?_;intro g5 hg wn bR hb5;have B5:=ah.mk bR;have HB5:=ah.mk hb5;have GE5:=ah.mk (show wr.heap.size≤g5 from Mi);clear hg hb5 bR;have agr:=ak B5.out 0;have ags:=ak B5.out 1;have agt:=ak B5.out 2;have agu:wn.cell? ⟨g5,0,none⟩=some (.int .i64 0):=(aj B5.out 0).trans rfl;have agv:wn.cell? ⟨g5,1,none⟩=some (.int .i64 0):=(aj B5.out 1).trans rfl;have agw:wn.cell? ⟨g5,2,none⟩=some (.int .i64 0):=(aj B5.out 2).trans rfl;have an9:∀ u v t,(((wn.setCell ⟨g5,0,none⟩ u).setCell ⟨g5,1,none⟩ v).setCell ⟨g5,2,none⟩ t).cell? ⟨g5,2,none⟩=some t:=fun u v t=>(aj (aW (aW (aW B5.out 0 u rfl) 1 v rfl) 2 t rfl) 2).trans rfl)
      have HBX:=bF (j:=2) (v:=.int .i64 f2) (bF (j:=1) (v:=.int .i64 (b:Int)) (bF (j:=0) (v:=.int .i64 (a:Int)) HB5.out GE5.out) GE5.out) GE5.out
      have p1':=ah.mk (aA Q1.out HBX)
      have pR:=ah.mk (Kd.aM QR.out HBX)
      have pb:=ah.mk (av QB.out HBX)
      go_roundg gq2
      case measure=>omega
      case rel=>exact⟨j+1,by go_num,⟨qz3 HJ⟩,p1',⟨by rw[HX.out];unfold qK;rw[if_neg HF.out];exact pR.out⟩,pb⟩
     |true=>
      have HF:ah (f2=0):=⟨by simpa using hf⟩
      go_wp2_with ((with_reducible refine aH (N:=9) rfl ?_);refine qbx (N:=9) (cs:=#[.int .i64 0,.int .i64 0,.int .i64 0]) (t:=40) ?_;intro g5 hg wn bR hb5;have B5:=ah.mk bR;have HB5:=ah.mk hb5;have GE5:=ah.mk (show wr.heap.size≤g5 from Mi);clear hg hb5 bR;have agr:=ak B5.out 0;have ags:=ak B5.out 1;have agt:=ak B5.out 2;have agu:wn.cell? ⟨g5,0,none⟩=some (.int .i64 0):=(aj B5.out 0).trans rfl;have agv:wn.cell? ⟨g5,1,none⟩=some (.int .i64 0):=(aj B5.out 1).trans rfl;have agw:wn.cell? ⟨g5,2,none⟩=some (.int .i64 0):=(aj B5.out 2).trans rfl;have an9:∀ u v t,(((wn.setCell ⟨g5,0,none⟩ u).setCell ⟨g5,1,none⟩ v).setCell ⟨g5,2,none⟩ t).cell? ⟨g5,2,none⟩=some t:=fun u v t=>(aj (aW (aW (aW B5.out 0 u rfl) 1 v rfl) 2 t rfl) 2).trans rfl)
      have HBX:=bF (j:=2) (v:=.int .i64 f2) (bF (j:=1) (v:=.int .i64 (b:Int)) (bF (j:=0) (v:=.int .i64 (a:Int)) HB5.out GE5.out) GE5.out) GE5.out
      have p1':=ah.mk (aA Q1.out HBX)
      have pR:=ah.mk (Kd.aM QR.out HBX)
      have pb:=ah.mk (av QB.out HBX)
      have p5:=ah.mk (aW (cs':=#[.int .i64 (a:Int),.int .i64 (b:Int),.int .i64 f2]) (aW (cs':=#[.int .i64 (a:Int),.int .i64 (b:Int),.int .i64 0]) (aW (cs':=#[.int .i64 (a:Int),.int .i64 0,.int .i64 0]) B5.out 0 (.int .i64 (a:Int)) rfl) 1 (.int .i64 (b:Int)) rfl) 2 (.int .i64 f2) rfl)
      clear agu agv agw agr ags agt an9 Q1 QR QB B5 HBX HB5 GE5 uV
      generalize ((wn.setCell ⟨g5,0,none⟩ (.int .i64 (a:Int))).setCell ⟨g5,1,none⟩ (.int .i64 (b:Int))).setCell ⟨g5,2,none⟩ (.int .i64 f2)=W5 at p1' pR p5 pb ⊢
      obtain⟨rA,zA⟩:=Kd.sK 0 pR.out (a:Int) o0 o1
      obtain⟨rB,zB⟩:=Kd.sK 0 pR.out (b:Int) o2 o3
      obtain⟨dd,hD,dA⟩:=Kd.iC (Kd.gX HR0.out pb.out) (b:Int) o2 o3
      cases hD
      rw[Int.toNat_natCast]at rA rB zB dA
      have rA':W5.cell? ⟨gR,a,none⟩=some (.int .i64 (rd X (a:Int))):=rA
      have rB':W5.cell? ⟨gR,b,none⟩=some (.int .i64 (rd X (b:Int))):=rB
      have adj:W5.cell? ⟨g,0,none⟩=some (.slice (some dd) n c0):=(aj p1'.out 0).trans rfl
      have aoa:W5.cell? ⟨g5,0,none⟩=some (.int .i64 (a:Int)):=(aj p5.out 0).trans rfl
      have aob:W5.cell? ⟨g5,1,none⟩=some (.int .i64 (b:Int)):=(aj p5.out 1).trans rfl
      clear rA rB zA x0 x1 x2 hf
      have HC:ah (∀ W,Calls Tryz.prog 64 #[.int .i64 (rd X (b:Int)),.int .i64 (IntKind.i64.wrap (rd X (a:Int)+rd d (b:Int)))] W fun e w'=>e= .returned (.int .i64 (smx (rd X (b:Int)) (wrap64 (rd X (a:Int)+rd d (b:Int)))))∧∃ nd,w'=W.drewN nd):=⟨fun W=>by
       have T:=oz.calls (rd X (b:Int)) (wrap64 (rd X (a:Int)+rd d (b:Int))) (smx (rd X (b:Int)) (wrap64 (rd X (a:Int)+rd d (b:Int)))) W (aev _ _)
       rw[IntWalk.i64_left]
       exact T.mono fun e w' ⟨he,hd⟩=>⟨he,by obtain⟨nd,hd⟩:=hd;exact⟨_,hd⟩⟩⟩
      refine xJ 24 qz9 qz9 ?_
      simp only[List.take_succ_cons,List.take_zero,List.drop_succ_cons,List.drop_zero]
      repeat(quiet_step (exact Calls.quiet_of (HC.out _)))
      refine wpQuiet_nil ?_
      intro _ hw'
      obtain⟨nq,hw''⟩:=hw'
      subst hw''
      have HNE:g≠gR:=by
       obtain⟨cells,q⟩:=Kd.lC pR.out gR Wq
       exact jq p1'.out q (by decide)
      have hq1:=dJ (zu p1'.out nq) (p:=⟨gR,b,none⟩) HNE (.int .i64 (smx (rd X (b:Int)) (wrap64 (rd X (a:Int)+rd d (b:Int)))))
      have hqR:=Kd.CW (Kd.Iw pR.out nq) (b:Int) (smx (rd X (b:Int)) (wrap64 (rd X (a:Int)+rd d (b:Int))))
      rw[Int.toNat_natCast]at hqR
      have hqb:=(bZ pb.out nq).setCell (p:=⟨gR,b,none⟩) GR.out (.int .i64 (smx (rd X (b:Int)) (wrap64 (rd X (a:Int)+rd d (b:Int)))))
      have zN:(W5.drewN nq).frozen? ⟨gR,b,none⟩=false:=zB
      have cN:(W5.drewN nq).cell? ⟨gR,b,none⟩=some (.int .i64 (rd X (b:Int))):=rB'
      have h1q:=ah.mk hq1
      have hRq:=ah.mk hqR
      have hbq:=ah.mk hqb
      clear rA' rB' zB adj aoa aob dA hq1 hqR hqb p1' pR p5 pb HNE
      go_wp2
      go_roundg gq2
      case measure=>omega
      case rel=>exact⟨j+1,by go_num,⟨qz3 HJ⟩,h1q,⟨by rw[HX.out];unfold qK;rw[if_pos HF.out,Int.toNat_natCast];exact hRq.out⟩,hbq⟩
    have e:j=m:=by have:=HJ.out;omega
    have f1:decide ((j:Int)<(m:Int))=false:=decide_eq_false (by omega)
    have f2:decide (j<m)=false:=decide_eq_false hlj
    have QR2:ah (Kd.R (Kd.int .i64) 2 wr w.heap.size (fun _=>True) (.slice (some ⟨gR,0,none⟩) n cR) (dY d ws (i+1))):=⟨by rw[dY, ← HM0.out, ← e];exact QR.out⟩
    have wi:IntKind.i64.wrap ((i:Int)+1)=(i:Int)+1:=IntWalk.i64_in _ ⟨by omega,by omega⟩
    clear hlj e
    go_wp2
    go_roundg gq
    case measure=>omega
    case rel=>exact⟨i+1,by go_num,⟨qz3 HE⟩,Q1,QR2,QB⟩
  have e:i=n:=by have:=HE.out;omega
  have f1:decide ((i:Int)<(n:Int))=false:=decide_eq_false (by omega)
  have f2:decide (i<n)=false:=decide_eq_false hlt
  obtain⟨X,hX⟩:∃ X,X=dY d ws n:=⟨_,rfl⟩
  have QR2:ah (Kd.R (Kd.int .i64) 2 wr w.heap.size (fun _=>True) (.slice (some ⟨gR,0,none⟩) n cR) X):=⟨by have h:=QR.out;rw[e, ← hX]at h;exact h⟩
  have HXX:=ah.mk hX
  clear hlt e QR Q1 hX
  have hmk:decide (0≤(n:Int))=true:=decide_eq_true (by omega)
  go_wp2_with ((with_reducible refine aH (N:=71) rfl ?_);refine Kd.FW Kd.bool _ 4 rfl (N:=71) rfl 80 _ _ rfl (n:Int) rfl rfl Tryz.underlying80 (.bool false) 1 Wv rfl (by decide) (by omega) false (ok:=fun _=>True) (okp:=fun _=>True) rfl (fun _ hk=>hk) trivial (by omega) (by omega) (Below.refl _ _) (Nat.le_refl _) ?_;intro v71 w4 ho5 hb hg_ lF;clear hg_ lF;rw[Int.toNat_natCast]at ho5;obtain⟨gB,cB,hv,hgb,_,_⟩:=Kd.zw ho5 (by rw[List.length_replicate];omega);rw[List.length_replicate]at hv;subst hv;have HO:=ah.mk (Kd.dV ho5 (aG QB.out));have GB:=ah.mk (Nat.le_trans (aG QB.out) hgb);replace QB:=ah.mk (av QB.out hb);replace QR2:=ah.mk (Kd.aM QR2.out hb);clear hb ho5 hgb)
  go_loopg [11] n (fun kq v11 w'=>∃ i:Nat,v11= .int .i64 i∧ah (i+kq=n)∧ah (Kd.R (Kd.int .i64) 2 w' w.heap.size (fun _=>True) (.slice (some ⟨gR,0,none⟩) n cR) X)∧ah (Kd.R Kd.bool 4 w' w.heap.size (fun _=>True) (.slice (some ⟨gB,0,none⟩) n cB) (lI P n X i))∧ah (Below w.heap.size w w'))
  case atStart=>exact⟨0,Db,⟨by omega⟩,QR2,HO,QB⟩
  case round=>
   clear QR2 HO QB f1 f2
   obtain⟨i,rfl,HE,QR,QO,QB⟩:=hrel
   by_cases hlt:i<n
   ·cases gk with
    |zero=>have:=HE.out;omega
    |succ gq=>
    obtain⟨rA,zA⟩:=Kd.sK 0 QR.out (i:Int) (by omega) (by omega)
    obtain⟨rB,zB⟩:=Kd.sK false QO.out (i:Int) (by omega) (by omega)
    rw[Int.toNat_natCast]at rA rB zB
    have rA':wr.cell? ⟨gR,i,none⟩=some (.int .i64 (rd X (i:Int))):=rA
    clear rA zA
    have p0:(0≤(i:Int))=True:=eq_true (by omega)
    have p1:((i:Int)<(n:Int))=True:=eq_true (by omega)
    have wi:IntKind.i64.wrap ((i:Int)+1)=(i:Int)+1:=IntWalk.i64_in _ ⟨by omega,by omega⟩
    have hO:=Kd.CW QO.out (i:Int) (decide (rd X (i:Int)>P))
    rw[Int.toNat_natCast]at hO
    obtain⟨cells,q⟩:=Kd.lC QO.out gB Wq
    have hR2:=ah.mk (Kd.bS (Kd.bX (p:=⟨gB,i,none⟩) (Kd.cO QR.out q (by decide)) (fun _ hk=>hk.2) (.bool (decide (rd X (i:Int)>P)))) (ok':=fun _=>True) (fun _ _=>trivial))
    have hOO:=ah.mk hO
    have hBB:=ah.mk (QB.out.setCell (p:=⟨gB,i,none⟩) GB.out (.bool (decide (rd X (i:Int)>P))))
    clear hO q
    go_wp2
    go_roundg gq
    case measure=>omega
    case rel=>exact⟨i+1,by go_num,⟨qz3 HE⟩,hR2,hOO,hBB⟩
   have e:i=n:=by have:=HE.out;omega
   have f1:decide ((i:Int)<(n:Int))=false:=decide_eq_false (by omega)
   have f2:decide (i<n)=false:=decide_eq_false hlt
   have QO2:ah (Kd.R Kd.bool 4 wr w.heap.size (fun _=>True) (.slice (some ⟨gB,0,none⟩) n cB) (lI P n X n)):=⟨by have h:=QO.out;rw[e]at h;exact h⟩
   clear hlt e QO
   go_wp2
   go_ret
   exact⟨_,rfl,by rw[← HXX.out];exact QO2.out,QB.out⟩
end Go.Proofs.YtalkmhnlgfncmaaGreatDoor.X
end
section
/- The reference's l08For, plainly: what its loops compute. Conditions: as the definitions say. -/
namespace Go.Proofs.YtalkmhnlgfncmaaGreatDoor.X
open Go.RowKit Go.Proofs.YtalkmhnlgfncmaaGreatDoorW.aC Go.Proofs.YtalkmhnlgfncmaaGreatDoorW.aN Go.Proofs.YtalkmhnlgfncmaaGreatDoorW.aT
def Dm (w:S40) (s:MC):MC:=if wrap64 (rd s.1 w.f0 - w.f2)>rd s.1 w.f1 then(s.1.set w.f1.toNat (wrap64 (rd s.1 w.f0 - w.f2)),true)else s
def fwN (ws:List S40) (s:MC):Nat→MC
 |0=>s
 |j+1=>Dm (au ws (j:Int)) (fwN ws s j)
def AQ (e:List Bool) (v:Nat) (s:MC):MC:=if lS false e (v:Int)=true then(s.1.set v (wrap64 (rd s.1 (v:Int)+1)),true)else s
def feN (e:List Bool) (s:MC):Nat→MC
 |0=>s
 |v+1=>AQ e v (feN e s v)
/-- Whether one of the first n is more than b. -/
def lJ (b:Int) (x:List Int):Nat→Bool
 |0=>false
 |v+1=>lJ b x v||decide (rd x (v:Int)>b)
instance agx (n:Nat) (l:List S40):Decidable (∀ w∈l,jg n w):=List.decidableBAll _ l
/-- What stands behind a round that raised along no wire. -/
def JY (K:Nat) (P:Int) (n:Nat) (d:List Int) (ws:List S40) (mv:List Int):Option MC:=
 (bn.f K d ws mv).bind fun p=>if p.1.length=n∧p.2.length≤1000000∧(∀ w∈p.2,jg n w)then some (feN (lI P n (dY p.1 p.2 n) n) (mv,false) n)else none
def Co (K:Nat) (P:Int) (n:Nat) (d:List Int) (ws:List S40):Nat→List Int→Option (List Int×Bool)
 |0,_=>none
 |e+1,mv=>
  (if (fwN ws (mv,false) ws.length).2=true then some (fwN ws (mv,false) ws.length)else JY K P n d ws (fwN ws (mv,false) ws.length).1).bind fun s=>
   if s.2=true then(if lJ 20 s.1 n=true then some ([],false)else Co K P n d ws e s.1)else(iF.f K d ws s.1).bind fun b=>some (s.1,b)
def gV.f (k:Nat) (l0:List Int) (l1:List S40) (a1:Int):Option (List Int×Bool):=
 if 1≤l0.length∧l0.length≤1000000∧l1.length≤1000000∧(∀ w∈l1,jg l0.length w)then(if lJ a1 l0 l0.length=true then some ([],false)else Co k a1 l0.length l0 l1 k (List.replicate l0.length 0))else none
theorem MH (P:Int) (n:Nat) (d:List Int) (ws:List S40) (K:Nat) (m:List Int):LeO (JY K P n d ws m) (JY (K+1) P n d ws m):=by
 unfold JY
 exact LeO.bind (bn.mono _ _ _ _) (fun _=>LeO.refl _)
theorem GY (P:Int) (n:Nat) (d:List Int) (ws:List S40) (K:Nat):∀ (e:Nat) (m:List Int),LeO (Co K P n d ws e m) (Co (K+1) P n d ws (e+1) m)
 |0,m=>fun r h=>by simp[Co]at h
 |e+1,m=>by
  rw[Co,show Co (K+1) P n d ws (e+1+1) m=_ from rfl]
  refine LeO.bind ?_ (fun s=>?_)
  ·split
   ·exact LeO.refl _
   exact MH _ _ _ _ _ _
  ·split
   ·split
    ·exact LeO.refl _
    exact GY P n d ws K e _
   exact LeO.bind (iF.mono _ _ _ _) (fun _=>LeO.refl _)
theorem gV.mono:∀ a0 a1 a2 k,LeO (gV.f k a0 a1 a2) (gV.f (k+1) a0 a1 a2):=by
 intro a0 a1 a2 k
 unfold gV.f
 split
 ·split
  ·exact LeO.refl _
  exact GY _ _ _ _ _ _ _
 exact LeO.refl _
end Go.Proofs.YtalkmhnlgfncmaaGreatDoor.X
end
section
/- The reference's l08For: it raises up to the least solution of the same constraints, or past the greatest count. Plain; conditions: as each lemma says. -/
namespace Go.Proofs.YtalkmhnlgfncmaaGreatDoor.lU
open Go.RowKit Go.Proofs.YtalkmhnlgfncmaaGreatDoorW.aC Go.Proofs.YtalkmhnlgfncmaaGreatDoorW.aN Go.Proofs.YtalkmhnlgfncmaaGreatDoorW.aT
open Go.Proofs.YtalkmhnlgfncmaaGreatDoor.X Go.Proofs.YtalkmhnlgfncmaaGreatDoor.iP
/-! ### More on rounds -/
theorem aew {t B:Nat} {s:Mv} (h:Bn t s.1) (e:Ed) (he:e.2.2≤B):Bn (t+B) (up s e).1:=by
 intro v
 have h1:=h v
 have h2:=h e.1
 have h3:=h e.2.1
 unfold up
 split
 ·show 0≤(if v=e.2.1 then s.1 e.1+e.2.2 else s.1 v)∧(if v=e.2.1 then s.1 e.1+e.2.2 else s.1 v)≤ _
  split<;>omega
 show 0≤s.1 v∧s.1 v≤ _
 omega
theorem WL {L:Nat→Int} {n:Nat}:∀ (es:List Ed) (s:Mv),(∀ e,e∈es→e.1<n∧L e.1+e.2.2≤L e.2.1)→(∀ v,v<n→s.1 v≤L v)→∀ v,v<n→(ups es s).1 v≤L v
 |[],_,_,h=>h
 |e::es,s,he,h=>by
  refine WL es (up s e) (fun x hx=>he x (List.mem_cons_of_mem _ hx)) fun v hv=>?_
  obtain⟨h1,h2⟩:=he e (List.mem_cons_self ..)
  unfold up
  split
  ·show (if v=e.2.1 then s.1 e.1+e.2.2 else s.1 v)≤L v
   split
   ·have:=h _ h1
    subst_vars
    omega
   exact h v hv
  ·exact h v hv
theorem Lj:∀ (es:List Ed) (s:Mv),(ups es s).2=true→s.2=true∨∃ e,e∈es∧s.1 e.2.1<(ups es s).1 e.2.1
 |[],s,h=> .inl h
 |d::es,s,h=>by
  by_cases hc:s.1 d.2.1<s.1 d.1+d.2.2
  ·refine .inr ⟨d,List.mem_cons_self ..,?_⟩
   have h1:=VR s d
   have h2:=Gd es (up s d) d.2.1
   show _<(ups es (up s d)).1 d.2.1
   omega
  ·have e:up s d=s:=by unfold up;rw[if_neg hc]
   have h':(ups es (up s d)).2=true:=h
   rw[e]at h'
   rcases Lj es s h' with h1|⟨x,h1,h2⟩
   ·exact .inl h1
   refine .inr ⟨x,List.mem_cons_of_mem _ h1,?_⟩
   show _<(ups es (up s d)).1 x.2.1
   rw[e];exact h2
theorem Qn:∀ (es:List Ed) (f:Nat→Int) (a b:Bool),(ups es (f,a)).1=(ups es (f,b)).1
 |[],_,_,_=>rfl
 |d::es,f,a,b=>by
  show (ups es (up (f,a) d)).1=(ups es (up (f,b) d)).1
  unfold up
  simp only
  split
  ·rfl
  ·exact Qn es f a b
/-! ### Sums -/
def Ph (f:Nat→Int):Nat→Int
 |0=>0
 |v+1=>Ph f v+f v
theorem aex {f g:Nat→Int}:∀ n,(∀ v,v<n→f v≤g v)→Ph f n≤Ph g n
 |0,_=>Int.le_refl _
 |n+1,h=>by
  have:=aex n fun v hv=>h v (by omega)
  have:=h n (by omega)
  rw[Ph,Ph];omega
theorem aey {f g:Nat→Int}:∀ n,(∀ v,v<n→f v≤g v)→(∃ v,v<n∧f v<g v)→Ph f n<Ph g n
 |0,_,h=>by obtain⟨v,hv,_⟩:=h;omega
 |n+1,h,⟨v,hv,hl⟩=>by
  have h1:=h n (by omega)
  rw[Ph,Ph]
  by_cases e:v=n
  ·subst e
   have:=aex v fun u hu=>h u (by omega)
   omega
  ·have:=aey n (fun u hu=>h u (by omega)) ⟨v,by omega,hl⟩
   omega
theorem WM {f:Nat→Int} {t:Int}:∀ n:Nat,(∀ v,v<n→f v≤t)→Ph f n≤t*n
 |0,_=>by simp[Ph]
 |n+1,h=>by
  have h1:=WM n fun v hv=>h v (by omega)
  have h2:=h n (by omega)
  rw[Ph,Int.natCast_add,Int.natCast_one,Int.mul_add,Int.mul_one];omega
theorem wI (b:Int) (x:List Int):∀ n,lJ b x n=true↔∃ v:Nat,v<n∧b<rd x (v:Int)
 |0=>by simp[lJ]
 |n+1=>by
  rw[lJ,Bool.or_eq_true,wI b x n,decide_eq_true_eq]
  constructor
  ·rintro(⟨v,h1,h2⟩|h)
   ·exact⟨v,by omega,h2⟩
   exact⟨n,by omega,h⟩
  ·rintro⟨v,h1,h2⟩
   by_cases e:v=n
   ·subst e;exact .inr h2
   exact .inl ⟨v,by omega,h2⟩
/-! ### Wires -/
variable {d:List Int} {ws:List S40} {n:Nat} {P:Int} {M:Nat→Nat→Bt}
theorem aaC {w:S40} (h:fQ n w) (s:MC):Dm w s=Av w s:=by
 unfold fQ at h
 unfold Dm Av qx
 rw[show rd s.1 ((w.f1.toNat:Nat):Int)=rd s.1 w.f1 by rw[Int.toNat_of_nonneg (by omega)]]
theorem aez (hw:∀ w,w∈ws→fQ n w) (s:MC):∀ j,j≤ws.length→fwN ws s j=mwN ws s j
 |0,_=>rfl
 |j+1,hj=>by
  rw[fwN,mwN,aez hw s j (by omega),rX ws j (by omega)]
  exact aaC (hw _ (List.getElem_mem _)) _
/-! ### Ends of slow paths without registers -/
def zEs (d:List Int) (w:S40):List Ed:=if w.f2=0 then [(w.f0.toNat,w.f1.toNat,rd d w.f0)]else []
def zs (d:List Int) (ws:List S40):List Ed:=ws.flatMap (zEs d)
def gd (d x:List Int):Nat→Int:=fun v=>rd x (v:Int) - rd d (v:Int)
def Zr (d:List Int) (ws:List S40) (u v:Nat) (x:Int):Prop:=(u,v,x)∈zs d ws
theorem WO {u v:Nat} {x:Int}:Zr d ws u v x↔∃ w,w∈ws∧w.f2=0∧u=w.f0.toNat∧v=w.f1.toNat∧x=rd d w.f0:=by
 unfold Zr zs
 rw[List.mem_flatMap]
 constructor
 ·rintro⟨w,h1,h2⟩
  unfold zEs at h2
  split at h2
  ·rw[List.mem_singleton]at h2
   simp only[Prod.mk.injEq]at h2
   exact⟨w,h1,‹_›,h2⟩
  cases h2
 rintro⟨w,h1,h2,rfl,rfl,rfl⟩
 refine⟨w,h1,?_⟩
 unfold zEs
 rw[if_pos h2]
 exact List.mem_singleton.2 rfl
theorem JZ (d x:List Int) (w:S40):(qK d x w).length=x.length:=by unfold qK;split<;>simp
theorem UM (hd:∀ v:Nat,0≤rd d (v:Int)∧rd d (v:Int)≤100) {w:S40} (hw:jg n w) {x:List Int} (hx:x.length=n) {t:Nat} (ht:t≤1000000) (hb:Bn t (gd d x)):gd d (qK d x w)=(ups (zEs d w) (gd d x,false)).1∧Bn (t+100) (gd d (qK d x w)):=by
 have key:gd d (qK d x w)=(ups (zEs d w) (gd d x,false)).1:=by
  unfold qK zEs
  by_cases h2:w.f2=0
  ·obtain⟨w1,w2,w3,w4⟩:=hw
   obtain⟨a,ha⟩:∃ a:Nat,w.f0=a:=⟨w.f0.toNat,by omega⟩
   obtain⟨b,hb'⟩:∃ b:Nat,w.f1=b:=⟨w.f1.toNat,by omega⟩
   have x1:=hb a
   have x2:=hb b
   unfold gd at x1 x2
   have d1:=hd a
   have d2:=hd b
   rw[if_pos h2,if_pos h2,ha,hb',Int.toNat_natCast,Int.toNat_natCast,w64 (by omega) (by omega)]
   show _=(up (gd d x,false) (a,b,rd d (a:Int))).1
   unfold up smx
   simp only
   have hset:∀ (y:Int) (v:Nat),rd (x.set b y) (v:Int)=if v=b then y else rd x (v:Int):=fun y v=>Pt x b y (by omega) v
   by_cases hc:gd d x b<gd d x a+rd d (a:Int)
   ·rw[if_pos hc]
    unfold gd at hc
    rw[if_neg (by omega)]
    funext v
    show rd (x.set b _) (v:Int) - rd d (v:Int)=if v=b then rd x (a:Int) - rd d (a:Int)+rd d (a:Int)else rd x (v:Int) - rd d (v:Int)
    rw[hset]
    by_cases e:v=b
    ·subst e;rw[if_pos rfl,if_pos rfl];omega
    rw[if_neg e,if_neg e]
   rw[if_neg hc]
   unfold gd at hc
   funext v
   show rd (x.set b _) (v:Int) - rd d (v:Int)=rd x (v:Int) - rd d (v:Int)
   rw[hset]
   by_cases e:v=b
   ·subst e;rw[if_pos rfl];split<;>omega
   rw[if_neg e]
  rw[if_neg h2,if_neg h2];rfl
 refine⟨key,?_⟩
 rw[key]
 unfold zEs
 split
 ·obtain⟨w1,w2,w3,w4⟩:=hw
  refine aew (s:=(gd d x,false)) hb _ ?_
  have:=(hd w.f0.toNat).2
  rw[Int.toNat_of_nonneg w1]at this
  exact this
 intro v;have:=hb v
 show 0≤gd d x v∧gd d x v≤ _
 omega
theorem GZ (hd:∀ v:Nat,0≤rd d (v:Int)∧rd d (v:Int)≤100) (hw:∀ w,w∈ws→jg n w) {x:List Int} (hx:x.length=n) {t:Nat} (ht:t+100*ws.length≤1000000) (hb:Bn t (gd d x)):∀ j,j≤ws.length→
  (endRound d ws j x).length=n∧gd d (endRound d ws j x)=(ups (zs d (ws.take j)) (gd d x,false)).1∧Bn (t+100*j) (gd d (endRound d ws j x))
 |0,_=>⟨hx,rfl,hb⟩
 |j+1,hj=>by
  obtain⟨h1,h2,h3⟩:=GZ hd hw hx ht hb j (by omega)
  obtain⟨g1,g2⟩:=UM hd (hw ws[j] (List.getElem_mem _)) h1 (t:=t+100*j) (by omega) h3
  rw[endRound,rX ws j (by omega)]
  refine⟨by rw[JZ];exact h1,?_,by rw[Nat.mul_add, ← Nat.add_assoc];exact g2⟩
  rw[g1,List.take_add_one,List.getElem?_eq_getElem (by omega),Option.toList_some]
  unfold zs
  rw[List.flatMap_append,Ay,List.flatMap_cons,List.flatMap_nil,List.append_nil,h2]
  exact Qn _ _ _ _
theorem akw (hw:∀ w,w∈ws→jg n w):∀ u v x,Zr d ws u v x→u<n∧v<n:=by
 intro u v x h
 obtain⟨w,h1,h2,rfl,rfl,h5⟩:=WO.1 h
 have:=hw w h1
 unfold jg at this
 omega
theorem xK (hdl:d.length=n) (hd:∀ v:Nat,0≤rd d (v:Int)∧rd d (v:Int)≤100) (h16:ws.length≤16) (hw:∀ w,w∈ws→jg n w):∀ i,i≤8→
  (dY d ws i).length=n∧Bn (1600*i) (gd d (dY d ws i))∧Snd (Zr d ws) n (gd d (dY d ws i))∧Far (Zr d ws) n i (gd d (dY d ws i))
 |0,_=>by
  have h0:∀ v,gd d (dY d ws 0) v=0:=fun v=>Int.sub_self _
  refine⟨hdl,fun v=>by rw[h0];omega,fun v hv=>⟨0,by rw[h0];exact .start hv⟩,fun m v s hm hh=>?_⟩
  have:m=0:=by omega
  subst this
  cases hh
  rw[h0];exact Int.le_refl _
 |i+1,hi=>by
  obtain⟨h1,h2,h3,h4⟩:=xK hdl hd h16 hw i (by omega)
  obtain⟨g1,g2,g3⟩:=GZ hd hw h1 (t:=1600*i) (by omega) h2 ws.length (Nat.le_refl _)
  rw[List.take_length]at g2
  rw[dY]
  refine⟨g1,fun v=>by have:=g3 v;omega,?_,?_⟩
  ·rw[g2];exact Iz (akw hw) _ _ (fun e he=>he) h3
  ·rw[g2];exact KQ (s:=(gd d (dY d ws i),false)) (fun u v x h=>h) h4
theorem pO (P:Int) (n:Nat) (x:List Int):∀ i,(lI P n x i).length=n
 |0=>List.length_replicate ..
 |i+1=>by rw[lI,List.length_set];exact pO P n x i
theorem He (P:Int) (n:Nat) (x:List Int):∀ i v:Nat,i≤n→lS false (lI P n x i) (v:Int)=(decide (v<i)&&decide (rd x (v:Int)>P))
 |0,v,_=>by
  unfold lS
  rw[Int.toNat_natCast,List.getD_eq_getElem?_getD,lI,List.getElem?_replicate]
  split<;>simp
 |i+1,v,hi=>by
  have ih:=He P n x i v (by omega)
  unfold lS at ih ⊢
  rw[Int.toNat_natCast,List.getD_eq_getElem?_getD]at ih ⊢
  rw[lI,List.getElem?_set]
  by_cases e:i=v
  ·subst e
   rw[if_pos rfl,if_pos (by rw[pO];omega)]
   simp
  ·rw[if_neg e,ih]
   congr 1
   rw[Bool.eq_iff_iff,decide_eq_true_eq,decide_eq_true_eq]
   omega
/-! ### Raises at ends -/
theorem MI (e:List Bool) (v:Nat) (s:MC):(AQ e v s).1.length=s.1.length:=by unfold AQ;split<;>simp
theorem WQ (e:List Bool) (m:List Int) (hm:m.length=n) {t:Nat} (ht:t≤1000000) (hb:Bn t fun v=>rd m (v:Int)):∀ j,j≤n→
  (feN e (m,false) j).1.length=n∧(∀ v:Nat,rd (feN e (m,false) j).1 (v:Int)=rd m (v:Int)+if v<j∧lS false e (v:Int)=true then 1 else 0)∧
  ((feN e (m,false) j).2=false→(feN e (m,false) j).1=m∧∀ v:Nat,v<j→lS false e (v:Int)=false)∧((feN e (m,false) j).2=true→∃ v:Nat,v<j∧lS false e (v:Int)=true)
 |0,_=>⟨hm,fun v=>by rw[if_neg (by omega)];show rd m _=rd m _+0;omega,fun _=>⟨rfl,fun v hv=>by omega⟩,fun h=>Bool.noConfusion h⟩
 |j+1,hj=>by
  obtain⟨h1,h2,h3,h4⟩:=WQ e m hm ht hb j (by omega)
  rw[feN]
  refine⟨by rw[MI];exact h1,?_⟩
  unfold AQ
  by_cases hc:lS false e (j:Int)=true
  ·rw[if_pos hc]
   refine⟨fun v=>?_,fun h=>Bool.noConfusion h,fun _=>⟨j,by omega,hc⟩⟩
   have hbj:=hb j
   simp only at hbj
   have ej:=h2 j
   rw[if_neg (fun h=>by omega)]at ej
   rw[ej,Int.add_zero,w64 (by omega) (by omega),Pt _ _ _ (by omega)]
   by_cases e:v=j
   ·subst e;rw[if_pos rfl,if_pos ⟨by omega,hc⟩]
   rw[if_neg e,h2 v]
   congr 1
   by_cases hq:v<j∧lS false ‹List Bool› (v:Int)=true
   ·rw[if_pos hq,if_pos ⟨by omega,hq.2⟩]
   rw[if_neg hq,if_neg (fun h=>hq ⟨by omega,h.2⟩)]
  ·rw[if_neg hc]
   refine⟨fun v=>?_,fun h=>⟨(h3 h).1,fun v hv=>?_⟩,fun h=>?_⟩
   ·rw[h2 v]
    congr 1
    by_cases hq:v<j∧lS false e (v:Int)=true
    ·rw[if_pos hq,if_pos ⟨by omega,hq.2⟩]
    rw[if_neg hq,if_neg (fun h=>hq ⟨by
     by_cases e:v=j
     ·subst e;exact absurd h.2 hc
     omega,h.2⟩)]
   ·by_cases e:v=j
    ·subst e;simpa using hc
    exact(h3 h).2 v (by omega)
   obtain⟨v,g1,g2⟩:=h4 h
   exact⟨v,by omega,g2⟩
end Go.Proofs.YtalkmhnlgfncmaaGreatDoor.lU
end
