/- My own texts of this seat and its words, merged: Xp14, CFewest, CMovedF, CMovGood, Xp12, CMoveFlow, Xp15, CShift, Xp7, CMvdParts. Conditions: as each lemma says. -/
import Derived.Test.YtalkmhnlgfncmaaGreatDoorI21
import Derived.Test.YtalkmhnlgfncmaaGreatDoorI23
import Derived.Test.YtalkmhnlgfncmaaGreatDoorI25
import Derived.Test.YtalkmhnlgfncmaaGreatDoorI22
import Derived.Test.YtalkmhnlgfncmaaGreatDoorI27
import Derived.Test.YtalkmhnlgfncmaaGreatDoorI28
import Derived.Test.YtalkmhnlgfncmaaGreatDoorI24
import Derived.Test.YtalkmhnlgfncmaaGreatDoorXSlim
set_option linter.unusedVariables false
set_option linter.unusedSimpArgs false
section
namespace Go.Proofs.YtalkmhnlgfncmaaGreatDoor.X
open Go.RowKit Go.Proofs.YtalkmhnlgfncmaaGreatDoorW.aC Go.Proofs.YtalkmhnlgfncmaaGreatDoorW.aN Go.Proofs.YtalkmhnlgfncmaaGreatDoorW.aT
attribute [local go_sem] fq fu gJ gK dN dO fA fB
/-! ### impl_FewestBetween: function 14 -/
def eX.f (k:Nat) (bK:List Int) (bf:List (S40)) (a1:Int) (a2:Int):Option (Int×Int×Bool):=(aX.f k bK bf).bind fun aeP=>(if aeP=true then((aU.f a1 0 (wrap64 ((bK.length:Int) - 1))).bind fun aeQ=>(if aeQ=true then((aU.f a2 0 (wrap64 ((bK.length:Int) - 1))).bind fun aeR=>(if aeR=true then((dh.f k bK bf).bind fun wX=>(if 0≤a1 then(if a1<(wX.length:Int)then(if 0≤a2 then(if a2<((nT wX a1).length:Int)then(some ((pU (nT wX a1) a2).f0,(pU (nT wX a1) a2).f1,(pU (nT wX a1) a2).f2))else(none))else(none))else(none))else(none)))else(some (0,0,false))))else(some (0,0,false))))else(some (0,0,false)))
set_option maxHeartbeats 8000000 in
set_option maxRecDepth 100000 in
theorem eX.calls (k:Nat) (eT:Option Addr) (eG:Nat) (bK:List Int) (fE:Option Addr) (eH:Nat) (bf:List (S40)) (a1:Int) (a2:Int) (r1:Int) (r2:Int) (r3:Bool) (w:World) (lZ:Kd.C (Kd.int .i64) w eT bK.length bK) (nV:bK.length≤eG) (lV:Kd.C k40 w fE bf.length bf) (nJ:bf.length≤eH) (h:eX.f k bK bf a1 a2=some (r1,r2,r3)):
  Calls Tryz.prog 14 #[.agg #[.slice eT bK.length eG,.slice fE bf.length eH],.int .i64 a1,.int .i64 a2] w fun e w'=>e= .returned (.tuple #[.int .i64 r1,.int .i64 r2,.bool r3])∧Below w.heap.size w w':=by
 have Ux:=Tryz.underlying27
 have aqy:=Tryz.underlying68
 have jT:=ah.mk lZ
 have kg:=ah.mk nV
 clear lZ nV
 have jU:=ah.mk lV
 have kC:=ah.mk nJ
 clear lV nJ
 have HB:=ah.mk (Below.refl w.heap.size w)
 have H:((aX.f k bK bf).bind fun aeP=>(if aeP=true then((aU.f a1 0 (wrap64 ((bK.length:Int) - 1))).bind fun aeQ=>(if aeQ=true then((aU.f a2 0 (wrap64 ((bK.length:Int) - 1))).bind fun aeR=>(if aeR=true then((dh.f k bK bf).bind fun wX=>(if 0≤a1 then(if a1<(wX.length:Int)then(if 0≤a2 then(if a2<((nT wX a1).length:Int)then(some ((pU (nT wX a1) a2).f0,(pU (nT wX a1) a2).f1,(pU (nT wX a1) a2).f2))else(none))else(none))else(none))else(none)))else(some (0,0,false))))else(some (0,0,false))))else(some (0,0,false))))=some (r1,r2,r3):=h
 clear h
 obtain⟨aeP,A40,H⟩:=Option.bind_eq_some_iff.mp H
 have A4:=ah.mk A40
 clear A40
 by_cases c5:aeP=true
 ·subst c5
  rw[if_pos rfl]at H
  obtain⟨aeQ,A60,H⟩:=Option.bind_eq_some_iff.mp H
  have A6:=ah.mk A60
  clear A60
  by_cases c7:aeQ=true
  ·subst c7
   rw[if_pos rfl]at H
   obtain⟨aeR,A80,H⟩:=Option.bind_eq_some_iff.mp H
   have A8:=ah.mk A80
   clear A80
   by_cases c9:aeR=true
   ·subst c9
    rw[if_pos rfl]at H
    obtain⟨wX,OB,H⟩:=Option.bind_eq_some_iff.mp H
    have A10:=ah.mk OB
    clear OB
    by_cases c11:0≤a1
    ·rw[if_pos c11]at H
     have Mc:decide (0≤a1)=true:=decide_eq_true c11
     clear c11
     by_cases c12:a1<(wX.length:Int)
     ·rw[if_pos c12]at H
      have IQ:decide (a1<(wX.length:Int))=true:=decide_eq_true c12
      clear c12
      by_cases c13:0≤a2
      ·rw[if_pos c13]at H
       have UU:decide (0≤a2)=true:=decide_eq_true c13
       clear c13
       by_cases c14:a2<((nT wX a1).length:Int)
       ·rw[if_pos c14]at H
        have aeS:decide (a2<((nT wX a1).length:Int))=true:=decide_eq_true c14
        clear c14
        simp only[Option.some.injEq,Prod.mk.injEq]at H
        obtain⟨rfl,rfl,rfl⟩:=H
        go_enter Tryz.func14,Tryz.ntmps14
        go_wp2_with (first|((with_reducible refine aH (N:=3) rfl ?_);refine qbx (N:=3) (cs:=#[.slice eT bK.length eG,.slice fE bf.length eH]) (t:=27) ?_;intro fF hg w15 bR hb;have dU:=ah.mk (bR);have AV:=ah.mk ((mK HB:w.heap.size≤fF));have jm:=ah.mk ((mK HB:w.heap.size≤fF));replace HB:=ah.mk (av (qz0 HB) hb);clear hb bR hg;have IE:w15.cell? ⟨fF,0,none⟩=some (.slice eT bK.length eG):=(aj dU.out 0).trans rfl;have IG:w15.cell? ⟨fF,1,none⟩=some (.slice fE bf.length eH):=(aj dU.out 1).trans rfl;have II:=ak dU.out 0;have IJ:=ak dU.out 1)|(go_at_call 9;(with_reducible refine(aX.calls k _ _ bK _ _ bf true _ ?bT ?bU ?eu ?eF A4.out).mono ?_);(case bT=>exact qz2 jT HB);(case bU=>exact jL kg);(case eu=>exact qz2 jU HB);(case eF=>exact jL kC);rintro e w17 ⟨rfl,hb⟩;replace dU:=ah.mk (aA (g:=fF) (o:=.cells #[.slice eT bK.length eG,.slice fE bf.length eH] 27 (0,0)) (dP dU) hb);replace HB:=ah.mk (av (qz4 HB jm) hb);(try clear hb);(try clear hb2);(try clear hk);(try clear hi))|(go_at_call 18;(with_reducible refine(aU.calls a1 0 (wrap64 ((bK.length:Int) - 1)) true _ A6.out).mono ?_);rintro e w' ⟨rfl,⟨nd,rfl⟩⟩;(try first|exact⟨rfl,_,World.drewN_drewN _ _ _⟩|exact⟨rfl,_,Eq.trans (World.drewN_drewN _ _ _) (congrArg (World.drewN _) (Nat.add_assoc _ _ _))⟩))|(go_at_call 18;(with_reducible refine(aU.calls a2 0 (wrap64 ((bK.length:Int) - 1)) true _ A8.out).mono ?_);rintro e w' ⟨rfl,⟨nd,rfl⟩⟩;(try first|exact⟨rfl,_,World.drewN_drewN _ _ _⟩|exact⟨rfl,_,Eq.trans (World.drewN_drewN _ _ _) (congrArg (World.drewN _) (Nat.add_assoc _ _ _))⟩);have Qw:w17.cell? ⟨fF,0,none⟩=some (.slice eT bK.length eG):=(aj dU.out 0).trans rfl;have Qx:w17.cell? ⟨fF,1,none⟩=some (.slice fE bf.length eH):=(aj dU.out 1).trans rfl;have Qy:=ak dU.out 0;have Qz:=ak dU.out 1)|(go_at_call 20;(with_reducible refine(dh.calls k _ _ bK _ _ bf wX _ ?bT ?bU ?eu ?eF A10.out).mono ?_);(case bT=>exact UC jT HB jm);(case bU=>exact jL kg);(case eu=>exact UC jU HB jm);(case eF=>exact jL kC);rintro e w19 ⟨aoi,rfl,ho0,hb⟩;have qU:=ah.mk (Kd.zH ho0 (aG (qz4 HB jm)));replace dU:=ah.mk (aA (g:=fF) (o:=.cells #[.slice eT bK.length eG,.slice fE bf.length eH] 27 (0,0)) (dP dU) hb);replace HB:=ah.mk (av (qz4 HB jm) hb);(try clear hb);(try clear hb2);(try clear hk);(try clear hi);(try clear ho0);obtain⟨aoj,aok,aeT⟩:=Kd.zI qU.out;subst aeT;have Lp:0≤(a1:Int):=of_decide_eq_true gN;have Nf:a1<(wX.length:Int):=of_decide_eq_true gN;obtain⟨aeU,WT,WU,aeV,AX,tV,tX⟩:=TL (Kd.qw qU.out).2.2 a1 Lp Nf;cases aeV;obtain⟨aeW,Hg,Hl,yj⟩:=Kd.XJ qU.out [] a1 Lp (akF qU);obtain⟨QA,rfl,pX⟩:=Hl;have lK:=yj 0 _ rfl;rw[Nat.add_zero,show ((Kd.slice 68 k68)).sz=1 from rfl,Nat.mul_one]at lK;replace lK:=Option.some.inj (lK.symm.trans AX);rw[lK]at pX;have tY:=ah.mk (show Kd.R k68 68 _ _ _ _ (nT wX a1) from pX);clear lK pX;clear yj Hg;have pY:=ah.mk tX;have QC:=ah.mk tV;clear tX tV;replace Lp:=eq_true Lp;replace Nf:=eq_true Nf;have QE:0≤(a2:Int):=of_decide_eq_true gN;have QF:a2<((nT wX a1).length:Int):=of_decide_eq_true gN;obtain⟨aeX,aeY,QG,QH,QI⟩:=KS (ab8 pY) a2 QE QF;cases aeY;replace QE:=eq_true QE;replace QF:=eq_true QF)|((with_reducible refine aH (N:=10) rfl ?_);refine qbx (N:=10) (cs:=#[.int .i64 0,.int .i64 0,.bool false]) (t:=68) ?_;intro nN hg w21 bR hb;replace qU:=ah.mk (Kd.sQ (Kd.DN (aeL qU) nN (Nat.le_of_eq hg.symm)) hb);replace tY:=ah.mk (Kd.aM (Kd.nD (cK tY) nN (Nat.le_of_eq hg.symm)) hb);replace pY:=ah.mk (Kd.gX (ab8 pY) hb);have qV:=ah.mk (bR);have aeZ:=ah.mk ((wU HB jm:w.heap.size≤nN));have aaH:=ah.mk ((wU HB jm:w.heap.size≤nN));replace HB:=ah.mk (av (qz4 HB jm) hb);have tZ:=ah.mk ((akG:fF≠nN));have uf:=ah.mk ((akH:nN≠fF));replace dU:=ah.mk (aA (g:=fF) (o:=.cells #[.slice eT bK.length eG,.slice fE bf.length eH] 27 (0,0)) (dP dU) hb);clear hb bR hg;have aaj:=uf.out;have aak:=tZ.out;have oK:w21.cell? ⟨nN,0,none⟩=some (.int .i64 0):=(aj qV.out 0).trans rfl;have oL:w21.cell? ⟨nN,1,none⟩=some (.int .i64 0):=(aj qV.out 1).trans rfl;have EO:w21.cell? ⟨nN,2,none⟩=some (.bool false):=(aj qV.out 2).trans rfl;have qG:=ak qV.out 0;have qH:=ak qV.out 1;have EP:=ak qV.out 2))
        repeat(go_quiet (first|((with_reducible refine aH (N:=3) rfl ?_);refine qbx (N:=3) (cs:=#[.slice eT bK.length eG,.slice fE bf.length eH]) (t:=27) ?_;intro fF hg w15 bR hb;have dU:=ah.mk (bR);have AV:=ah.mk ((mK HB:w.heap.size≤fF));have jm:=ah.mk ((mK HB:w.heap.size≤fF));replace HB:=ah.mk (av (qz0 HB) hb);clear hb bR hg;have IE:w15.cell? ⟨fF,0,none⟩=some (.slice eT bK.length eG):=(aj dU.out 0).trans rfl;have IG:w15.cell? ⟨fF,1,none⟩=some (.slice fE bf.length eH):=(aj dU.out 1).trans rfl;have II:=ak dU.out 0;have IJ:=ak dU.out 1)|(go_at_call 9;(with_reducible refine(aX.calls k _ _ bK _ _ bf true _ ?bT ?bU ?eu ?eF A4.out).mono ?_);(case bT=>exact qz2 jT HB);(case bU=>exact jL kg);(case eu=>exact qz2 jU HB);(case eF=>exact jL kC);rintro e w17 ⟨rfl,hb⟩;replace dU:=ah.mk (aA (g:=fF) (o:=.cells #[.slice eT bK.length eG,.slice fE bf.length eH] 27 (0,0)) (dP dU) hb);replace HB:=ah.mk (av (qz4 HB jm) hb);(try clear hb);(try clear hb2);(try clear hk);(try clear hi))|(go_at_call 18;(with_reducible refine(aU.calls a1 0 (wrap64 ((bK.length:Int) - 1)) true _ A6.out).mono ?_);rintro e w' ⟨rfl,⟨nd,rfl⟩⟩;(try first|exact⟨rfl,_,World.drewN_drewN _ _ _⟩|exact⟨rfl,_,Eq.trans (World.drewN_drewN _ _ _) (congrArg (World.drewN _) (Nat.add_assoc _ _ _))⟩))|(go_at_call 18;(with_reducible refine(aU.calls a2 0 (wrap64 ((bK.length:Int) - 1)) true _ A8.out).mono ?_);rintro e w' ⟨rfl,⟨nd,rfl⟩⟩;(try first|exact⟨rfl,_,World.drewN_drewN _ _ _⟩|exact⟨rfl,_,Eq.trans (World.drewN_drewN _ _ _) (congrArg (World.drewN _) (Nat.add_assoc _ _ _))⟩);have Qw:w17.cell? ⟨fF,0,none⟩=some (.slice eT bK.length eG):=(aj dU.out 0).trans rfl;have Qx:w17.cell? ⟨fF,1,none⟩=some (.slice fE bf.length eH):=(aj dU.out 1).trans rfl;have Qy:=ak dU.out 0;have Qz:=ak dU.out 1)|(go_at_call 20;(with_reducible refine(dh.calls k _ _ bK _ _ bf wX _ ?bT ?bU ?eu ?eF A10.out).mono ?_);(case bT=>exact UC jT HB jm);(case bU=>exact jL kg);(case eu=>exact UC jU HB jm);(case eF=>exact jL kC);rintro e w19 ⟨aoi,rfl,ho0,hb⟩;have qU:=ah.mk (Kd.zH ho0 (aG (qz4 HB jm)));replace dU:=ah.mk (aA (g:=fF) (o:=.cells #[.slice eT bK.length eG,.slice fE bf.length eH] 27 (0,0)) (dP dU) hb);replace HB:=ah.mk (av (qz4 HB jm) hb);(try clear hb);(try clear hb2);(try clear hk);(try clear hi);(try clear ho0);obtain⟨aoj,aok,aeT⟩:=Kd.zI qU.out;subst aeT;have Lp:0≤(a1:Int):=of_decide_eq_true gN;have Nf:a1<(wX.length:Int):=of_decide_eq_true gN;obtain⟨aeU,WT,WU,aeV,AX,tV,tX⟩:=TL (Kd.qw qU.out).2.2 a1 Lp Nf;cases aeV;obtain⟨aeW,Hg,Hl,yj⟩:=Kd.XJ qU.out [] a1 Lp (akF qU);obtain⟨QA,rfl,pX⟩:=Hl;have lK:=yj 0 _ rfl;rw[Nat.add_zero,show ((Kd.slice 68 k68)).sz=1 from rfl,Nat.mul_one]at lK;replace lK:=Option.some.inj (lK.symm.trans AX);rw[lK]at pX;have tY:=ah.mk (show Kd.R k68 68 _ _ _ _ (nT wX a1) from pX);clear lK pX;clear yj Hg;have pY:=ah.mk tX;have QC:=ah.mk tV;clear tX tV;replace Lp:=eq_true Lp;replace Nf:=eq_true Nf;have QE:0≤(a2:Int):=of_decide_eq_true gN;have QF:a2<((nT wX a1).length:Int):=of_decide_eq_true gN;obtain⟨aeX,aeY,QG,QH,QI⟩:=KS (ab8 pY) a2 QE QF;cases aeY;replace QE:=eq_true QE;replace QF:=eq_true QF)|((with_reducible refine aH (N:=10) rfl ?_);refine qbx (N:=10) (cs:=#[.int .i64 0,.int .i64 0,.bool false]) (t:=68) ?_;intro nN hg w21 bR hb;replace qU:=ah.mk (Kd.sQ (Kd.DN (aeL qU) nN (Nat.le_of_eq hg.symm)) hb);replace tY:=ah.mk (Kd.aM (Kd.nD (cK tY) nN (Nat.le_of_eq hg.symm)) hb);replace pY:=ah.mk (Kd.gX (ab8 pY) hb);have qV:=ah.mk (bR);have aeZ:=ah.mk ((wU HB jm:w.heap.size≤nN));have aaH:=ah.mk ((wU HB jm:w.heap.size≤nN));replace HB:=ah.mk (av (qz4 HB jm) hb);have tZ:=ah.mk ((akG:fF≠nN));have uf:=ah.mk ((akH:nN≠fF));replace dU:=ah.mk (aA (g:=fF) (o:=.cells #[.slice eT bK.length eG,.slice fE bf.length eH] 27 (0,0)) (dP dU) hb);clear hb bR hg;have aaj:=uf.out;have aak:=tZ.out;have oK:w21.cell? ⟨nN,0,none⟩=some (.int .i64 0):=(aj qV.out 0).trans rfl;have oL:w21.cell? ⟨nN,1,none⟩=some (.int .i64 0):=(aj qV.out 1).trans rfl;have EO:w21.cell? ⟨nN,2,none⟩=some (.bool false):=(aj qV.out 2).trans rfl;have qG:=ak qV.out 0;have qH:=ak qV.out 1;have EP:=ak qV.out 2));try go_wp2_with (first|((with_reducible refine aH (N:=3) rfl ?_);refine qbx (N:=3) (cs:=#[.slice eT bK.length eG,.slice fE bf.length eH]) (t:=27) ?_;intro fF hg w15 bR hb;have dU:=ah.mk (bR);have AV:=ah.mk ((mK HB:w.heap.size≤fF));have jm:=ah.mk ((mK HB:w.heap.size≤fF));replace HB:=ah.mk (av (qz0 HB) hb);clear hb bR hg;have IE:w15.cell? ⟨fF,0,none⟩=some (.slice eT bK.length eG):=(aj dU.out 0).trans rfl;have IG:w15.cell? ⟨fF,1,none⟩=some (.slice fE bf.length eH):=(aj dU.out 1).trans rfl;have II:=ak dU.out 0;have IJ:=ak dU.out 1)|(go_at_call 9;(with_reducible refine(aX.calls k _ _ bK _ _ bf true _ ?bT ?bU ?eu ?eF A4.out).mono ?_);(case bT=>exact qz2 jT HB);(case bU=>exact jL kg);(case eu=>exact qz2 jU HB);(case eF=>exact jL kC);rintro e w17 ⟨rfl,hb⟩;replace dU:=ah.mk (aA (g:=fF) (o:=.cells #[.slice eT bK.length eG,.slice fE bf.length eH] 27 (0,0)) (dP dU) hb);replace HB:=ah.mk (av (qz4 HB jm) hb);(try clear hb);(try clear hb2);(try clear hk);(try clear hi))|(go_at_call 18;(with_reducible refine(aU.calls a1 0 (wrap64 ((bK.length:Int) - 1)) true _ A6.out).mono ?_);rintro e w' ⟨rfl,⟨nd,rfl⟩⟩;(try first|exact⟨rfl,_,World.drewN_drewN _ _ _⟩|exact⟨rfl,_,Eq.trans (World.drewN_drewN _ _ _) (congrArg (World.drewN _) (Nat.add_assoc _ _ _))⟩))|(go_at_call 18;(with_reducible refine(aU.calls a2 0 (wrap64 ((bK.length:Int) - 1)) true _ A8.out).mono ?_);rintro e w' ⟨rfl,⟨nd,rfl⟩⟩;(try first|exact⟨rfl,_,World.drewN_drewN _ _ _⟩|exact⟨rfl,_,Eq.trans (World.drewN_drewN _ _ _) (congrArg (World.drewN _) (Nat.add_assoc _ _ _))⟩);have Qw:w17.cell? ⟨fF,0,none⟩=some (.slice eT bK.length eG):=(aj dU.out 0).trans rfl;have Qx:w17.cell? ⟨fF,1,none⟩=some (.slice fE bf.length eH):=(aj dU.out 1).trans rfl;have Qy:=ak dU.out 0;have Qz:=ak dU.out 1)|(go_at_call 20;(with_reducible refine(dh.calls k _ _ bK _ _ bf wX _ ?bT ?bU ?eu ?eF A10.out).mono ?_);(case bT=>exact UC jT HB jm);(case bU=>exact jL kg);(case eu=>exact UC jU HB jm);(case eF=>exact jL kC);rintro e w19 ⟨aoi,rfl,ho0,hb⟩;have qU:=ah.mk (Kd.zH ho0 (aG (qz4 HB jm)));replace dU:=ah.mk (aA (g:=fF) (o:=.cells #[.slice eT bK.length eG,.slice fE bf.length eH] 27 (0,0)) (dP dU) hb);replace HB:=ah.mk (av (qz4 HB jm) hb);(try clear hb);(try clear hb2);(try clear hk);(try clear hi);(try clear ho0);obtain⟨aoj,aok,aeT⟩:=Kd.zI qU.out;subst aeT;have Lp:0≤(a1:Int):=of_decide_eq_true gN;have Nf:a1<(wX.length:Int):=of_decide_eq_true gN;obtain⟨aeU,WT,WU,aeV,AX,tV,tX⟩:=TL (Kd.qw qU.out).2.2 a1 Lp Nf;cases aeV;obtain⟨aeW,Hg,Hl,yj⟩:=Kd.XJ qU.out [] a1 Lp (akF qU);obtain⟨QA,rfl,pX⟩:=Hl;have lK:=yj 0 _ rfl;rw[Nat.add_zero,show ((Kd.slice 68 k68)).sz=1 from rfl,Nat.mul_one]at lK;replace lK:=Option.some.inj (lK.symm.trans AX);rw[lK]at pX;have tY:=ah.mk (show Kd.R k68 68 _ _ _ _ (nT wX a1) from pX);clear lK pX;clear yj Hg;have pY:=ah.mk tX;have QC:=ah.mk tV;clear tX tV;replace Lp:=eq_true Lp;replace Nf:=eq_true Nf;have QE:0≤(a2:Int):=of_decide_eq_true gN;have QF:a2<((nT wX a1).length:Int):=of_decide_eq_true gN;obtain⟨aeX,aeY,QG,QH,QI⟩:=KS (ab8 pY) a2 QE QF;cases aeY;replace QE:=eq_true QE;replace QF:=eq_true QF)|((with_reducible refine aH (N:=10) rfl ?_);refine qbx (N:=10) (cs:=#[.int .i64 0,.int .i64 0,.bool false]) (t:=68) ?_;intro nN hg w21 bR hb;replace qU:=ah.mk (Kd.sQ (Kd.DN (aeL qU) nN (Nat.le_of_eq hg.symm)) hb);replace tY:=ah.mk (Kd.aM (Kd.nD (cK tY) nN (Nat.le_of_eq hg.symm)) hb);replace pY:=ah.mk (Kd.gX (ab8 pY) hb);have qV:=ah.mk (bR);have aeZ:=ah.mk ((wU HB jm:w.heap.size≤nN));have aaH:=ah.mk ((wU HB jm:w.heap.size≤nN));replace HB:=ah.mk (av (qz4 HB jm) hb);have tZ:=ah.mk ((akG:fF≠nN));have uf:=ah.mk ((akH:nN≠fF));replace dU:=ah.mk (aA (g:=fF) (o:=.cells #[.slice eT bK.length eG,.slice fE bf.length eH] 27 (0,0)) (dP dU) hb);clear hb bR hg;have aaj:=uf.out;have aak:=tZ.out;have oK:w21.cell? ⟨nN,0,none⟩=some (.int .i64 0):=(aj qV.out 0).trans rfl;have oL:w21.cell? ⟨nN,1,none⟩=some (.int .i64 0):=(aj qV.out 1).trans rfl;have EO:w21.cell? ⟨nN,2,none⟩=some (.bool false):=(aj qV.out 2).trans rfl;have qG:=ak qV.out 0;have qH:=ak qV.out 1;have EP:=ak qV.out 2)))
        go_ret3
        exact⟨qz7,qz8 HB jm aaH⟩
       rw[if_neg c14]at H
       exact absurd H (by simp)
      rw[if_neg c13]at H
      exact absurd H (by simp)
     rw[if_neg c12]at H
     exact absurd H (by simp)
    rw[if_neg c11]at H
    exact absurd H (by simp)
   replace c9:=Bool.eq_false_iff.mpr c9
   subst c9
   rw[if_neg (show ¬(false=true) by decide)]at H
   simp only[Option.some.injEq,Prod.mk.injEq]at H
   obtain⟨rfl,rfl,rfl⟩:=H
   go_enter Tryz.func14,Tryz.ntmps14
   go_wp2_with (first|((with_reducible refine aH (N:=3) rfl ?_);refine qbx (N:=3) (cs:=#[.slice eT bK.length eG,.slice fE bf.length eH]) (t:=27) ?_;intro fF hg w24 bR hb;have dU:=ah.mk (bR);have AV:=ah.mk ((mK HB:w.heap.size≤fF));have jm:=ah.mk ((mK HB:w.heap.size≤fF));replace HB:=ah.mk (av (qz0 HB) hb);clear hb bR hg;have Eb:w24.cell? ⟨fF,0,none⟩=some (.slice eT bK.length eG):=(aj dU.out 0).trans rfl;have Ec:w24.cell? ⟨fF,1,none⟩=some (.slice fE bf.length eH):=(aj dU.out 1).trans rfl;have Ee:=ak dU.out 0;have Ef:=ak dU.out 1)|(go_at_call 9;(with_reducible refine(aX.calls k _ _ bK _ _ bf true _ ?bT ?bU ?eu ?eF A4.out).mono ?_);(case bT=>exact qz2 jT HB);(case bU=>exact jL kg);(case eu=>exact qz2 jU HB);(case eF=>exact jL kC);rintro e w26 ⟨rfl,hb⟩;replace dU:=ah.mk (aA (g:=fF) (o:=.cells #[.slice eT bK.length eG,.slice fE bf.length eH] 27 (0,0)) (dP dU) hb);replace HB:=ah.mk (av (qz4 HB jm) hb);(try clear hb);(try clear hb2);(try clear hk);(try clear hi))|(go_at_call 18;(with_reducible refine(aU.calls a1 0 (wrap64 ((bK.length:Int) - 1)) true _ A6.out).mono ?_);rintro e w' ⟨rfl,⟨nd,rfl⟩⟩;(try first|exact⟨rfl,_,World.drewN_drewN _ _ _⟩|exact⟨rfl,_,Eq.trans (World.drewN_drewN _ _ _) (congrArg (World.drewN _) (Nat.add_assoc _ _ _))⟩))|(go_at_call 18;(with_reducible refine(aU.calls a2 0 (wrap64 ((bK.length:Int) - 1)) false _ A8.out).mono ?_);rintro e w' ⟨rfl,⟨nd,rfl⟩⟩;(try first|exact⟨rfl,_,World.drewN_drewN _ _ _⟩|exact⟨rfl,_,Eq.trans (World.drewN_drewN _ _ _) (congrArg (World.drewN _) (Nat.add_assoc _ _ _))⟩)))
   repeat(go_quiet (first|((with_reducible refine aH (N:=3) rfl ?_);refine qbx (N:=3) (cs:=#[.slice eT bK.length eG,.slice fE bf.length eH]) (t:=27) ?_;intro fF hg w24 bR hb;have dU:=ah.mk (bR);have AV:=ah.mk ((mK HB:w.heap.size≤fF));have jm:=ah.mk ((mK HB:w.heap.size≤fF));replace HB:=ah.mk (av (qz0 HB) hb);clear hb bR hg;have Eb:w24.cell? ⟨fF,0,none⟩=some (.slice eT bK.length eG):=(aj dU.out 0).trans rfl;have Ec:w24.cell? ⟨fF,1,none⟩=some (.slice fE bf.length eH):=(aj dU.out 1).trans rfl;have Ee:=ak dU.out 0;have Ef:=ak dU.out 1)|(go_at_call 9;(with_reducible refine(aX.calls k _ _ bK _ _ bf true _ ?bT ?bU ?eu ?eF A4.out).mono ?_);(case bT=>exact qz2 jT HB);(case bU=>exact jL kg);(case eu=>exact qz2 jU HB);(case eF=>exact jL kC);rintro e w26 ⟨rfl,hb⟩;replace dU:=ah.mk (aA (g:=fF) (o:=.cells #[.slice eT bK.length eG,.slice fE bf.length eH] 27 (0,0)) (dP dU) hb);replace HB:=ah.mk (av (qz4 HB jm) hb);(try clear hb);(try clear hb2);(try clear hk);(try clear hi))|(go_at_call 18;(with_reducible refine(aU.calls a1 0 (wrap64 ((bK.length:Int) - 1)) true _ A6.out).mono ?_);rintro e w' ⟨rfl,⟨nd,rfl⟩⟩;(try first|exact⟨rfl,_,World.drewN_drewN _ _ _⟩|exact⟨rfl,_,Eq.trans (World.drewN_drewN _ _ _) (congrArg (World.drewN _) (Nat.add_assoc _ _ _))⟩))|(go_at_call 18;(with_reducible refine(aU.calls a2 0 (wrap64 ((bK.length:Int) - 1)) false _ A8.out).mono ?_);rintro e w' ⟨rfl,⟨nd,rfl⟩⟩;(try first|exact⟨rfl,_,World.drewN_drewN _ _ _⟩|exact⟨rfl,_,Eq.trans (World.drewN_drewN _ _ _) (congrArg (World.drewN _) (Nat.add_assoc _ _ _))⟩)));try go_wp2_with (first|((with_reducible refine aH (N:=3) rfl ?_);refine qbx (N:=3) (cs:=#[.slice eT bK.length eG,.slice fE bf.length eH]) (t:=27) ?_;intro fF hg w24 bR hb;have dU:=ah.mk (bR);have AV:=ah.mk ((mK HB:w.heap.size≤fF));have jm:=ah.mk ((mK HB:w.heap.size≤fF));replace HB:=ah.mk (av (qz0 HB) hb);clear hb bR hg;have Eb:w24.cell? ⟨fF,0,none⟩=some (.slice eT bK.length eG):=(aj dU.out 0).trans rfl;have Ec:w24.cell? ⟨fF,1,none⟩=some (.slice fE bf.length eH):=(aj dU.out 1).trans rfl;have Ee:=ak dU.out 0;have Ef:=ak dU.out 1)|(go_at_call 9;(with_reducible refine(aX.calls k _ _ bK _ _ bf true _ ?bT ?bU ?eu ?eF A4.out).mono ?_);(case bT=>exact qz2 jT HB);(case bU=>exact jL kg);(case eu=>exact qz2 jU HB);(case eF=>exact jL kC);rintro e w26 ⟨rfl,hb⟩;replace dU:=ah.mk (aA (g:=fF) (o:=.cells #[.slice eT bK.length eG,.slice fE bf.length eH] 27 (0,0)) (dP dU) hb);replace HB:=ah.mk (av (qz4 HB jm) hb);(try clear hb);(try clear hb2);(try clear hk);(try clear hi))|(go_at_call 18;(with_reducible refine(aU.calls a1 0 (wrap64 ((bK.length:Int) - 1)) true _ A6.out).mono ?_);rintro e w' ⟨rfl,⟨nd,rfl⟩⟩;(try first|exact⟨rfl,_,World.drewN_drewN _ _ _⟩|exact⟨rfl,_,Eq.trans (World.drewN_drewN _ _ _) (congrArg (World.drewN _) (Nat.add_assoc _ _ _))⟩))|(go_at_call 18;(with_reducible refine(aU.calls a2 0 (wrap64 ((bK.length:Int) - 1)) false _ A8.out).mono ?_);rintro e w' ⟨rfl,⟨nd,rfl⟩⟩;(try first|exact⟨rfl,_,World.drewN_drewN _ _ _⟩|exact⟨rfl,_,Eq.trans (World.drewN_drewN _ _ _) (congrArg (World.drewN _) (Nat.add_assoc _ _ _))⟩))))
   go_ret3
   exact⟨qz7,qz4 HB jm⟩
  replace c7:=Bool.eq_false_iff.mpr c7
  subst c7
  rw[if_neg (show ¬(false=true) by decide)]at H
  simp only[Option.some.injEq,Prod.mk.injEq]at H
  obtain⟨rfl,rfl,rfl⟩:=H
  go_enter Tryz.func14,Tryz.ntmps14
  go_wp2_with (first|((with_reducible refine aH (N:=3) rfl ?_);refine qbx (N:=3) (cs:=#[.slice eT bK.length eG,.slice fE bf.length eH]) (t:=27) ?_;intro fF hg w27 bR hb;have dU:=ah.mk (bR);have AV:=ah.mk ((mK HB:w.heap.size≤fF));have jm:=ah.mk ((mK HB:w.heap.size≤fF));replace HB:=ah.mk (av (qz0 HB) hb);clear hb bR hg;have JQ:w27.cell? ⟨fF,0,none⟩=some (.slice eT bK.length eG):=(aj dU.out 0).trans rfl;have JR:w27.cell? ⟨fF,1,none⟩=some (.slice fE bf.length eH):=(aj dU.out 1).trans rfl;have JU:=ak dU.out 0;have JV:=ak dU.out 1)|(go_at_call 9;(with_reducible refine(aX.calls k _ _ bK _ _ bf true _ ?bT ?bU ?eu ?eF A4.out).mono ?_);(case bT=>exact qz2 jT HB);(case bU=>exact jL kg);(case eu=>exact qz2 jU HB);(case eF=>exact jL kC);rintro e w29 ⟨rfl,hb⟩;replace dU:=ah.mk (aA (g:=fF) (o:=.cells #[.slice eT bK.length eG,.slice fE bf.length eH] 27 (0,0)) (dP dU) hb);replace HB:=ah.mk (av (qz4 HB jm) hb);(try clear hb);(try clear hb2);(try clear hk);(try clear hi))|(go_at_call 18;(with_reducible refine(aU.calls a1 0 (wrap64 ((bK.length:Int) - 1)) false _ A6.out).mono ?_);rintro e w' ⟨rfl,⟨nd,rfl⟩⟩;(try first|exact⟨rfl,_,World.drewN_drewN _ _ _⟩|exact⟨rfl,_,Eq.trans (World.drewN_drewN _ _ _) (congrArg (World.drewN _) (Nat.add_assoc _ _ _))⟩)))
  repeat(go_quiet (first|((with_reducible refine aH (N:=3) rfl ?_);refine qbx (N:=3) (cs:=#[.slice eT bK.length eG,.slice fE bf.length eH]) (t:=27) ?_;intro fF hg w27 bR hb;have dU:=ah.mk (bR);have AV:=ah.mk ((mK HB:w.heap.size≤fF));have jm:=ah.mk ((mK HB:w.heap.size≤fF));replace HB:=ah.mk (av (qz0 HB) hb);clear hb bR hg;have JQ:w27.cell? ⟨fF,0,none⟩=some (.slice eT bK.length eG):=(aj dU.out 0).trans rfl;have JR:w27.cell? ⟨fF,1,none⟩=some (.slice fE bf.length eH):=(aj dU.out 1).trans rfl;have JU:=ak dU.out 0;have JV:=ak dU.out 1)|(go_at_call 9;(with_reducible refine(aX.calls k _ _ bK _ _ bf true _ ?bT ?bU ?eu ?eF A4.out).mono ?_);(case bT=>exact qz2 jT HB);(case bU=>exact jL kg);(case eu=>exact qz2 jU HB);(case eF=>exact jL kC);rintro e w29 ⟨rfl,hb⟩;replace dU:=ah.mk (aA (g:=fF) (o:=.cells #[.slice eT bK.length eG,.slice fE bf.length eH] 27 (0,0)) (dP dU) hb);replace HB:=ah.mk (av (qz4 HB jm) hb);(try clear hb);(try clear hb2);(try clear hk);(try clear hi))|(go_at_call 18;(with_reducible refine(aU.calls a1 0 (wrap64 ((bK.length:Int) - 1)) false _ A6.out).mono ?_);rintro e w' ⟨rfl,⟨nd,rfl⟩⟩;(try first|exact⟨rfl,_,World.drewN_drewN _ _ _⟩|exact⟨rfl,_,Eq.trans (World.drewN_drewN _ _ _) (congrArg (World.drewN _) (Nat.add_assoc _ _ _))⟩)));try go_wp2_with (first|((with_reducible refine aH (N:=3) rfl ?_);refine qbx (N:=3) (cs:=#[.slice eT bK.length eG,.slice fE bf.length eH]) (t:=27) ?_;intro fF hg w27 bR hb;have dU:=ah.mk (bR);have AV:=ah.mk ((mK HB:w.heap.size≤fF));have jm:=ah.mk ((mK HB:w.heap.size≤fF));replace HB:=ah.mk (av (qz0 HB) hb);clear hb bR hg;have JQ:w27.cell? ⟨fF,0,none⟩=some (.slice eT bK.length eG):=(aj dU.out 0).trans rfl;have JR:w27.cell? ⟨fF,1,none⟩=some (.slice fE bf.length eH):=(aj dU.out 1).trans rfl;have JU:=ak dU.out 0;have JV:=ak dU.out 1)|(go_at_call 9;(with_reducible refine(aX.calls k _ _ bK _ _ bf true _ ?bT ?bU ?eu ?eF A4.out).mono ?_);(case bT=>exact qz2 jT HB);(case bU=>exact jL kg);(case eu=>exact qz2 jU HB);(case eF=>exact jL kC);rintro e w29 ⟨rfl,hb⟩;replace dU:=ah.mk (aA (g:=fF) (o:=.cells #[.slice eT bK.length eG,.slice fE bf.length eH] 27 (0,0)) (dP dU) hb);replace HB:=ah.mk (av (qz4 HB jm) hb);(try clear hb);(try clear hb2);(try clear hk);(try clear hi))|(go_at_call 18;(with_reducible refine(aU.calls a1 0 (wrap64 ((bK.length:Int) - 1)) false _ A6.out).mono ?_);rintro e w' ⟨rfl,⟨nd,rfl⟩⟩;(try first|exact⟨rfl,_,World.drewN_drewN _ _ _⟩|exact⟨rfl,_,Eq.trans (World.drewN_drewN _ _ _) (congrArg (World.drewN _) (Nat.add_assoc _ _ _))⟩))))
  go_ret3
  exact⟨qz7,qz4 HB jm⟩
 ·replace c5:=Bool.eq_false_iff.mpr c5
  subst c5
  rw[if_neg (show ¬(false=true) by decide)]at H
  simp only[Option.some.injEq,Prod.mk.injEq]at H
  obtain⟨rfl,rfl,rfl⟩:=H
  go_enter Tryz.func14,Tryz.ntmps14
  go_wp2_with (first|((with_reducible refine aH (N:=3) rfl ?_);refine qbx (N:=3) (cs:=#[.slice eT bK.length eG,.slice fE bf.length eH]) (t:=27) ?_;intro fF hg w30 bR hb;have dU:=ah.mk (bR);have AV:=ah.mk ((mK HB:w.heap.size≤fF));have jm:=ah.mk ((mK HB:w.heap.size≤fF));replace HB:=ah.mk (av (qz0 HB) hb);clear hb bR hg;have EA:w30.cell? ⟨fF,0,none⟩=some (.slice eT bK.length eG):=(aj dU.out 0).trans rfl;have EB:w30.cell? ⟨fF,1,none⟩=some (.slice fE bf.length eH):=(aj dU.out 1).trans rfl;have QJ:=ak dU.out 0;have QK:=ak dU.out 1)|(go_at_call 9;(with_reducible refine(aX.calls k _ _ bK _ _ bf false _ ?bT ?bU ?eu ?eF A4.out).mono ?_);(case bT=>exact qz2 jT HB);(case bU=>exact jL kg);(case eu=>exact qz2 jU HB);(case eF=>exact jL kC);rintro e w32 ⟨rfl,hb⟩;replace dU:=ah.mk (aA (g:=fF) (o:=.cells #[.slice eT bK.length eG,.slice fE bf.length eH] 27 (0,0)) (dP dU) hb);replace HB:=ah.mk (av (qz4 HB jm) hb);(try clear hb);(try clear hb2);(try clear hk);(try clear hi)))
  repeat(go_quiet (first|((with_reducible refine aH (N:=3) rfl ?_);refine qbx (N:=3) (cs:=#[.slice eT bK.length eG,.slice fE bf.length eH]) (t:=27) ?_;intro fF hg w30 bR hb;have dU:=ah.mk (bR);have AV:=ah.mk ((mK HB:w.heap.size≤fF));have jm:=ah.mk ((mK HB:w.heap.size≤fF));replace HB:=ah.mk (av (qz0 HB) hb);clear hb bR hg;have EA:w30.cell? ⟨fF,0,none⟩=some (.slice eT bK.length eG):=(aj dU.out 0).trans rfl;have EB:w30.cell? ⟨fF,1,none⟩=some (.slice fE bf.length eH):=(aj dU.out 1).trans rfl;have QJ:=ak dU.out 0;have QK:=ak dU.out 1)|(go_at_call 9;(with_reducible refine(aX.calls k _ _ bK _ _ bf false _ ?bT ?bU ?eu ?eF A4.out).mono ?_);(case bT=>exact qz2 jT HB);(case bU=>exact jL kg);(case eu=>exact qz2 jU HB);(case eF=>exact jL kC);rintro e w32 ⟨rfl,hb⟩;replace dU:=ah.mk (aA (g:=fF) (o:=.cells #[.slice eT bK.length eG,.slice fE bf.length eH] 27 (0,0)) (dP dU) hb);replace HB:=ah.mk (av (qz4 HB jm) hb);(try clear hb);(try clear hb2);(try clear hk);(try clear hi)));try go_wp2_with (first|((with_reducible refine aH (N:=3) rfl ?_);refine qbx (N:=3) (cs:=#[.slice eT bK.length eG,.slice fE bf.length eH]) (t:=27) ?_;intro fF hg w30 bR hb;have dU:=ah.mk (bR);have AV:=ah.mk ((mK HB:w.heap.size≤fF));have jm:=ah.mk ((mK HB:w.heap.size≤fF));replace HB:=ah.mk (av (qz0 HB) hb);clear hb bR hg;have EA:w30.cell? ⟨fF,0,none⟩=some (.slice eT bK.length eG):=(aj dU.out 0).trans rfl;have EB:w30.cell? ⟨fF,1,none⟩=some (.slice fE bf.length eH):=(aj dU.out 1).trans rfl;have QJ:=ak dU.out 0;have QK:=ak dU.out 1)|(go_at_call 9;(with_reducible refine(aX.calls k _ _ bK _ _ bf false _ ?bT ?bU ?eu ?eF A4.out).mono ?_);(case bT=>exact qz2 jT HB);(case bU=>exact jL kg);(case eu=>exact qz2 jU HB);(case eF=>exact jL kC);rintro e w32 ⟨rfl,hb⟩;replace dU:=ah.mk (aA (g:=fF) (o:=.cells #[.slice eT bK.length eG,.slice fE bf.length eH] 27 (0,0)) (dP dU) hb);replace HB:=ah.mk (av (qz4 HB jm) hb);(try clear hb);(try clear hb2);(try clear hk);(try clear hi))))
  go_ret3
  exact⟨qz7,qz4 HB jm⟩
end Go.Proofs.YtalkmhnlgfncmaaGreatDoor.X
end
section
/- The law of FewestBetween, plainly. Conditions: as each lemma says. -/
namespace Go.Proofs.YtalkmhnlgfncmaaGreatDoor.X
open Go.RowKit Go.Proofs.YtalkmhnlgfncmaaGreatDoorW.aC Go.Proofs.YtalkmhnlgfncmaaGreatDoorW.aN Go.Proofs.YtalkmhnlgfncmaaGreatDoorW.aT Go.Proofs.YtalkmhnlgfncmaaGreatDoor.iP Go.Proofs.YtalkmhnlgfncmaaGreatDoor.jF
theorem Ke (d:List Int) (ws:List S40) (h:iV d ws=true):Fl d ws d.length:=by
 unfold iV at h
 rw[Bool.and_eq_true]at h
 obtain⟨hn,hm,hd,hw⟩:=tN h.1
 refine⟨rfl,hn.1,hn.2,hm,hw,fun v=>?_,fun v hv=>?_⟩
 ·unfold dl
  rw[List.getD_eq_getElem?_getD]
  rcases Nat.lt_or_ge v d.length with hv|hv
  ·rw[List.getElem?_eq_getElem hv];exact hd _ (List.getElem_mem hv)
  rw[List.getElem?_eq_none hv];simp
 have:=h.2
 rw[@decide_eq_true _ (Classical.propDecidable _) ⟨v,hv⟩]at this
 simp at this
end Go.Proofs.YtalkmhnlgfncmaaGreatDoor.X
end
section
/- A moved flow: it is valid, and the fewest registers between vertices move with it. Conditions: the move can be made. -/
namespace Go.Proofs.YtalkmhnlgfncmaaGreatDoor.X
open Go.RowKit Go.Proofs.YtalkmhnlgfncmaaGreatDoorW.aC Go.Proofs.YtalkmhnlgfncmaaGreatDoorW.aN Go.Proofs.YtalkmhnlgfncmaaGreatDoorW.aT Go.Proofs.YtalkmhnlgfncmaaGreatDoor.iP Go.Proofs.YtalkmhnlgfncmaaGreatDoor.jF
/-- The move of a vertex. -/
def mo (m:List Int) (v:Nat):Int:=rd m (v:Int)
theorem Dn (m:List Int) (h:m.all mv=true) (v:Nat): -20≤mo m v∧mo m v≤20:=by
 unfold mo rd
 rw[Int.toNat_natCast,List.getD_eq_getElem?_getD]
 rcases Nat.lt_or_ge v m.length with hv|hv
 ·rw[List.getElem?_eq_getElem hv]
  have:=of_decide_eq_true (List.all_eq_true.mp h _ (List.getElem_mem hv))
  exact this
 rw[List.getElem?_eq_none hv];exact⟨by decide,by decide⟩
theorem Dp (m:List Int) (h:m.all mv=true) (n:Nat) (w:S40) (hw:fQ n w):mvW m w=⟨w.f0,w.f1,w.f2+mo m w.f1.toNat - mo m w.f0.toNat⟩:=by
 obtain⟨a,b,c,d,e,f⟩:=hw
 have b0:=Dn m h w.f0.toNat
 have b1:=Dn m h w.f1.toNat
 have e0:rd m w.f0=mo m w.f0.toNat:=by unfold mo;rw[Int.toNat_of_nonneg a]
 have e1:rd m w.f1=mo m w.f1.toNat:=by unfold mo;rw[Int.toNat_of_nonneg c]
 unfold mvW
 rw[e0,e1,w64 (n:=w.f2+mo m w.f1.toNat) (by omega) (by omega),w64 (by omega) (by omega)]
theorem UY {m:List Int} (h:m.all mv=true) {n:Nat} {ws:List S40} (hw:∀ w,w∈ws→fQ n w) {u v:Nat} {c:Int} (k:Wi ws u v c):Wi (ws.map (mvW m)) u v (c+mo m v - mo m u):=by
 obtain⟨w,h1,h2,h3,h4⟩:=k
 refine⟨mvW m w,List.mem_map_of_mem h1,?_,?_,?_⟩
 ·rw[Dp m h n w (hw w h1)];exact h2
 ·rw[Dp m h n w (hw w h1)];exact h3
 rw[Dp m h n w (hw w h1),h2,h3,h4];simp
theorem QN {m:List Int} (h:m.all mv=true) {n:Nat} {ws:List S40} (hw:∀ w,w∈ws→fQ n w) {u v:Nat} {c:Int} (k:Wi (ws.map (mvW m)) u v c):Wi ws u v (c - mo m v+mo m u):=by
 obtain⟨w',h1,h2,h3,h4⟩:=k
 obtain⟨w,g1,rfl⟩:=List.mem_map.mp h1
 rw[Dp m h n w (hw w g1)]at h2 h3 h4
 simp only at h2 h3 h4
 refine⟨w,g1,h2,h3,?_⟩
 rw[h2,h3]at h4
 simp only[Int.toNat_natCast]at h4
 omega
theorem QS {E E':Nat→Nat→Int→Prop} {d p:Nat→Int} (h:∀ u v c,E u v c→E' u v (c+p u - p v)) {a m v:Nat} {x:Int} (t:T E d a m v x):T E' d a m v (x+1000000*(p a - p v)):=by
 induction t with
 |@one v c he=>
  have:=T.one (d:=d) (h _ _ _ he)
  rwa [show 1000000*(c+p a - p v) - d a - d v=1000000*c - d a - d v+1000000*(p a - p v) by omega]at this
 |@snoc m u v x c _ he ih=>
  have:=T.snoc ih (h _ _ _ he)
  rwa [show x+1000000*(p a - p u)+1000000*(c+p u - p v) - d v=x+1000000*c - d v+1000000*(p a - p v) by omega]at this
/-- The fewest registers move with the flow; the delays stay. -/
theorem QT (k:Nat) (d:List Int) (ws:List S40) (m:List Int) (n:Nat) (hm:m.all mv=true) (h:Fl d ws n) (h':Fl d (ws.map (mvW m)) n) (a b:Nat) (hk:1000<k):
  ∃ M M',dh.f k d ws=some (kQ n M)∧dh.f k d (ws.map (mvW m))=some (kQ n M')∧(M' a b).f=(M a b).f∧((M a b).f=true→(M' a b).r=(M a b).r+mo m b - mo m a∧(M' a b).d=(M a b).d):=by
 obtain⟨M,e1,b1,s1,n1,f1⟩:=yS h k (by omega)
 obtain⟨M',e2,b2,s2,n2,f2⟩:=yS h' k (by omega)
 refine⟨M,M',e1,e2,?_⟩
 have sM:(M a b).f=true→∃ q,T (Im (Wi ws)) (dl d) b q a (jF.key (M a b)):=s1 (a,b)
 have fM:∀ q x,T (Im (Wi ws)) (dl d) b q a x→hit (M a b) x:=fun q x hx=>f1 q (a,b) x hx
 have sN:(M' a b).f=true→∃ q,T (Im (Wi (ws.map (mvW m)))) (dl d) b q a (jF.key (M' a b)):=s2 (a,b)
 have fN:∀ q x,T (Im (Wi (ws.map (mvW m)))) (dl d) b q a x→hit (M' a b) x:=fun q x hx=>f2 q (a,b) x hx
 have go:∀ q x,T (Im (Wi ws)) (dl d) b q a x→T (Im (Wi (ws.map (mvW m)))) (dl d) b q a (x+1000000*(mo m b - mo m a)):=fun q x hx=>QS (p:=mo m) (fun u v c hc=>UY hm h.wok hc) hx
 have back:∀ q x,T (Im (Wi (ws.map (mvW m)))) (dl d) b q a x→T (Im (Wi ws)) (dl d) b q a (x - 1000000*(mo m b - mo m a)):=fun q x hx=>by
  have:=QS (E':=Im (Wi ws)) (p:=fun v=> - mo m v) (fun u v c hc=>by
   have:=QN hm h.wok hc
   show Wi ws v u (c+ - mo m u - - mo m v)
   rwa [show c+ - mo m u - - mo m v=c - mo m u+mo m v by omega]) hx
  rwa [show x+1000000*(- mo m b - - mo m a)=x - 1000000*(mo m b - mo m a) by omega]at this
 have c1:Bd 9000 (M a b):=b1 (a,b)
 have c2:Bd 9000 (M' a b):=b2 (a,b)
 have up:(M a b).f=true→(M' a b).f=true∧jF.key (M' a b)≤jF.key (M a b)+1000000*(mo m b - mo m a):=fun hf=>by
  obtain⟨q,hq⟩:=sM hf
  exact fN _ _ (go _ _ hq)
 have dn:(M' a b).f=true→(M a b).f=true∧jF.key (M a b)≤jF.key (M' a b) - 1000000*(mo m b - mo m a):=fun hf=>by
  obtain⟨q,hq⟩:=sN hf
  exact fM _ _ (back _ _ hq)
 cases hf:(M a b).f with
 |true=>
  obtain⟨u1,u2⟩:=up hf
  obtain⟨_,u3⟩:=dn u1
  have q1:=c1 hf
  have q2:=c2 u1
  unfold jF.key at u2 u3
  exact⟨u1,fun _=>⟨by omega,by omega⟩⟩
 |false=>
  refine⟨?_,fun h=>by cases h⟩
  cases hg:(M' a b).f with
  |false=>rfl
  |true=>have:=(dn hg).1;rw[hf]at this;cases this
theorem MK {m:List Int} (h:m.all mv=true) {n:Nat} {ws:List S40} (hw:∀ w,w∈ws→fQ n w) {u v:Nat} (k:Plus (Edge (ws.map (mvW m))) u v):mo m v≤mo m u∧(mo m u=mo m v→Plus (Edge ws) u v):=by
 have one:∀ {a b:Nat},Edge (ws.map (mvW m)) a b→mo m b≤mo m a∧(mo m a=mo m b→Edge ws a b):=by
  intro a b he
  obtain⟨w',h1,h2,h3,h4⟩:=he
  obtain⟨w,h5,h6,h7,h8⟩:=QN h hw (u:=a) (v:=b) (c:=0) ⟨w',h1,h3,h4,h2⟩
  have:=(hw w h5).2.2.2.2.1
  exact⟨by omega,fun e=>⟨w,h5,by omega,h6,h7⟩⟩
 induction k with
 |one he=>exact⟨(one he).1,fun e=>Plus.one ((one he).2 e)⟩
 |step he _ ih=>
  obtain⟨o1,o2⟩:=one he
  exact⟨by omega,fun e=>Plus.step (o2 (by omega)) (ih.2 (by omega))⟩
/-- A moved flow is valid. -/
theorem AY (d:List Int) (ws:List S40) (m:List Int) (h:yg d ws m=true):iV d (ws.map (mvW m))=true:=by
 unfold yg at h
 simp only[Bool.and_eq_true]at h
 obtain⟨hv,_,hm,hf⟩:=h
 have F:=Ke d ws hv
 unfold iV
 rw[hf,Bool.true_and]
 have hno:¬ ∃ v,Plus (Edge (ws.map (mvW m))) v v:=fun⟨v,hp⟩=>F.ac v ((MK hm F.wok hp).2 rfl)
 simp[hno]
end Go.Proofs.YtalkmhnlgfncmaaGreatDoor.X
end
section
/- Moves that are told to be so can be made, and none is less than 0. Conditions: the flow is valid. -/
namespace Go.Proofs.YtalkmhnlgfncmaaGreatDoor.X
open Go.RowKit Go.Proofs.YtalkmhnlgfncmaaGreatDoorW.aC Go.Proofs.YtalkmhnlgfncmaaGreatDoorW.aN Go.Proofs.YtalkmhnlgfncmaaGreatDoorW.aT Go.Proofs.YtalkmhnlgfncmaaGreatDoor.iP Go.Proofs.YtalkmhnlgfncmaaGreatDoor.lU
theorem ML (K:Nat) (d:List Int) (ws:List S40) (P:Int) (hK:9000000<K) (hv:iV d ws=true) (r:List Int×Bool) (hr:bP.f (K+1) d ws P=some r) (h2:r.2=true):yg d ws r.1=true∧r.1.length=d.length∧∀ v,0≤mo r.1 v:=by
 unfold bP.f at hr
 rw[mZ (K+1) d ws (by omega),Option.bind_some,hv,if_pos rfl,nK]at hr
 simp only[Option.bind_some]at hr
 by_cases hp:0≤P∧P≤100000
 ·obtain⟨M,g1,g2⟩:=Qv K d ws hv (by omega)
  have i2:(decide (0≤P)&&decide (P≤100000))=true:=by simp;omega
  rw[i2,Bool.not_true,bP.j0,if_neg (by decide),g1]at hr
  simp only[Option.bind_some]at hr
  have h1:=g2.fl.n1
  have h8:=g2.fl.n8
  have h16:=g2.fl.m16
  have hw:∀ w,w∈ws→jg d.length w:=fun w hw=>by
   have:=g2.fl.wok w hw
   unfold fQ at this
   unfold jg
   omega
  have hc2:1≤d.length∧d.length≤1000000∧ws.length≤1000000∧(∀ w,w∈ws→jg d.length w)∧(kQ d.length M).length=d.length∧∀ r,r∈kQ d.length M→r.length=d.length:=⟨by omega,by omega,by omega,hw,by simp[kQ],fun r hr=>by
   unfold kQ at hr
   obtain⟨i,_,rfl⟩:=List.mem_map.1 hr
   simp[Cm]⟩
  obtain⟨x,hx,hxo⟩:=Lm d P h1 h8 K (by omega)
  unfold gM.f at hr
  rw[if_pos hc2,hx,Option.bind_some]at hr
  by_cases ho:x>P
  ·rw[if_pos ho]at hr
   obtain rfl:=Option.some.inj hr
   exact Bool.noConfusion h2
  rw[if_neg ho]at hr
  obtain⟨q,hq,hq2⟩:=WK (d:=d) (P:=P) (M:=M) K h8 h16 g2.fl.wok (fun i j hf=>by have:=g2.bd i j hf;omega) (by omega)
  rw[hq,Option.bind_some]at hr
  cases hq3:q.2 with
  |false=>
   rw[hq3,if_neg (by decide)]at hr
   obtain rfl:=Option.some.inj hr
   exact Bool.noConfusion h2
  |true=>
   rw[hq3,if_pos rfl]at hr
   obtain rfl:=Option.some.inj hr
   rcases hq2 with⟨rfl,_⟩|⟨m',hm',rfl⟩
   ·exact Bool.noConfusion hq3
   ·refine⟨hq3,hm'.len,fun v=>?_⟩
    rcases Nat.lt_or_ge v d.length with hlt|hge
    ·exact hm'.sol.pos v hlt
    exact Int.le_of_eq (Qj m' v (by have:=hm'.len;omega)).symm
 have i2:(decide (0≤P)&&decide (P≤100000))=false:=by simp;omega
 rw[i2,Bool.not_false,bP.j0,if_pos rfl]at hr
 obtain rfl:=Option.some.inj hr
 exact Bool.noConfusion h2
end Go.Proofs.YtalkmhnlgfncmaaGreatDoor.X
end
section
namespace Go.Proofs.YtalkmhnlgfncmaaGreatDoor.X
open Go.RowKit Go.Proofs.YtalkmhnlgfncmaaGreatDoorW.aC Go.Proofs.YtalkmhnlgfncmaaGreatDoorW.aN Go.Proofs.YtalkmhnlgfncmaaGreatDoorW.aT
attribute [local go_sem] fq fu gJ gK dN dO fA fB
/-! ### impl_MoveFlow: function 12 -/
def jd.f (k:Nat) (bK:List Int) (bf:List (S40)) (l1:List Int):Option (List Int×(List (S40))×Bool):=(iE.f k bK bf l1).bind fun ae0=>(if ae0=true then((bI.f k bK bf l1).bind fun QU=>(some (QU.1,QU.2,true)))else(some (([]:List Int),([]:List (S40)),false)))
set_option maxHeartbeats 8000000 in
set_option maxRecDepth 100000 in
theorem jd.calls (k:Nat) (eT:Option Addr) (eG:Nat) (bK:List Int) (fE:Option Addr) (eH:Nat) (bf:List (S40)) (A1:Option Addr) (c1:Nat) (l1:List Int) (r1:List Int) (r2:List (S40)) (r3:Bool) (w:World) (lZ:Kd.C (Kd.int .i64) w eT bK.length bK) (nV:bK.length≤eG) (lV:Kd.C k40 w fE bf.length bf) (nJ:bf.length≤eH) (hr1:Kd.C (Kd.int .i64) w A1 l1.length l1) (hc1:l1.length≤c1) (h:jd.f k bK bf l1=some (r1,r2,r3)):
  Calls Tryz.prog 12 #[.agg #[.slice eT bK.length eG,.slice fE bf.length eH],.slice A1 l1.length c1] w fun e w'=>∃ v0_ v1_:Value,e= .returned (.tuple #[.agg #[v0_,v1_],.bool r3])∧Kd.R (Kd.int .i64) 2 w' w.heap.size (fun _=>True) v0_ r1∧Kd.R k40 40 w' w.heap.size (fun _=>True) v1_ r2∧Below w.heap.size w w':=by
 have Ux:=Tryz.underlying27
 have jT:=ah.mk lZ
 have kg:=ah.mk nV
 clear lZ nV
 have jU:=ah.mk lV
 have kC:=ah.mk nJ
 clear lV nJ
 have HR1:=ah.mk hr1
 have HC1:=ah.mk hc1
 clear hr1 hc1
 have HB:=ah.mk (Below.refl w.heap.size w)
 have H:((iE.f k bK bf l1).bind fun ae0=>(if ae0=true then((bI.f k bK bf l1).bind fun QU=>(some (QU.1,QU.2,true)))else(some (([]:List Int),([]:List (S40)),false))))=some (r1,r2,r3):=h
 clear h
 obtain⟨ae0,A30,H⟩:=Option.bind_eq_some_iff.mp H
 have A3:=ah.mk A30
 clear A30
 by_cases c4:ae0=true
 ·subst c4
  rw[if_pos rfl]at H
  obtain⟨⟨ae1,agz⟩,A50,H⟩:=Option.bind_eq_some_iff.mp H
  try dsimp only at H
  have A5:=ah.mk A50
  clear A50
  simp only[Option.some.injEq,Prod.mk.injEq]at H
  obtain⟨rfl,rfl,rfl⟩:=H
  go_enter Tryz.func12,Tryz.ntmps12
  go_wp2_with (first|((with_reducible refine aH (N:=2) rfl ?_);refine qbx (N:=2) (cs:=#[.slice eT bK.length eG,.slice fE bf.length eH]) (t:=27) ?_;intro qh hg w6 bR hb;have oQ:=ah.mk (bR);have akI:=ah.mk ((mK HB:w.heap.size≤qh));have wJ:=ah.mk ((mK HB:w.heap.size≤qh));replace HB:=ah.mk (av (qz0 HB) hb);clear hb bR hg)|((with_reducible refine aH (N:=4) rfl ?_);refine qbx (N:=4) (cs:=#[.slice none 0 0,.slice none 0 0]) (t:=27) ?_;intro qj hg w7 bR hb;have rP:=ah.mk (bR);have akJ:=ah.mk ((wU HB wJ:w.heap.size≤qj));have Ho:=ah.mk ((wU HB wJ:w.heap.size≤qj));replace HB:=ah.mk (av (qz4 HB wJ) hb);have AZ:=ah.mk ((aol:qh≠qj));have Ba:=ah.mk ((aom:qj≠qh));replace oQ:=ah.mk (aA (g:=qh) (o:=.cells #[.slice eT bK.length eG,.slice fE bf.length eH] 27 (0,0)) (dP oQ) hb);clear hb bR hg;have aqz:=AZ.out;have aqA:=Ba.out;have VT:w7.cell? ⟨qh,0,none⟩=some (.slice eT bK.length eG):=(aj oQ.out 0).trans rfl;have VU:w7.cell? ⟨qh,1,none⟩=some (.slice fE bf.length eH):=(aj oQ.out 1).trans rfl;have ac4:=ak oQ.out 0;have VW:=ak oQ.out 1)|((with_reducible refine aK (f:=13) rfl ?_);refine dH (some 8) rfl rfl Tryz.func13 qz9 rfl #[.agg #[.slice eT bK.length eG,.slice fE bf.length eH],.slice A1 l1.length c1] rfl jh ?_;(with_reducible refine(iE.calls k _ _ bK _ _ bf _ _ l1 true _ ?bT ?bU ?eu ?eF ?tK ?tL A3.out).mono ?_);(case bT=>exact qz2 jT HB);(case bU=>exact jL kg);(case eu=>exact qz2 jU HB);(case eF=>exact jL kC);(case tK=>exact qz2 HR1 HB);(case tL=>exact jL HC1);rintro e w10 ⟨rfl,hb⟩;refine⟨_,rfl,?_⟩;replace oQ:=ah.mk (aA (g:=qh) (o:=.cells #[.slice eT bK.length eG,.slice fE bf.length eH] 27 (0,0)) (dP oQ) hb);replace rP:=ah.mk (aA (g:=qj) (o:=.cells #[.slice none 0 0,.slice none 0 0] 27 (0,0)) (dP rP) hb);replace HB:=ah.mk (av (qz8 HB wJ Ho) hb);(try clear hb);(try clear hb2);(try clear hk);(try clear hi);have Ae:w10.cell? ⟨qh,0,none⟩=some (.slice eT bK.length eG):=(aj oQ.out 0).trans rfl;have Af:w10.cell? ⟨qh,1,none⟩=some (.slice fE bf.length eH):=(aj oQ.out 1).trans rfl;have Ag:=ak oQ.out 0;have Ah:=ak oQ.out 1)|((with_reducible refine aK (f:=32) rfl ?_);refine dH (some 13) rfl rfl Tryz.func32 qz9 rfl #[.agg #[.slice eT bK.length eG,.slice fE bf.length eH],.slice A1 l1.length c1] rfl jh ?_;(with_reducible refine(bI.calls k _ _ bK _ _ bf _ _ l1 ae1 agz _ ?bT ?bU ?eu ?eF ?tK ?tL A5.out).mono ?_);(case bT=>exact qz2 jT HB);(case bU=>exact jL kg);(case eu=>exact qz2 jU HB);(case eF=>exact jL kC);(case tK=>exact qz2 HR1 HB);(case tL=>exact jL HC1);rintro e w12 ⟨avo,avp,rfl,ho0,ho1,hb⟩;refine⟨_,rfl,?_⟩;have ae2:=ah.mk (Kd.dV ho0 (aG (qz8 HB wJ Ho)));have ae3:=ah.mk (Kd.dV ho1 (aG (qz8 HB wJ Ho)));replace oQ:=ah.mk (aA (g:=qh) (o:=.cells #[.slice eT bK.length eG,.slice fE bf.length eH] 27 (0,0)) (dP oQ) hb);replace rP:=ah.mk (aA (g:=qj) (o:=.cells #[.slice none 0 0,.slice none 0 0] 27 (0,0)) (dP rP) hb);replace HB:=ah.mk (av (qz8 HB wJ Ho) hb);(try clear hb);(try clear hb2);(try clear hk);(try clear hi);(try clear ho0);(try clear ho1);obtain⟨ji,je,ae4⟩:=Kd.dW ae2.out;subst ae4;have oo:w12.cell? ⟨qj,0,none⟩=some (.slice none 0 0):=(aj rP.out 0).trans rfl;have oq:w12.cell? ⟨qj,1,none⟩=some (.slice none 0 0):=(aj rP.out 1).trans rfl;have rG:=ak rP.out 0;have rH:=ak rP.out 1;obtain⟨kV,jM,aec⟩:=Kd.dW ae3.out;subst aec))
  refine bodyPost_ret (mX rfl _ _ qj 27 #[.slice ji ae1.length je,.slice kV agz.length jM] (0,0) _ rfl (by refine qpb ?_;refine aW (cs:=#[.slice ji ae1.length je,.slice none 0 0]) ?_ 1 _ rfl;refine qpb ?_;refine aW (cs:=#[.slice none 0 0,.slice none 0 0]) ?_ 0 _ rfl;refine qpb ?_;exact rP.out) Tryz.underlying27 rfl qz9) rfl ?_
  exact⟨_,_,qz7,by refine qpr ?_;exact Kd.bS (Kd.bX (p:=⟨qj,1,none⟩) (Kd.bX (p:=⟨qj,0,none⟩) (Kd.cO ae2.out rP.out (by decide)) (fun _ hk=>hk.2) (.slice ji ae1.length je)) (fun _ hk=>hk.2) (.slice kV agz.length jM)) (fun _ hk=>trivial),by refine qpr ?_;exact Kd.bS (Kd.bX (p:=⟨qj,1,none⟩) (Kd.bX (p:=⟨qj,0,none⟩) (Kd.cO ae3.out rP.out (by decide)) (fun _ hk=>hk.2) (.slice ji ae1.length je)) (fun _ hk=>hk.2) (.slice kV agz.length jM)) (fun _ hk=>trivial),qz8 HB wJ Ho⟩
 ·replace c4:=Bool.eq_false_iff.mpr c4
  subst c4
  rw[if_neg (show ¬(false=true) by decide)]at H
  simp only[Option.some.injEq,Prod.mk.injEq]at H
  obtain⟨rfl,rfl,rfl⟩:=H
  go_enter Tryz.func12,Tryz.ntmps12
  go_wp2_with (first|((with_reducible refine aH (N:=2) rfl ?_);refine qbx (N:=2) (cs:=#[.slice eT bK.length eG,.slice fE bf.length eH]) (t:=27) ?_;intro qh hg w16 bR hb;have oQ:=ah.mk (bR);have akI:=ah.mk ((mK HB:w.heap.size≤qh));have wJ:=ah.mk ((mK HB:w.heap.size≤qh));replace HB:=ah.mk (av (qz0 HB) hb);clear hb bR hg)|((with_reducible refine aH (N:=4) rfl ?_);refine qbx (N:=4) (cs:=#[.slice none 0 0,.slice none 0 0]) (t:=27) ?_;intro qj hg w17 bR hb;have rP:=ah.mk (bR);have akJ:=ah.mk ((wU HB wJ:w.heap.size≤qj));have Ho:=ah.mk ((wU HB wJ:w.heap.size≤qj));replace HB:=ah.mk (av (qz4 HB wJ) hb);have AZ:=ah.mk ((aol:qh≠qj));have Ba:=ah.mk ((aom:qj≠qh));replace oQ:=ah.mk (aA (g:=qh) (o:=.cells #[.slice eT bK.length eG,.slice fE bf.length eH] 27 (0,0)) (dP oQ) hb);clear hb bR hg;have akK:=AZ.out;have akL:=Ba.out;have Ap:w17.cell? ⟨qh,0,none⟩=some (.slice eT bK.length eG):=(aj oQ.out 0).trans rfl;have Aq:w17.cell? ⟨qh,1,none⟩=some (.slice fE bf.length eH):=(aj oQ.out 1).trans rfl;have Ar:=ak oQ.out 0;have Au:=ak oQ.out 1)|((with_reducible refine aK (f:=13) rfl ?_);refine dH (some 8) rfl rfl Tryz.func13 qz9 rfl #[.agg #[.slice eT bK.length eG,.slice fE bf.length eH],.slice A1 l1.length c1] rfl jh ?_;(with_reducible refine(iE.calls k _ _ bK _ _ bf _ _ l1 false _ ?bT ?bU ?eu ?eF ?tK ?tL A3.out).mono ?_);(case bT=>exact qz2 jT HB);(case bU=>exact jL kg);(case eu=>exact qz2 jU HB);(case eF=>exact jL kC);(case tK=>exact qz2 HR1 HB);(case tL=>exact jL HC1);rintro e w20 ⟨rfl,hb⟩;refine⟨_,rfl,?_⟩;replace oQ:=ah.mk (aA (g:=qh) (o:=.cells #[.slice eT bK.length eG,.slice fE bf.length eH] 27 (0,0)) (dP oQ) hb);replace rP:=ah.mk (aA (g:=qj) (o:=.cells #[.slice none 0 0,.slice none 0 0] 27 (0,0)) (dP rP) hb);replace HB:=ah.mk (av (qz8 HB wJ Ho) hb);(try clear hb);(try clear hb2);(try clear hk);(try clear hi);have NU:w20.cell? ⟨qj,0,none⟩=some (.slice none 0 0):=(aj rP.out 0).trans rfl;have NV:w20.cell? ⟨qj,1,none⟩=some (.slice none 0 0):=(aj rP.out 1).trans rfl;have NW:=ak rP.out 0;have NY:=ak rP.out 1))
  refine bodyPost_ret (mX rfl _ _ qj 27 #[.slice none 0 0,.slice none 0 0] (0,0) _ rfl (ab9 rP) Tryz.underlying27 rfl qz9) rfl ?_
  exact⟨_,_,qz7,Dh,Dh,qz8 HB wJ Ho⟩
end Go.Proofs.YtalkmhnlgfncmaaGreatDoor.X
end
section
/- The law of MoveFlow, plainly. Conditions: as each lemma says. -/
namespace Go.Proofs.YtalkmhnlgfncmaaGreatDoor.X
open Go.RowKit Go.Proofs.YtalkmhnlgfncmaaGreatDoorW.aC Go.Proofs.YtalkmhnlgfncmaaGreatDoorW.aN Go.Proofs.YtalkmhnlgfncmaaGreatDoorW.aT Go.Proofs.YtalkmhnlgfncmaaGreatDoor.iP
noncomputable def MN (l0:List Int) (ws:List S40) (m:List Int):List Int×List S40×Bool:=if yg l0 ws m=true then(l0,ws.map (mvW m),true)else([],[],false)
theorem Dq (k:Nat) (l0:List Int) (ws:List S40) (m:List Int) (hm:m.length≤2000000) (hk:4000000<k):jd.f k l0 ws m=some (MN l0 ws m):=by
 unfold jd.f MN
 rw[Fg k l0 ws m hm hk,Option.bind_some]
 cases hc:yg l0 ws m with
 |false=>rfl
 |true=>
  unfold yg at hc
  rw[Bool.and_eq_true,Bool.and_eq_true,decide_eq_true_eq]at hc
  obtain⟨hn,hl,-,hw⟩:=Fe hc.1
  rw[if_pos rfl,if_pos rfl,GU k l0 ws m (by omega) hl (by rw[hc.2.1];exact hw) (by omega),Option.bind_some]
end Go.Proofs.YtalkmhnlgfncmaaGreatDoor.X
end
section
namespace Go.Proofs.YtalkmhnlgfncmaaGreatDoor.X
open Go.RowKit Go.Proofs.YtalkmhnlgfncmaaGreatDoorW.aC Go.Proofs.YtalkmhnlgfncmaaGreatDoorW.aN Go.Proofs.YtalkmhnlgfncmaaGreatDoorW.aT
attribute [local go_sem] fq fu gJ gK dN dO fA fB
/-! ### impl_ShiftMoves: function 15 -/
def dL.l0:Nat→List Int→Int→List Int→List Int→Int→Int→Option (List Int×Bool)
 |0,_,_,_,_,_,_=>none
 |k+1,x0,x1,x6,x10,x11,x12=>if x12<x11 then(if 0≤x12 then(if x12<(x10.length:Int)then(if x6.length<17592186044416 then(dL.l0 k x0 x1 (x6++[wrap64 ((rd x10 x12)+x1)]) x10 x11 (wrap64 (x12+1)))else(none))else(none))else(none))else((aU.f (x0.length:Int) 1 8).bind fun akM=>(if akM=true then((fH.f k x0).bind fun akN=>(if akN=true then((aU.f x1 (-40) 40).bind fun UZ=>(if UZ=true then((fH.f k x6).bind fun gT=>(if gT=true then(some (x6,true))else(some (([]:List Int),false))))else(some (([]:List Int),false))))else(some (([]:List Int),false))))else(some (([]:List Int),false))))
def dL.f (k:Nat) (l0:List Int) (a1:Int):Option (List Int×Bool):=dL.l0 k l0 a1 (([]:List Int)) l0 (l0.length:Int) 0
set_option maxHeartbeats 8000000 in
set_option maxRecDepth 100000 in
theorem dL.calls (k:Nat) (A0:Option Addr) (c0:Nat) (l0:List Int) (a1:Int) (r1:List Int) (r2:Bool) (w:World) (hr0:Kd.C (Kd.int .i64) w A0 l0.length l0) (hc0:l0.length≤c0) (h:dL.f k l0 a1=some (r1,r2)):
  Calls Tryz.prog 15 #[.slice A0 l0.length c0,.int .i64 a1] w fun e w'=>∃ v0_:Value,e= .returned (.tuple #[v0_,.bool r2])∧Kd.R (Kd.int .i64) 2 w' w.heap.size (fun _=>True) v0_ r1∧Below w.heap.size w w':=by
 have HR0:=ah.mk hr0
 have HC0:=ah.mk hc0
 clear hr0 hc0
 have HB:=ah.mk (Below.refl w.heap.size w)
 have H:(dL.l0 k l0 a1 (([]:List Int)) l0 (l0.length:Int) 0)=some (r1,r2):=h
 clear h
 obtain⟨aon,QV⟩:∃ y_:List Int,y_=(([]:List Int)):=⟨_,rfl⟩
 replace H:(dL.l0 k l0 a1 aon l0 (l0.length:Int) 0)=some (r1,r2):=by first|(rw[QV];with_reducible exact H)|(have H2_:=(Option.bind_some _ _).symm.trans H;rw[QV];with_reducible exact H2_)|(have H2_:=(Option.bind_some _ _).symm.trans H;with_reducible exact H2_)|with_reducible exact H|(rw[QV];exact H)|exact H
 have ae5:=ah.mk QV
 clear QV
 have H':=ah.mk H
 clear H
 go_enter Tryz.func15,Tryz.ntmps15
 go_wp2_with (first|((with_reducible refine aH (N:=9) rfl ?_);refine Kd.vR (Kd.int .i64) _ 2 ?hg (N:=9) ?hd (xs:=([]:List Int)) (inner:=[]) (ok:=fun _=>True) (okp:=fun _=>True) ?hr ?hp (fun _ hk=>hk) trivial (Below.refl _ _) (Nat.le_refl _) (by simp) ?_;(case hd=>rfl);(case hg=>rfl);(case hr=>exact qz1);(case hp=>exact(jO.none _ _));intro avq w3 ho4 hb hg_ lF;clear hg_ lF;(first|rw[← ae5.out]at ho4|(simp only[Int.reduceToNat]at ho4;rw[← ae5.out]at ho4));have akO:=ah.mk (Kd.dV ho4 (aG (qz0 HB)));replace HB:=ah.mk (av (qz0 HB) hb);clear hb ho4))
 go_loopg [6,12] k (fun kq v6 v12 w'=>∃ (gY:List Int) (sD:Int),v12= .int .i64 sD∧ah (dL.l0 kq l0 a1 gY l0 (l0.length:Int) sD=some (r1,r2))∧ah (kq≤k)∧ah (Kd.R (Kd.int .i64) 2 w' w.heap.size (fun _=>True) v6 gY)∧ah (Below w.heap.size w w'))
 case atStart=>exact⟨(aon),(0),iY,H',⟨Nat.le_refl _⟩,⟨cK akO⟩,⟨qz0 HB⟩⟩
 case round=>
  clear H'
  try clear c1
  try clear p2
  obtain⟨gY,sD,rfl,HA,HK1,nu,HB⟩:=hrel
  cases gk with
  |zero=>exact absurd HA.out (by simp[dL.l0])
  |succ k1=>
   have H:=HA.out
   clear HA
   simp only[dL.l0]at H
   by_cases c5:sD<(l0.length:Int)
   ·rw[if_pos c5]at H
    have Cx:decide (sD<(l0.length:Int))=true:=decide_eq_true c5
    clear c5
    by_cases c6:0≤sD
    ·rw[if_pos c6]at H
     have adT:decide (0≤sD)=true:=decide_eq_true c6
     clear c6
     by_cases c7:sD<(l0.length:Int)
     ·rw[if_pos c7]at H
      have aah:decide (sD<(l0.length:Int))=true:=decide_eq_true c7
      clear c7
      by_cases c8:gY.length<17592186044416
      ·rw[if_pos c8]at H
       have arJ:=ah.mk c8
       clear c8
       obtain⟨aoo,QX⟩:∃ y_:List Int,y_=(gY++[wrap64 ((rd l0 sD)+a1)]):=⟨_,rfl⟩
       replace H:(dL.l0 k1 l0 a1 aoo l0 (l0.length:Int) (wrap64 (sD+1)))=some (r1,r2):=by first|(rw[QX];with_reducible exact H)|(have H2_:=(Option.bind_some _ _).symm.trans H;rw[QX];with_reducible exact H2_)|(have H2_:=(Option.bind_some _ _).symm.trans H;with_reducible exact H2_)|with_reducible exact H|(rw[QX];exact H)|exact H
       have akP:=ah.mk QX
       clear QX
       have H':=ah.mk H
       clear H
       have akQ:0≤(sD:Int):=of_decide_eq_true gN
       have akR:sD<(l0.length:Int):=of_decide_eq_true gN
       obtain⟨arK,arL,Kg⟩:=Kd.iC HR0.out sD akQ akR
       cases arL
       replace Kg:=(HB.out.cell (World.block_lt_of_cell? w _ Kg)).trans Kg
       replace akQ:=eq_true akQ
       replace akR:=eq_true akR
       go_wp2_with (first|((with_reducible refine gI (b:=.append) (xs:=#[.tmp 16,.tmp 20]) rfl ?_);at_builtin;refine Kd.kY (Kd.int .i64) (w0:=w) w.heap.size rfl (.tmp 16) (.tmp 20) 24 2 (.int .i64 0) 8 rfl Tryz.underlying24 sS rfl (by decide) (by omega) u6 gY (wrap64 ((rd l0 sD)+a1)) [.int .i64 (wrap64 ((rd l0 sD)+a1))] (fun _=>True) (fun _=>False) rfl rfl ?aP (fun _ hk=>hk.elim) ?aF ?aO ?aB ?aS ?aL ?_;(case aP=>exact rfl);(case aB=>exact(qz0 HB));(case aF=>exact(fun _ _=>trivial));(case aO=>exact(cK nu));(case aS=>exact(aG (qz0 HB)));(case aL=>exact qz3 arJ);intro avr w9 ho hb hg hat;rw[← akP.out]at ho;replace HB:=ah.mk (hb);have akS:=ah.mk (ho);clear nu;clear ho hb hg hat))
       go_roundg k1
       case measure=>have:=HK1.out;omega
       case rel=>exact⟨(aoo),(wrap64 (sD+1)),iY,H',⟨qz3 HK1⟩,⟨cK akS⟩,⟨qz0 HB⟩⟩
      rw[if_neg c8]at H
      exact absurd H (by simp)
     rw[if_neg c7]at H
     exact absurd H (by simp)
    rw[if_neg c6]at H
    exact absurd H (by simp)
   ·rw[if_neg c5]at H
    have Cx:decide (sD<(l0.length:Int))=false:=decide_eq_false c5
    clear c5
    obtain⟨akM,OB,H⟩:=Option.bind_eq_some_iff.mp H
    have A10:=ah.mk OB
    clear OB
    by_cases c11:akM=true
    ·subst c11
     rw[if_pos rfl]at H
     obtain⟨akN,aop,H⟩:=Option.bind_eq_some_iff.mp H
     have A12:=ah.mk aop
     clear aop
     by_cases c13:akN=true
     ·subst c13
      rw[if_pos rfl]at H
      obtain⟨UZ,WS,H⟩:=Option.bind_eq_some_iff.mp H
      have A14:=ah.mk WS
      clear WS
      by_cases c15:UZ=true
      ·subst c15
       rw[if_pos rfl]at H
       obtain⟨gT,aoq,H⟩:=Option.bind_eq_some_iff.mp H
       have A16:=ah.mk aoq
       clear aoq
       by_cases c17:gT=true
       ·subst c17
        rw[if_pos rfl]at H
        simp only[Option.some.injEq,Prod.mk.injEq]at H
        obtain⟨rfl,rfl⟩:=H
        go_wp2_with (first|((with_reducible refine aK (f:=18) rfl ?_);refine dH (some 25) rfl rfl Tryz.func18 qz9 rfl #[.int .i64 (l0.length:Int),.int .i64 1,.int .i64 8] rfl jh ?_;(with_reducible refine(aU.calls (l0.length:Int) 1 8 true _ A10.out).mono ?_);rintro e w' ⟨rfl,⟨nd,rfl⟩⟩;refine⟨_,rfl,?_⟩)|(go_at_call 33;(with_reducible refine(fH.calls k1 _ _ l0 true _ ?bT ?bU A12.out).mono ?_);(case bT=>exact agB HR0 HB);(case bU=>exact jL HC0);rintro e w' ⟨rfl,⟨nd,rfl⟩⟩)|(go_at_call 18;(with_reducible refine(aU.calls a1 (-40) 40 true _ A14.out).mono ?_);rintro e w' ⟨rfl,⟨nd,rfl⟩⟩;obtain⟨akB,akC,ab7⟩:=Kd.dW nu.out;subst ab7)|(go_at_call 33;(with_reducible refine(fH.calls k1 _ _ gY true _ ?bT ?bU A16.out).mono ?_);(case bT=>exact qO nu);(case bU=>exact qg nu);rintro e w' ⟨rfl,⟨nd,rfl⟩⟩))
        go_ret2
        exact⟨_,qz7,cK nu,qz0 HB⟩
       replace c17:=Bool.eq_false_iff.mpr c17
       subst c17
       rw[if_neg (show ¬(false=true) by decide)]at H
       simp only[Option.some.injEq,Prod.mk.injEq]at H
       obtain⟨rfl,rfl⟩:=H
       go_wp2_with (first|((with_reducible refine aK (f:=18) rfl ?_);refine dH (some 25) rfl rfl Tryz.func18 qz9 rfl #[.int .i64 (l0.length:Int),.int .i64 1,.int .i64 8] rfl jh ?_;(with_reducible refine(aU.calls (l0.length:Int) 1 8 true _ A10.out).mono ?_);rintro e w' ⟨rfl,⟨nd,rfl⟩⟩;refine⟨_,rfl,?_⟩)|(go_at_call 33;(with_reducible refine(fH.calls k1 _ _ l0 true _ ?bT ?bU A12.out).mono ?_);(case bT=>exact agB HR0 HB);(case bU=>exact jL HC0);rintro e w' ⟨rfl,⟨nd,rfl⟩⟩)|(go_at_call 18;(with_reducible refine(aU.calls a1 (-40) 40 true _ A14.out).mono ?_);rintro e w' ⟨rfl,⟨nd,rfl⟩⟩;obtain⟨avs,avt,arM⟩:=Kd.dW nu.out;subst arM)|(go_at_call 33;(with_reducible refine(fH.calls k1 _ _ gY false _ ?bT ?bU A16.out).mono ?_);(case bT=>exact qO nu);(case bU=>exact qg nu);rintro e w' ⟨rfl,⟨nd,rfl⟩⟩))
       go_ret2
       exact⟨_,qz7,Dh,qz0 HB⟩
      replace c15:=Bool.eq_false_iff.mpr c15
      subst c15
      rw[if_neg (show ¬(false=true) by decide)]at H
      simp only[Option.some.injEq,Prod.mk.injEq]at H
      obtain⟨rfl,rfl⟩:=H
      go_wp2_with (first|((with_reducible refine aK (f:=18) rfl ?_);refine dH (some 25) rfl rfl Tryz.func18 qz9 rfl #[.int .i64 (l0.length:Int),.int .i64 1,.int .i64 8] rfl jh ?_;(with_reducible refine(aU.calls (l0.length:Int) 1 8 true _ A10.out).mono ?_);rintro e w' ⟨rfl,⟨nd,rfl⟩⟩;refine⟨_,rfl,?_⟩)|(go_at_call 33;(with_reducible refine(fH.calls k1 _ _ l0 true _ ?bT ?bU A12.out).mono ?_);(case bT=>exact agB HR0 HB);(case bU=>exact jL HC0);rintro e w' ⟨rfl,⟨nd,rfl⟩⟩)|(go_at_call 18;(with_reducible refine(aU.calls a1 (-40) 40 false _ A14.out).mono ?_);rintro e w' ⟨rfl,⟨nd,rfl⟩⟩))
      go_ret2
      exact⟨_,qz7,Dh,qz0 HB⟩
     replace c13:=Bool.eq_false_iff.mpr c13
     subst c13
     rw[if_neg (show ¬(false=true) by decide)]at H
     simp only[Option.some.injEq,Prod.mk.injEq]at H
     obtain⟨rfl,rfl⟩:=H
     go_wp2_with (first|((with_reducible refine aK (f:=18) rfl ?_);refine dH (some 25) rfl rfl Tryz.func18 qz9 rfl #[.int .i64 (l0.length:Int),.int .i64 1,.int .i64 8] rfl jh ?_;(with_reducible refine(aU.calls (l0.length:Int) 1 8 true _ A10.out).mono ?_);rintro e w' ⟨rfl,⟨nd,rfl⟩⟩;refine⟨_,rfl,?_⟩)|(go_at_call 33;(with_reducible refine(fH.calls k1 _ _ l0 false _ ?bT ?bU A12.out).mono ?_);(case bT=>exact agB HR0 HB);(case bU=>exact jL HC0);rintro e w' ⟨rfl,⟨nd,rfl⟩⟩))
     go_ret2
     exact⟨_,qz7,Dh,qz0 HB⟩
    replace c11:=Bool.eq_false_iff.mpr c11
    subst c11
    rw[if_neg (show ¬(false=true) by decide)]at H
    simp only[Option.some.injEq,Prod.mk.injEq]at H
    obtain⟨rfl,rfl⟩:=H
    go_wp2_with (first|((with_reducible refine aK (f:=18) rfl ?_);refine dH (some 25) rfl rfl Tryz.func18 qz9 rfl #[.int .i64 (l0.length:Int),.int .i64 1,.int .i64 8] rfl jh ?_;(with_reducible refine(aU.calls (l0.length:Int) 1 8 false _ A10.out).mono ?_);rintro e w' ⟨rfl,⟨nd,rfl⟩⟩;refine⟨_,rfl,?_⟩))
    go_ret2
    exact⟨_,qz7,Dh,qz0 HB⟩
end Go.Proofs.YtalkmhnlgfncmaaGreatDoor.X
end
section
/- Moves that are shifted: the plain law of ShiftMoves. Conditions: as each lemma says. -/
namespace Go.Proofs.YtalkmhnlgfncmaaGreatDoor.X
open Go.RowKit Go.Proofs.YtalkmhnlgfncmaaGreatDoorW.aC Go.Proofs.YtalkmhnlgfncmaaGreatDoorW.aN Go.Proofs.YtalkmhnlgfncmaaGreatDoorW.aT
/-- The moves, shifted. -/
def shf (l:List Int) (a:Int):List Int:=l.map fun x=>wrap64 (x+a)
theorem ug (l:List Int) (a:Int):(shf l a).length=l.length:=by simp[shf]
theorem Va (l:List Int) (a:Int) (i:Nat) (hi:i<l.length):shf (l.take (i+1)) a=shf (l.take i) a++[wrap64 (l[i]+a)]:=by
 unfold shf
 rw[show l.take (i+1)=l.take i++[l[i]] by rw[List.take_append_getElem],List.map_append];rfl
def QY (l:List Int) (a:Int):Bool:=decide (1≤(l.length:Int)∧(l.length:Int)≤8)&&(l.all mv&&(decide (-40≤a∧a≤40)&&(shf l a).all mv))
def QZ (l:List Int) (a:Int):List Int×Bool:=if QY l a=true then(shf l a,true)else([],false)
theorem uh (l:List Int) (a:Int) (hl:l.length≤4000000):∀ (d k i:Nat),i+d=l.length→4000001+d<k→dL.l0 k l a (shf (l.take i) a) l l.length i=some (QZ l a)
 |0,k,i,hi,hk=>by
  cases k with
  |zero=>omega
  |succ k=>
   rw[dL.l0,if_neg (by omega),tO,Option.bind_some,PD k l hl (by omega),Option.bind_some,tO,Option.bind_some,List.take_of_length_le (by omega),PD k _ (by rw[ug];exact hl) (by rw[ug];omega),Option.bind_some]
   unfold QZ QY
   cases decide (1≤(l.length:Int)∧(l.length:Int)≤8)<;>cases l.all mv<;>cases decide (-40≤a∧a≤40)<;>cases (shf l a).all mv<;>rfl
 |d+1,k,i,hi,hk=>by
  cases k with
  |zero=>omega
  |succ k=>
   have ih:=uh l a hl d k (i+1) (by omega) (by omega)
   have hi2:i<l.length:=by omega
   rw[Va l a i hi2,Int.natCast_add,Int.natCast_one]at ih
   rw[dL.l0,if_pos (by omega),if_pos (by omega),if_pos (by omega),if_pos (by rw[ug,List.length_take];omega),qQ l i hi2,w64 (n:=(i:Int)+1) (by omega) (by omega)]
   exact ih
theorem MO (k:Nat) (l:List Int) (a:Int) (hl:l.length≤4000000) (hk:9000000<k):dL.f k l a=some (QZ l a):=by
 unfold dL.f
 exact uh l a hl l.length k 0 (by omega) (by omega)
end Go.Proofs.YtalkmhnlgfncmaaGreatDoor.X
end
section
namespace Go.Proofs.YtalkmhnlgfncmaaGreatDoor.X
open Go.RowKit Go.Proofs.YtalkmhnlgfncmaaGreatDoorW.aC Go.Proofs.YtalkmhnlgfncmaaGreatDoorW.aN Go.Proofs.YtalkmhnlgfncmaaGreatDoorW.aT
attribute [local go_sem] fq fu gJ gK dN dO fA fB
/-! ### laws_r8At: function 7 -/
def jB.f (l0:List Int) (a1:Int) (a2:Int):Option (Int):=if a2≤1 then(some 0)else(if a1≥(l0.length:Int)then(some 0)else(if 0≤a1 then(if a1<(l0.length:Int)then(if a2=0 then(none)else(some (Int.tmod (wrap64 (rd l0 a1)) a2)))else(none))else(none)))
set_option maxHeartbeats 8000000 in
set_option maxRecDepth 100000 in
theorem jB.calls (A0:Option Addr) (c0:Nat) (l0:List Int) (a1:Int) (a2:Int) (r:Int) (w:World) (hr0:Kd.C (Kd.int .u8) w A0 l0.length l0) (hc0:l0.length≤c0) (h:jB.f l0 a1 a2=some r):
  Calls Tryz.prog 7 #[.slice A0 l0.length c0,.int .i64 a1,.int .i64 a2] w fun e w'=>e= .returned (.int .i64 r)∧gQ w w':=by
 have HR0:=ah.mk hr0
 have HC0:=ah.mk hc0
 clear hr0 hc0
 have H:(if a2≤1 then(some 0)else(if a1≥(l0.length:Int)then(some 0)else(if 0≤a1 then(if a1<(l0.length:Int)then(if a2=0 then(none)else(some (Int.tmod (wrap64 (rd l0 a1)) a2)))else(none))else(none))))=some r:=h
 clear h
 by_cases c4:a2≤1
 ·rw[if_pos c4]at H
  have Il:decide (a2≤1)=true:=decide_eq_true c4
  clear c4
  obtain rfl:=Option.some.inj H
  go_enter Tryz.func7,Tryz.ntmps7
  go_wp2
  go_ret
  exact⟨iY,vM⟩
 ·rw[if_neg c4]at H
  have Il:decide (a2≤1)=false:=decide_eq_false c4
  clear c4
  by_cases c5:a1≥(l0.length:Int)
  ·rw[if_pos c5]at H
   have Cx:decide ((l0.length:Int)≤a1)=true:=decide_eq_true c5
   clear c5
   obtain rfl:=Option.some.inj H
   go_enter Tryz.func7,Tryz.ntmps7
   go_wp2
   go_ret
   exact⟨iY,vM⟩
  rw[if_neg c5]at H
  have Cx:decide ((l0.length:Int)≤a1)=false:=decide_eq_false c5
  clear c5
  by_cases c6:0≤a1
  ·rw[if_pos c6]at H
   have adT:decide (0≤a1)=true:=decide_eq_true c6
   clear c6
   by_cases c7:a1<(l0.length:Int)
   ·rw[if_pos c7]at H
    have aah:decide (a1<(l0.length:Int))=true:=decide_eq_true c7
    clear c7
    by_cases c8:a2=0
    ·rw[if_pos c8]at H
     exact absurd H (by simp)
    rw[if_neg c8]at H
    have Ov:(a2==0)=false:=beq_eq_false_iff_ne.mpr c8
    have arN:(a2 !=0)=true:=bne_iff_ne.mpr c8
    obtain rfl:=Option.some.inj H
    have akT:0≤(a1:Int):=of_decide_eq_true gN
    have akU:a1<(l0.length:Int):=of_decide_eq_true gN
    obtain⟨arO,e250,akV⟩:=Kd.iC HR0.out a1 akT akU
    cases e250
    replace akT:=eq_true akT
    replace akU:=eq_true akU
    go_enter Tryz.func7,Tryz.ntmps7
    go_wp2
    go_ret
    exact⟨iY,vM⟩
   rw[if_neg c7]at H
   exact absurd H (by simp)
  rw[if_neg c6]at H
  exact absurd H (by simp)
end Go.Proofs.YtalkmhnlgfncmaaGreatDoor.X
end
section
/- The parts of FnMoved's plain law: fewest registers told, shifted moves. Conditions: as each lemma says. -/
namespace Go.Proofs.YtalkmhnlgfncmaaGreatDoor.X
open Go.RowKit Go.Proofs.YtalkmhnlgfncmaaGreatDoorW.aC Go.Proofs.YtalkmhnlgfncmaaGreatDoorW.aN Go.Proofs.YtalkmhnlgfncmaaGreatDoorW.aT Go.Proofs.YtalkmhnlgfncmaaGreatDoor.iP Go.Proofs.YtalkmhnlgfncmaaGreatDoor.jF
theorem yY (k:Nat) (d:List Int) (ws:List S40) (M:Nat→Nat→Bt) (A B:Nat) (hv:iV d ws=true) (hA:A<d.length) (hB:B<d.length) (hM:dh.f k d ws=some (kQ d.length M)) (hk:3000<k):
  eX.f k d ws (A:Int) (B:Int)=some ((M A B).r,(M A B).d,(M A B).f):=by
 have hfl:=Ke d ws hv
 have hn:=hfl.n8
 have hn1:=hfl.n1
 unfold eX.f
 rw[mZ k d ws (by omega),Option.bind_some,hv,if_pos rfl,w64 (by omega) (by omega),tO,tO,Option.bind_some,decide_eq_true (show (0:Int)≤(A:Int)∧(A:Int)≤(d.length:Int) - 1 by omega),if_pos rfl,Option.bind_some,decide_eq_true (show (0:Int)≤(B:Int)∧(B:Int)≤(d.length:Int) - 1 by omega),if_pos rfl,hM,Option.bind_some]
 have hrow:nT (kQ d.length M) (A:Int)=Cm d.length M A:=by
  unfold nT
  rw[Int.toNat_natCast,List.getD_eq_getElem?_getD,zS _ _ _ (by omega)];rfl
 have hcell:pU (Cm d.length M A) (B:Int)=toS (M A B):=by
  unfold pU
  rw[Int.toNat_natCast,List.getD_eq_getElem?_getD,Es _ _ _ _ (by omega)];rfl
 have hl1:(kQ d.length M).length=d.length:=by simp[kQ]
 have hl2:(Cm d.length M A).length=d.length:=by simp[Cm]
 rw[if_pos (by omega),hl1,if_pos (by omega),if_pos (by omega),hrow,hl2,if_pos (by omega),hcell]
 rfl
theorem Vb (k:Nat) (d:List Int) (ws:List S40) (m:List Int) (hc:yg d ws m=true) (A B:Nat) (hA:A<d.length) (hB:B<d.length) (hk:3000<k):
  ∃ p q:Int×Int×Bool,eX.f k d ws (A:Int) (B:Int)=some p∧eX.f k d (ws.map (mvW m)) (A:Int) (B:Int)=some q∧q.2.2=p.2.2∧(p.2.2=true→q.1=p.1+mo m B - mo m A∧q.2.1=p.2.1∧0≤p.1∧p.1≤200000):=by
 have hv':=AY d ws m hc
 have hc2:=hc
 unfold yg at hc2
 simp only[Bool.and_eq_true]at hc2
 obtain⟨hv,_,hm,hf⟩:=hc2
 obtain⟨M,M',e1,e2,e3,e4⟩:=QT k d ws m d.length hm (Ke d ws hv) (Ke d _ hv') A B (by omega)
 refine⟨_,_,yY k d ws M A B hv hA hB e1 hk,yY k d _ M' A B hv' hA hB e2 hk,e3,fun h=>?_⟩
 obtain⟨g1,g2⟩:=e4 h
 obtain⟨M2,e5,b1,_⟩:=yS (Ke d ws hv) k (by omega)
 have h5:eX.f k d ws (A:Int) (B:Int)=some ((M2 A B).r,(M2 A B).d,(M2 A B).f):=yY k d ws M2 A B hv hA hB e5 hk
 rw[yY k d ws M A B hv hA hB e1 hk]at h5
 have h6:=Option.some.inj h5
 injection h6 with h7 h8
 injection h8 with h8 h9
 have b:Bd 9000 (M2 A B):=b1 (A,B)
 have:=b (by rw[← h9];exact h)
 exact⟨g1,g2,by show 0≤(M A B).r;omega,by show (M A B).r≤200000;omega⟩
/-- Moves that are all less by one do the same. -/
theorem Ra (m:List Int) (d:List Int) (ws:List S40) (hc:yg d ws m=true) (h0:∀ v,0≤mo m v):yg d ws (shf m (-1))=true∧ws.map (mvW (shf m (-1)))=ws.map (mvW m)∧QZ m (-1)=(shf m (-1),true):=by
 have hc2:=hc
 unfold yg at hc2
 simp only[Bool.and_eq_true]at hc2
 obtain⟨hv,hl,hm,hf⟩:=hc2
 have hl:=of_decide_eq_true hl
 have F:=Ke d ws hv
 have hn8:=F.n8
 have hn1:=F.n1
 have gt:∀ v:Nat,v<m.length→rd (shf m (-1)) (v:Int)=rd m (v:Int) - 1:=fun v hv=>by
  have hb:=Dn m hm v
  unfold mo at hb
  rw[qQ m v hv]at hb ⊢
  rw[qQ _ v (by rw[ug];exact hv)]
  unfold shf
  rw[List.getElem_map,w64 (by omega) (by omega)];rfl
 have hall:(shf m (-1)).all mv=true:=by
  rw[List.all_eq_true]
  intro x hx
  obtain⟨i,hi,e⟩:=List.getElem_of_mem hx
  rw[ug]at hi
  have h1:=gt i hi
  rw[qQ _ i (by rw[ug];exact hi),e]at h1
  have h2:=h0 i
  have h3:=Dn m hm i
  unfold mo at h2 h3
  exact decide_eq_true ⟨by omega,by omega⟩
 have hmap:ws.map (mvW (shf m (-1)))=ws.map (mvW m):=by
  apply List.map_congr_left
  intro w hw
  have ok:=F.wok w hw
  rw[Dp m hm _ w ok,Dp _ hall _ w ok]
  obtain⟨a,b,c,e,_,_⟩:=ok
  have g0:=gt w.f0.toNat (by omega)
  have g1:=gt w.f1.toNat (by omega)
  unfold mo
  rw[g0,g1]
  congr 1;omega
 refine⟨?_,hmap,?_⟩
 ·unfold yg
  rw[hmap,hv,hall,hf,decide_eq_true (show (shf m (-1)).length=d.length by rw[ug];exact hl)];rfl
 unfold QZ QY
 rw[hm,hall,decide_eq_true (show 1≤(m.length:Int)∧(m.length:Int)≤8 by omega)];rfl
theorem at8 (l:List Int) (i:Nat) (n:Int) (hb:∀ x,x∈l→0≤x∧x≤255):∃ v:Int,jB.f l i n=some v∧0≤v∧(v<n∨v=0):=by
 unfold jB.f
 by_cases h1:n≤1
 ·rw[if_pos h1];exact⟨0,rfl,by omega,.inr rfl⟩
 rw[if_neg h1]
 by_cases h2:(i:Int)≥(l.length:Int)
 ·rw[if_pos h2];exact⟨0,rfl,by omega,.inr rfl⟩
 rw[if_neg h2,if_pos (by omega),if_pos (by omega),if_neg (by omega),qQ l i (by omega)]
 obtain⟨a,b⟩:=hb _ (List.getElem_mem (show i<l.length by omega))
 rw[w64 (by omega) (by omega),XO a]
 have:=Int.emod_nonneg l[i] (show n≠0 by omega)
 have:=Int.emod_lt_of_pos l[i] (show 0<n by omega)
 exact⟨_,rfl,by omega,.inl (by omega)⟩
end Go.Proofs.YtalkmhnlgfncmaaGreatDoor.X
end
