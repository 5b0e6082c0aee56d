/- My own texts of this seat and its words, merged: XT40, XT21, Xp63. Conditions: as each lemma says. -/
import Derived.Test.YtalkmhnlgfncmaaGreatDoorI22
import Derived.Test.YtalkmhnlgfncmaaGreatDoorI25
import Derived.Test.YtalkmhnlgfncmaaGreatDoorI21
import Derived.Test.YtalkmhnlgfncmaaGreatDoorXSlim
set_option linter.unusedVariables false
set_option linter.unusedSimpArgs false
section
/- The contract of a printed function over a looser state. Conditions: as printed. -/
namespace Go.Proofs.YtalkmhnlgfncmaaGreatDoor.X
open Go.RowKit Go.Proofs.YtalkmhnlgfncmaaGreatDoorW.aC Go.Proofs.YtalkmhnlgfncmaaGreatDoorW.aN Go.Proofs.YtalkmhnlgfncmaaGreatDoorW.aT
set_option maxHeartbeats 8000000 in
set_option maxRecDepth 100000 in
theorem aQ.EN (k:Nat) (g:Nat) (dX:List Int) (bH:List (S40)) (a1:Int) (r:Bool) (w0 w:World) (hI:fT w0 w g dX bH) (hB:Below w0.heap.size w0 w) (h:aQ.f k dX bH a1=some r):
  Calls Tryz.prog 40 #[.pointer (some ⟨g,0,none⟩),.int .i64 a1] w fun e w'=>e= .returned (.bool r)∧fT w0 w' g dX bH∧Below w0.heap.size w0 w'∧aI w w' g none:=by
 have Wh:=Tryz.underlying40
 have HI0:=ah.mk hI
 have HK:=ah.mk (aI.refl w g none)
 have HL:=ah.mk hB.size
 clear hI
 have HW0:=ah.mk hB.size
 have HB:=ah.mk hB
 clear hB
 have H:(aQ.l0 k a1 (([]:List Int)) (([a1]:List Int)) 0 dX bH)=some r:=h
 clear h
 obtain⟨ajo,PE⟩:∃ y_:List Int,y_=(([]:List Int)):=⟨_,rfl⟩
 replace H:(aQ.l0 k a1 ajo (([a1]:List Int)) 0 dX bH)=some r:=by first|(rw[PE];with_reducible exact H)|(have H2_:=(Option.bind_some _ _).symm.trans H;rw[PE];with_reducible exact H2_)|(have H2_:=(Option.bind_some _ _).symm.trans H;with_reducible exact H2_)|with_reducible exact H|(rw[PE];exact H)|exact H
 have Mw:=ah.mk PE
 clear PE
 obtain⟨anR,PG⟩:∃ y_:List Int,y_=(([a1]:List Int)):=⟨_,rfl⟩
 replace H:(aQ.l0 k a1 ajo anR 0 dX bH)=some r:=by first|(rw[PG];with_reducible exact H)|(have H2_:=(Option.bind_some _ _).symm.trans H;rw[PG];with_reducible exact H2_)|(have H2_:=(Option.bind_some _ _).symm.trans H;with_reducible exact H2_)|with_reducible exact H|(rw[PG];exact H)|exact H
 have Mx:=ah.mk PG
 clear PG
 have H':=ah.mk H
 clear H
 go_enter Tryz.func40,Tryz.ntmps40
 go_wp2_with (first|((with_reducible refine aH (N:=10) rfl ?_);refine Kd.vR (Kd.int .i64) _ 2 ?hg (N:=10) ?hd (xs:=([]:List Int)) (inner:=[]) (ok:=fun _=>True) (okp:=fun _=>True) ?hr ?hp (fun _ hk=>hk) trivial (Below.refl _ _) (Nat.le_refl _) (by simp) ?_;(case hd=>rfl);(case hg=>rfl);(case hr=>exact qz1);(case hp=>exact(jO.none _ _));intro anS w3 ho4 hb hg_ lF;clear hg_ lF;(first|rw[← Mw.out]at ho4|(simp only[Int.reduceToNat]at ho4;rw[← Mw.out]at ho4));have yH:=ah.mk (Kd.dV ho4 (iw (w:=w) (g:=g) (row:=none) (mM HK)));replace HK:=ah.mk (aI.trans (mM HK) (aI.of_below hb g none) (.inl rfl));replace HB:=ah.mk (av (uO HB HI0) hb);replace HI0:=ah.mk (fT.below (sF HI0) hb);clear hb ho4)|((with_reducible refine aH (N:=12) rfl ?_);refine Kd.vR (Kd.int .i64) _ 2 ?hg (N:=12) ?hd (xs:=([a1]:List Int)) (inner:=[.int .i64 a1]) (ok:=fun _=>True) (okp:=fun _=>True) ?hr ?hp (fun _ hk=>hk) trivial (Below.refl _ _) (Nat.le_refl _) (by simp) ?_;(case hd=>rfl);(case hg=>rfl);(case hr=>exact qz1);(case hp=>exact(jO.one (show Kd.M (Kd.int .i64) _ _ _ a1 [.int .i64 a1] from rfl) (jO.none _ _)));intro v138 w5 ho6 hb hg_ lF;clear hg_ lF;(first|rw[← Mx.out]at ho6|(simp only[Int.reduceToNat]at ho6;rw[← Mx.out]at ho6));have aag:=ah.mk (Kd.dV (Kd.iU ho6 (Kd.qo (cK yH))) (iw (w:=w) (g:=g) (row:=none) (mM HK)));replace yH:=ah.mk (Kd.fK (cK yH) (Kd.iJ ho6) hb);replace HK:=ah.mk (aI.trans (mM HK) (aI.of_below hb g none) (.inl rfl));replace HB:=ah.mk (av (uO HB HI0) hb);replace HI0:=ah.mk (fT.below (sF HI0) hb);clear hb ho6))
 repeat(go_quiet (first|((with_reducible refine aH (N:=10) rfl ?_);refine Kd.vR (Kd.int .i64) _ 2 ?hg (N:=10) ?hd (xs:=([]:List Int)) (inner:=[]) (ok:=fun _=>True) (okp:=fun _=>True) ?hr ?hp (fun _ hk=>hk) trivial (Below.refl _ _) (Nat.le_refl _) (by simp) ?_;(case hd=>rfl);(case hg=>rfl);(case hr=>exact qz1);(case hp=>exact(jO.none _ _));intro anS w3 ho4 hb hg_ lF;clear hg_ lF;(first|rw[← Mw.out]at ho4|(simp only[Int.reduceToNat]at ho4;rw[← Mw.out]at ho4));have yH:=ah.mk (Kd.dV ho4 (iw (w:=w) (g:=g) (row:=none) (mM HK)));replace HK:=ah.mk (aI.trans (mM HK) (aI.of_below hb g none) (.inl rfl));replace HB:=ah.mk (av (uO HB HI0) hb);replace HI0:=ah.mk (fT.below (sF HI0) hb);clear hb ho4)|((with_reducible refine aH (N:=12) rfl ?_);refine Kd.vR (Kd.int .i64) _ 2 ?hg (N:=12) ?hd (xs:=([a1]:List Int)) (inner:=[.int .i64 a1]) (ok:=fun _=>True) (okp:=fun _=>True) ?hr ?hp (fun _ hk=>hk) trivial (Below.refl _ _) (Nat.le_refl _) (by simp) ?_;(case hd=>rfl);(case hg=>rfl);(case hr=>exact qz1);(case hp=>exact(jO.one (show Kd.M (Kd.int .i64) _ _ _ a1 [.int .i64 a1] from rfl) (jO.none _ _)));intro v138 w5 ho6 hb hg_ lF;clear hg_ lF;(first|rw[← Mx.out]at ho6|(simp only[Int.reduceToNat]at ho6;rw[← Mx.out]at ho6));have aag:=ah.mk (Kd.dV (Kd.iU ho6 (Kd.qo (cK yH))) (iw (w:=w) (g:=g) (row:=none) (mM HK)));replace yH:=ah.mk (Kd.fK (cK yH) (Kd.iJ ho6) hb);replace HK:=ah.mk (aI.trans (mM HK) (aI.of_below hb g none) (.inl rfl));replace HB:=ah.mk (av (uO HB HI0) hb);replace HI0:=ah.mk (fT.below (sF HI0) hb);clear hb ho6));try go_wp2_with (first|((with_reducible refine aH (N:=10) rfl ?_);refine Kd.vR (Kd.int .i64) _ 2 ?hg (N:=10) ?hd (xs:=([]:List Int)) (inner:=[]) (ok:=fun _=>True) (okp:=fun _=>True) ?hr ?hp (fun _ hk=>hk) trivial (Below.refl _ _) (Nat.le_refl _) (by simp) ?_;(case hd=>rfl);(case hg=>rfl);(case hr=>exact qz1);(case hp=>exact(jO.none _ _));intro anS w3 ho4 hb hg_ lF;clear hg_ lF;(first|rw[← Mw.out]at ho4|(simp only[Int.reduceToNat]at ho4;rw[← Mw.out]at ho4));have yH:=ah.mk (Kd.dV ho4 (iw (w:=w) (g:=g) (row:=none) (mM HK)));replace HK:=ah.mk (aI.trans (mM HK) (aI.of_below hb g none) (.inl rfl));replace HB:=ah.mk (av (uO HB HI0) hb);replace HI0:=ah.mk (fT.below (sF HI0) hb);clear hb ho4)|((with_reducible refine aH (N:=12) rfl ?_);refine Kd.vR (Kd.int .i64) _ 2 ?hg (N:=12) ?hd (xs:=([a1]:List Int)) (inner:=[.int .i64 a1]) (ok:=fun _=>True) (okp:=fun _=>True) ?hr ?hp (fun _ hk=>hk) trivial (Below.refl _ _) (Nat.le_refl _) (by simp) ?_;(case hd=>rfl);(case hg=>rfl);(case hr=>exact qz1);(case hp=>exact(jO.one (show Kd.M (Kd.int .i64) _ _ _ a1 [.int .i64 a1] from rfl) (jO.none _ _)));intro v138 w5 ho6 hb hg_ lF;clear hg_ lF;(first|rw[← Mx.out]at ho6|(simp only[Int.reduceToNat]at ho6;rw[← Mx.out]at ho6));have aag:=ah.mk (Kd.dV (Kd.iU ho6 (Kd.qo (cK yH))) (iw (w:=w) (g:=g) (row:=none) (mM HK)));replace yH:=ah.mk (Kd.fK (cK yH) (Kd.iJ ho6) hb);replace HK:=ah.mk (aI.trans (mM HK) (aI.of_below hb g none) (.inl rfl));replace HB:=ah.mk (av (uO HB HI0) hb);replace HI0:=ah.mk (fT.below (sF HI0) hb);clear hb ho6)))
 go_loopg [5,6,7] k (fun kq v5 v6 v7 w'=>∃ (mF:List Int) (gY:List Int) (ku:Int),v7= .int .i64 ku∧ah (aQ.l0 kq a1 mF gY ku dX bH=some r)∧ah (kq≤k)∧ah (Kd.R (Kd.int .i64) 2 w' w.heap.size (fun k_=>some k_≠(v6:Value).ownBlock) v5 mF)∧ah (Kd.R (Kd.int .i64) 2 w' w.heap.size (fun k_=>some k_≠(v5:Value).ownBlock) v6 gY)∧ah (fT w0 w' g dX bH)∧ah (aI w w' g none)∧ah (Below w0.heap.size w0 w'))
 case atStart=>exact⟨(ajo),(anR),(0),iY,H',⟨Nat.le_refl _⟩,⟨WB yH⟩,⟨WB aag⟩,⟨sF HI0⟩,⟨mM HK⟩,⟨uO HB HI0⟩⟩
 case round=>
  clear H'
  try clear p2
  try clear c4
  obtain⟨mF,gY,ku,rfl,HA,HK1,jc,nu,HI0,HK,HB⟩:=hrel
  cases gk with
  |zero=>exact absurd HA.out (by simp[aQ.l0])
  |succ k1=>
   have H:=HA.out
   clear HA
   simp only[aQ.l0]at H
   by_cases c7:ku<(gY.length:Int)
   ·rw[if_pos c7]at H
    have aah:decide (ku<(gY.length:Int))=true:=decide_eq_true c7
    clear c7
    have H':=ah.mk H
    clear H
    obtain⟨Ao8,co8,eo8⟩:=Kd.dW nu.out
    subst eo8
    go_wp2
    repeat(go_quiet (fail);try go_wp2)
    go_loopg [5,6,8] k1 (fun kq v5 v6 v8 w'=>∃ (uQ:List Int) (wW:List Int) (iM:Int),v8= .int .i64 iM∧ah (aQ.l1 kq a1 uQ wW ku iM dX bH=some r)∧ah (kq≤k1)∧ah (Kd.R (Kd.int .i64) 2 w' w.heap.size (fun k_=>some k_≠(v6:Value).ownBlock) v5 uQ)∧ah (Kd.R (Kd.int .i64) 2 w' w.heap.size (fun k_=>some k_≠(v5:Value).ownBlock) v6 wW)∧ah (fT w0 w' g dX bH)∧ah (aI w w' g none)∧ah (Below w0.heap.size w0 w'))
    case atStart=>exact⟨(mF),(gY),(0),iY,H',⟨Nat.le_refl _⟩,⟨cK jc⟩,⟨cK nu⟩,⟨sF HI0⟩,⟨mM HK⟩,⟨uO HB HI0⟩⟩
    case round=>
     clear H'
     try clear p2
     try clear c4
     try clear c7
     try clear aah
     try clear p2
     obtain⟨uQ,wW,iM,rfl,HA,HK2,jc,nu,HI0,HK,HB⟩:=hrel
     cases gk with
     |zero=>exact absurd HA.out (by simp[aQ.l1])
     |succ k2=>
      have H:=HA.out
      clear HA
      simp only[aQ.l1]at H
      by_cases c9:iM<(bH.length:Int)
      ·rw[if_pos c9]at H
       have abZ:decide (iM<(bH.length:Int))=true:=decide_eq_true c9
       clear c9
       by_cases c10:0≤iM
       ·rw[if_pos c10]at H
        have XZ:decide (0≤iM)=true:=decide_eq_true c10
        clear c10
        have ajp:=ah.mk H
        clear H
        obtain⟨IY,IZ,Ja,Jb,vv,Jc,zX,Ew⟩:=HI0.out
        have xw:=eZ vv
        have xA:=fP vv
        clear vv Jc
        have agk:0≤(iM:Int):=of_decide_eq_true gN
        have agl:iM<(bH.length:Int):=of_decide_eq_true gN
        obtain⟨aq6,aq7,JL,JM,JN⟩:=kH Ew iM agk agl
        cases aq7
        replace JL:=aV HB.out JL
        replace JM:=aV HB.out JM
        replace JN:=aV HB.out JN
        replace agk:=eq_true agk
        replace agl:=eq_true agl
        go_upto_region 10 with(first|((with_reducible refine aH (N:=9) rfl ?_);refine qbx (N:=9) (cs:=#[.int .i64 0,.int .i64 0,.int .i64 0]) (t:=40) ?_;intro fJ hg w13 bR hb;replace jc:=ah.mk (Kd.aM (cK jc) hb);replace nu:=ah.mk (Kd.aM (cK nu) hb);replace HB:=ah.mk (av (uO HB HI0) hb);have eY:=ah.mk (bR);have qR:=ah.mk ((yR HK:w.heap.size≤fJ));have wH:=ah.mk ((Nat.le_trans HW0.out (yR HK:w.heap.size≤fJ):w0.heap.size≤fJ));replace HK:=ah.mk (aI.trans (mM HK) (aI.of_below hb g none) (.inl rfl));have jG:=ah.mk ((aae HI0:g≠fJ));have qI:=ah.mk ((aaf HI0:fJ≠g));replace HI0:=ah.mk (fT.below (sF HI0) hb);clear hb bR hg;have XQ:=qI.out;have XR:=jG.out;have DV:w13.cell? ⟨fJ,0,none⟩=some (.int .i64 0):=(aj eY.out 0).trans rfl;have DW:w13.cell? ⟨fJ,1,none⟩=some (.int .i64 0):=(aj eY.out 1).trans rfl;have DX:w13.cell? ⟨fJ,2,none⟩=some (.int .i64 0):=(aj eY.out 2).trans rfl;have DY:=ak eY.out 0;have DZ:=ak eY.out 1;have Ea:=ak eY.out 2))
        repeat(go_quiet (first|((with_reducible refine aH (N:=9) rfl ?_);refine qbx (N:=9) (cs:=#[.int .i64 0,.int .i64 0,.int .i64 0]) (t:=40) ?_;intro fJ hg w13 bR hb;replace jc:=ah.mk (Kd.aM (cK jc) hb);replace nu:=ah.mk (Kd.aM (cK nu) hb);replace HB:=ah.mk (av (uO HB HI0) hb);have eY:=ah.mk (bR);have qR:=ah.mk ((yR HK:w.heap.size≤fJ));have wH:=ah.mk ((Nat.le_trans HW0.out (yR HK:w.heap.size≤fJ):w0.heap.size≤fJ));replace HK:=ah.mk (aI.trans (mM HK) (aI.of_below hb g none) (.inl rfl));have jG:=ah.mk ((aae HI0:g≠fJ));have qI:=ah.mk ((aaf HI0:fJ≠g));replace HI0:=ah.mk (fT.below (sF HI0) hb);clear hb bR hg;have XQ:=qI.out;have XR:=jG.out;have DV:w13.cell? ⟨fJ,0,none⟩=some (.int .i64 0):=(aj eY.out 0).trans rfl;have DW:w13.cell? ⟨fJ,1,none⟩=some (.int .i64 0):=(aj eY.out 1).trans rfl;have DX:w13.cell? ⟨fJ,2,none⟩=some (.int .i64 0):=(aj eY.out 2).trans rfl;have DY:=ak eY.out 0;have DZ:=ak eY.out 1;have Ea:=ak eY.out 2));go_upto_region 10 with(first|((with_reducible refine aH (N:=9) rfl ?_);refine qbx (N:=9) (cs:=#[.int .i64 0,.int .i64 0,.int .i64 0]) (t:=40) ?_;intro fJ hg w13 bR hb;replace jc:=ah.mk (Kd.aM (cK jc) hb);replace nu:=ah.mk (Kd.aM (cK nu) hb);replace HB:=ah.mk (av (uO HB HI0) hb);have eY:=ah.mk (bR);have qR:=ah.mk ((yR HK:w.heap.size≤fJ));have wH:=ah.mk ((Nat.le_trans HW0.out (yR HK:w.heap.size≤fJ):w0.heap.size≤fJ));replace HK:=ah.mk (aI.trans (mM HK) (aI.of_below hb g none) (.inl rfl));have jG:=ah.mk ((aae HI0:g≠fJ));have qI:=ah.mk ((aaf HI0:fJ≠g));replace HI0:=ah.mk (fT.below (sF HI0) hb);clear hb bR hg;have XQ:=qI.out;have XR:=jG.out;have DV:w13.cell? ⟨fJ,0,none⟩=some (.int .i64 0):=(aj eY.out 0).trans rfl;have DW:w13.cell? ⟨fJ,1,none⟩=some (.int .i64 0):=(aj eY.out 1).trans rfl;have DX:w13.cell? ⟨fJ,2,none⟩=some (.int .i64 0):=(aj eY.out 2).trans rfl;have DY:=ak eY.out 0;have DZ:=ak eY.out 1;have Ea:=ak eY.out 2)))
        (try simp only[Act.put,List.setIfInBounds_toArray,List.set_cons_zero,List.set_cons_succ])
        go_cut [46] (fun v46 wc=>∃ (kq:Nat) (Lh:Bool),v46= .bool Lh∧ah (aQ.j2 kq a1 uQ wW ku iM Lh dX bH ((au bH iM).f0) ((au bH iM).f1) ((au bH iM).f2)=some r)∧ah (kq≤k2)∧ah (Kd.R (Kd.int .i64) 2 wc w.heap.size (fun k_=>some k_≠(u6:Value).ownBlock) u5 uQ)∧ah (Kd.R (Kd.int .i64) 2 wc w.heap.size (fun k_=>some k_≠(u5:Value).ownBlock) u6 wW)∧ah (wc.heap[fJ]?=some (.cells #[.int .i64 ((au bH iM).f0),.int .i64 ((au bH iM).f1),.int .i64 ((au bH iM).f2)] 40 (0,0)))∧ah (fT w0 wc g dX bH)∧ah (aI w wc g none)∧ah (Below w0.heap.size w0 wc))
        case first=>
         have H:=ajp.out
         clear ajp
         by_cases c16:0≤ku
         ·rw[if_pos c16]at H
          have Jh:decide (0≤ku)=true:=decide_eq_true c16
          clear c16
          (first|rw[Jh]|(simp only[yD,yE];rw[Jh])|skip)
          by_cases c17:ku<(wW.length:Int)
          ·rw[if_pos c17]at H
           have ZE:decide (ku<(wW.length:Int))=true:=decide_eq_true c17
           clear c17
           by_cases c18:((au bH iM).f0)=(rd wW ku)
           ·rw[if_pos c18]at H
            have Uz:(((au bH iM).f0)==(rd wW ku))=true:=beq_iff_eq.mpr c18
            have aei:(((au bH iM).f0)!=(rd wW ku))=false:=bne_eq_false_iff_eq.mpr c18
            clear c18
            have H':=ah.mk H
            clear H
            have ahU:=qI.out
            have ahV:=jG.out
            have NM:w13.cell? ⟨fJ,0,none⟩=some (.int .i64 0):=(aj eY.out 0).trans rfl
            have NP:w13.cell? ⟨fJ,1,none⟩=some (.int .i64 0):=(aj eY.out 1).trans rfl
            have NQ:w13.cell? ⟨fJ,2,none⟩=some (.int .i64 0):=(aj eY.out 2).trans rfl
            have NR:=ak eY.out 0
            have NS:=ak eY.out 1
            have NT:=ak eY.out 2
            obtain⟨agm,agn,ajq⟩:=Kd.dW nu.out
            subst ajq
            have WC:0≤(ku:Int):=of_decide_eq_true gN
            have WE:ku<(wW.length:Int):=of_decide_eq_true gN
            obtain⟨JO,ajr,mg⟩:=Kd.iC (Kd.dF nu.out).2.2 ku WC WE
            cases ajr
            have rJ:JO.block≠fJ:=Kd.uZ (Kd.wT nu.out eY.out (by decide))
            have rM:JO.block≠fJ:=Kd.uZ (Kd.wT nu.out eY.out (by decide))
            have rO:JO.block≠fJ:=Kd.uZ (Kd.wT nu.out eY.out (by decide))
            replace mg:=(cell_far (p:=⟨fJ,0,none⟩) (by first|(rw[add_block];exact rJ)|(show (Addr.add _ _).block≠ _;rw[add_block];exact rJ)|exact rJ) (.int .i64 ((au bH iM).f0))).trans mg
            replace mg:=(cell_far (p:=⟨fJ,1,none⟩) (by first|(rw[add_block];exact rM)|(show (Addr.add _ _).block≠ _;rw[add_block];exact rM)|exact rM) (.int .i64 ((au bH iM).f1))).trans mg
            replace mg:=(cell_far (p:=⟨fJ,2,none⟩) (by first|(rw[add_block];exact rO)|(show (Addr.add _ _).block≠ _;rw[add_block];exact rO)|exact rO) (.int .i64 ((au bH iM).f2))).trans mg
            (try have aai:=fun(n_:Nat)=>(show (((((w13.drewN n_).setCell ⟨fJ,0,none⟩ (.int .i64 ((au bH iM).f0))).setCell ⟨fJ,1,none⟩ (.int .i64 ((au bH iM).f1))).setCell ⟨fJ,2,none⟩ (.int .i64 ((au bH iM).f2)))).cell? _=some _ from mg))
            clear rJ
            clear rM
            clear rO
            replace WC:=eq_true WC
            replace WE:=eq_true WE
            go_wp2
            repeat(go_quiet (fail);try go_wp2)
            go_meet
            case rel=>exact⟨_,(decide (((au bH iM).f2)>0)),iY,H',⟨by have:=HK1.out;have:=HK2.out;first|omega|exact Nat.le_refl _⟩,⟨by refine qpr ?_;exact Kd.bS (Kd.bX (p:=⟨fJ,2,none⟩) (Kd.bX (p:=⟨fJ,1,none⟩) (Kd.bX (p:=⟨fJ,0,none⟩) (Kd.cO jc.out eY.out (by decide)) (fun _ hk=>hk.2) (.int .i64 ((au bH iM).f0))) (fun _ hk=>hk.2) (.int .i64 ((au bH iM).f1))) (fun _ hk=>hk.2) (.int .i64 ((au bH iM).f2))) (fun _ hk=>hk.1)⟩,⟨by refine qpr ?_;exact Kd.bS (Kd.bX (p:=⟨fJ,2,none⟩) (Kd.bX (p:=⟨fJ,1,none⟩) (Kd.bX (p:=⟨fJ,0,none⟩) (Kd.cO nu.out eY.out (by decide)) (fun _ hk=>hk.2) (.int .i64 ((au bH iM).f0))) (fun _ hk=>hk.2) (.int .i64 ((au bH iM).f1))) (fun _ hk=>hk.2) (.int .i64 ((au bH iM).f2))) (fun _ hk=>hk.1)⟩,⟨anT eY⟩,⟨Io HI0 jG⟩,⟨uP HK qR⟩,⟨Ip HB HI0 wH⟩⟩
           rw[if_neg c18]at H
           have Uz:(((au bH iM).f0)==(rd wW ku))=false:=beq_eq_false_iff_ne.mpr c18
           have aei:(((au bH iM).f0)!=(rd wW ku))=true:=bne_iff_ne.mpr c18
           have H':=ah.mk H
           clear H
           have aaj:=qI.out
           have aak:=jG.out
           have oK:w13.cell? ⟨fJ,0,none⟩=some (.int .i64 0):=(aj eY.out 0).trans rfl
           have oL:w13.cell? ⟨fJ,1,none⟩=some (.int .i64 0):=(aj eY.out 1).trans rfl
           have EO:w13.cell? ⟨fJ,2,none⟩=some (.int .i64 0):=(aj eY.out 2).trans rfl
           have qG:=ak eY.out 0
           have qH:=ak eY.out 1
           have EP:=ak eY.out 2
           obtain⟨au7,au8,aq8⟩:=Kd.dW nu.out
           subst aq8
           have WC:0≤(ku:Int):=of_decide_eq_true gN
           have WE:ku<(wW.length:Int):=of_decide_eq_true gN
           obtain⟨JO,ajr,mg⟩:=Kd.iC (Kd.dF nu.out).2.2 ku WC WE
           cases ajr
           have rJ:JO.block≠fJ:=Kd.uZ (Kd.wT nu.out eY.out (by decide))
           have rM:JO.block≠fJ:=Kd.uZ (Kd.wT nu.out eY.out (by decide))
           have rO:JO.block≠fJ:=Kd.uZ (Kd.wT nu.out eY.out (by decide))
           replace mg:=(cell_far (p:=⟨fJ,0,none⟩) (by first|(rw[add_block];exact rJ)|(show (Addr.add _ _).block≠ _;rw[add_block];exact rJ)|exact rJ) (.int .i64 ((au bH iM).f0))).trans mg
           replace mg:=(cell_far (p:=⟨fJ,1,none⟩) (by first|(rw[add_block];exact rM)|(show (Addr.add _ _).block≠ _;rw[add_block];exact rM)|exact rM) (.int .i64 ((au bH iM).f1))).trans mg
           replace mg:=(cell_far (p:=⟨fJ,2,none⟩) (by first|(rw[add_block];exact rO)|(show (Addr.add _ _).block≠ _;rw[add_block];exact rO)|exact rO) (.int .i64 ((au bH iM).f2))).trans mg
           (try have aai:=fun(n_:Nat)=>(show (((((w13.drewN n_).setCell ⟨fJ,0,none⟩ (.int .i64 ((au bH iM).f0))).setCell ⟨fJ,1,none⟩ (.int .i64 ((au bH iM).f1))).setCell ⟨fJ,2,none⟩ (.int .i64 ((au bH iM).f2)))).cell? _=some _ from mg))
           clear rJ
           clear rM
           clear rO
           replace WC:=eq_true WC
           replace WE:=eq_true WE
           go_wp2
           repeat(go_quiet (fail);try go_wp2)
           go_meet
           case rel=>exact⟨_,(true),iY,H',⟨by have:=HK1.out;have:=HK2.out;first|omega|exact Nat.le_refl _⟩,⟨by refine qpr ?_;exact Kd.bS (Kd.bX (p:=⟨fJ,2,none⟩) (Kd.bX (p:=⟨fJ,1,none⟩) (Kd.bX (p:=⟨fJ,0,none⟩) (Kd.cO jc.out eY.out (by decide)) (fun _ hk=>hk.2) (.int .i64 ((au bH iM).f0))) (fun _ hk=>hk.2) (.int .i64 ((au bH iM).f1))) (fun _ hk=>hk.2) (.int .i64 ((au bH iM).f2))) (fun _ hk=>hk.1)⟩,⟨by refine qpr ?_;exact Kd.bS (Kd.bX (p:=⟨fJ,2,none⟩) (Kd.bX (p:=⟨fJ,1,none⟩) (Kd.bX (p:=⟨fJ,0,none⟩) (Kd.cO nu.out eY.out (by decide)) (fun _ hk=>hk.2) (.int .i64 ((au bH iM).f0))) (fun _ hk=>hk.2) (.int .i64 ((au bH iM).f1))) (fun _ hk=>hk.2) (.int .i64 ((au bH iM).f2))) (fun _ hk=>hk.1)⟩,⟨anT eY⟩,⟨Io HI0 jG⟩,⟨uP HK qR⟩,⟨Ip HB HI0 wH⟩⟩
          rw[if_neg c17]at H
          exact absurd H (by simp)
         rw[if_neg c16]at H
         exact absurd H (by simp)
        case rest=>
         clear ajp
         try clear c1
         try clear p1
         try clear q1
         try clear hx1
         try clear c2
         try clear p2
         try clear c4
         try clear c7
         try clear aah
         try clear c9
         try clear abZ
         try clear c10
         try clear XZ
         try clear c14
         try clear p14
         try clear q14
         try clear au9
         try clear c16
         try clear Jh
         try clear c17
         try clear ZE
         try clear c18
         try clear Uz
         try clear aei
         try clear c19
         try clear c22
         try clear xw
         try clear xA
         try clear DV
         try clear DW
         try clear DX
         try clear NM
         try clear NP
         try clear NQ
         try clear oK
         try clear oL
         try clear EO
         try clear DY
         try clear DZ
         try clear Ea
         try clear NR
         try clear NS
         try clear NT
         try clear qG
         try clear qH
         try clear EP
         try clear JL
         try clear JM
         try clear JN
         try clear mg
         try clear agk
         try clear WC
         try clear p2
         try clear agl
         try clear WE
         obtain⟨kq,Lh,rfl,HA,ab4,jc,nu,eY,HI0,HK,HB⟩:=hcut
         cases kq with
         |zero=>exact absurd HA.out (by simp[aQ.j2])
         |succ ME=>
          have H:=HA.out
          clear HA
          simp only[aQ.j2]at H
          by_cases c25:Lh=true
          ·subst c25
           rw[if_pos rfl]at H
           have H':=ah.mk H
           clear H
           go_wp2
           repeat(go_quiet (fail);try go_wp2)
           go_roundg ME
           case measure=>have:=HK1.out;have:=HK2.out;have:=ab4.out;omega
           case rel=>exact⟨(uQ),(wW),(wrap64 (iM+1)),iY,H',⟨by have:=HK1.out;have:=HK2.out;have:=ab4.out;omega⟩,⟨cK jc⟩,⟨cK nu⟩,⟨Io HI0 jG⟩,⟨uP HK qR⟩,⟨Ip HB HI0 wH⟩⟩
          ·replace c25:=Bool.eq_false_iff.mpr c25
           subst c25
           rw[if_neg (show ¬(false=true) by decide)]at H
           by_cases c26:((au bH iM).f1)=a1
           ·rw[if_pos c26]at H
            have aej:(((au bH iM).f1)==a1)=true:=beq_iff_eq.mpr c26
            have aek:(((au bH iM).f1)!=a1)=false:=bne_eq_false_iff_eq.mpr c26
            clear c26
            obtain rfl:=Option.some.inj H
            have aq9:=qI.out
            have ara:=jG.out
            have JQ:wc.cell? ⟨fJ,0,none⟩=some (.int .i64 ((au bH iM).f0)):=(aj eY.out 0).trans rfl
            have JR:wc.cell? ⟨fJ,1,none⟩=some (.int .i64 ((au bH iM).f1)):=(aj eY.out 1).trans rfl
            have ajs:wc.cell? ⟨fJ,2,none⟩=some (.int .i64 ((au bH iM).f2)):=(aj eY.out 2).trans rfl
            have JU:=ak eY.out 0
            have JV:=ak eY.out 1
            have ajt:=ak eY.out 2
            go_wp2
            repeat(go_quiet (fail);try go_wp2)
            go_ret
            exact⟨qz7,Io HI0 jG,Ip HB HI0 wH,uP HK qR⟩
           rw[if_neg c26]at H
           have aej:(((au bH iM).f1)==a1)=false:=beq_eq_false_iff_ne.mpr c26
           have aek:(((au bH iM).f1)!=a1)=true:=bne_iff_ne.mpr c26
           obtain⟨t143,anU,H⟩:=Option.bind_eq_some_iff.mp H
           have A29:=ah.mk anU
           clear anU
           by_cases c30:t143=true
           ·subst c30
            rw[if_pos rfl]at H
            have H':=ah.mk H
            clear H
            have arb:=qI.out
            have ard:=jG.out
            have aju:wc.cell? ⟨fJ,0,none⟩=some (.int .i64 ((au bH iM).f0)):=(aj eY.out 0).trans rfl
            have ajv:wc.cell? ⟨fJ,1,none⟩=some (.int .i64 ((au bH iM).f1)):=(aj eY.out 1).trans rfl
            have ajw:wc.cell? ⟨fJ,2,none⟩=some (.int .i64 ((au bH iM).f2)):=(aj eY.out 2).trans rfl
            have ajx:=ak eY.out 0
            have ajy:=ak eY.out 1
            have ajz:=ak eY.out 2
            obtain⟨ni,nk,ajA⟩:=Kd.dW jc.out
            subst ajA
            go_wp2_with (first|(go_at_call 61;(with_reducible refine(bY.calls ME _ _ uQ ((au bH iM).f1) true _ ?bT ?bU A29.out).mono ?_);(case bT=>exact qO jc);(case bU=>exact qg jc);rintro e w' ⟨rfl,⟨nd,rfl⟩⟩;(try first|exact⟨rfl,_,World.drewN_drewN _ _ _⟩|exact⟨rfl,_,Eq.trans (World.drewN_drewN _ _ _) (congrArg (World.drewN _) (Nat.add_assoc _ _ _))⟩)))
            repeat(go_quiet (first|(go_at_call 61;(with_reducible refine(bY.calls ME _ _ uQ ((au bH iM).f1) true _ ?bT ?bU A29.out).mono ?_);(case bT=>exact qO jc);(case bU=>exact qg jc);rintro e w' ⟨rfl,⟨nd,rfl⟩⟩;(try first|exact⟨rfl,_,World.drewN_drewN _ _ _⟩|exact⟨rfl,_,Eq.trans (World.drewN_drewN _ _ _) (congrArg (World.drewN _) (Nat.add_assoc _ _ _))⟩)));try go_wp2_with (first|(go_at_call 61;(with_reducible refine(bY.calls ME _ _ uQ ((au bH iM).f1) true _ ?bT ?bU A29.out).mono ?_);(case bT=>exact qO jc);(case bU=>exact qg jc);rintro e w' ⟨rfl,⟨nd,rfl⟩⟩;(try first|exact⟨rfl,_,World.drewN_drewN _ _ _⟩|exact⟨rfl,_,Eq.trans (World.drewN_drewN _ _ _) (congrArg (World.drewN _) (Nat.add_assoc _ _ _))⟩))))
            go_roundg ME
            case measure=>have:=HK1.out;have:=HK2.out;have:=ab4.out;omega
            case rel=>exact⟨(uQ),(wW),(wrap64 (iM+1)),iY,H',⟨by have:=HK1.out;have:=HK2.out;have:=ab4.out;omega⟩,⟨cK jc⟩,⟨cK nu⟩,⟨Io HI0 jG⟩,⟨uP HK qR⟩,⟨Ip HB HI0 wH⟩⟩
           replace c30:=Bool.eq_false_iff.mpr c30
           subst c30
           rw[if_neg (show ¬(false=true) by decide)]at H
           obtain⟨Zk,anV,H⟩:=Option.bind_eq_some_iff.mp H
           have A34:=ah.mk anV
           clear anV
           by_cases c35:wW.length<17592186044416
           ·rw[if_pos c35]at H
            have aal:=ah.mk c35
            clear c35
            obtain⟨anW,PI⟩:∃ y_:List Int,y_=(wW++[((au bH iM).f1)]):=⟨_,rfl⟩
            replace H:(aQ.l1 ME a1 Zk anW ku (wrap64 (iM+1)) dX bH)=some r:=by first|(rw[PI];with_reducible exact H)|(have H2_:=(Option.bind_some _ _).symm.trans H;rw[PI];with_reducible exact H2_)|(have H2_:=(Option.bind_some _ _).symm.trans H;with_reducible exact H2_)|with_reducible exact H|(rw[PI];exact H)|exact H
            have aam:=ah.mk PI
            clear PI
            have H':=ah.mk H
            clear H
            have aja:=qI.out
            have ajb:=jG.out
            have ZP:wc.cell? ⟨fJ,0,none⟩=some (.int .i64 ((au bH iM).f0)):=(aj eY.out 0).trans rfl
            have ZQ:wc.cell? ⟨fJ,1,none⟩=some (.int .i64 ((au bH iM).f1)):=(aj eY.out 1).trans rfl
            have ajB:wc.cell? ⟨fJ,2,none⟩=some (.int .i64 ((au bH iM).f2)):=(aj eY.out 2).trans rfl
            have ZR:=ak eY.out 0
            have ZT:=ak eY.out 1
            have ajC:=ak eY.out 2
            obtain⟨Tk,Tm,ajc⟩:=Kd.dW jc.out
            subst ajc
            go_wp2_with (first|(go_at_call 61;(with_reducible refine(bY.calls ME _ _ uQ ((au bH iM).f1) false _ ?bT ?bU A29.out).mono ?_);(case bT=>exact qO jc);(case bU=>exact qg jc);rintro e w' ⟨rfl,⟨nd,rfl⟩⟩;(try first|exact⟨rfl,_,World.drewN_drewN _ _ _⟩|exact⟨rfl,_,Eq.trans (World.drewN_drewN _ _ _) (congrArg (World.drewN _) (Nat.add_assoc _ _ _))⟩))|(go_at_call 62;(with_reducible refine(bq.calls ME _ _ uQ ((au bH iM).f1) Zk _ ?bT ?bU A34.out).mono ?_);(case bT=>exact qO jc);(case bU=>exact qg jc);rintro e w39 ⟨v145,rfl,ho0,hb⟩;have yI:=ah.mk (Kd.dV (Kd.iU (Kd.iU ho0 (Kd.qo (cK jc))) (Kd.qo (cK nu))) (iw (w:=w) (g:=g) (row:=none) (uP HK qR)));replace jc:=ah.mk (Kd.fK (cK jc) (Kd.iJ ho0) hb);replace nu:=ah.mk (Kd.fK (cK nu) (Kd.iJ ho0) hb);replace eY:=ah.mk (aA (g:=fJ) (o:=.cells #[.int .i64 ((au bH iM).f0),.int .i64 ((au bH iM).f1),.int .i64 ((au bH iM).f2)] 40 (0,0)) (dP eY) hb);replace HK:=ah.mk (aI.trans (uP HK qR) (aI.of_below hb g none) (.inl rfl));replace HB:=ah.mk (av (Ip HB HI0 wH) hb);replace HI0:=ah.mk (fT.below (Io HI0 jG) hb);(try clear hb);(try clear hb2);(try clear hk);(try clear hi);(try clear ho0);have PK:w39.cell? ⟨fJ,0,none⟩=some (.int .i64 ((au bH iM).f0)):=(aj eY.out 0).trans rfl;have PL:w39.cell? ⟨fJ,1,none⟩=some (.int .i64 ((au bH iM).f1)):=(aj eY.out 1).trans rfl;have PN:w39.cell? ⟨fJ,2,none⟩=some (.int .i64 ((au bH iM).f2)):=(aj eY.out 2).trans rfl;have PO:=ak eY.out 0;have PS:=ak eY.out 1;have PU:=ak eY.out 2)|((with_reducible refine gI (b:=.append) (xs:=#[.tmp 60,.tmp 63]) rfl ?_);at_builtin;refine Kd.kY (Kd.int .i64) w.heap.size rfl (.tmp 60) (.tmp 63) 24 2 (.int .i64 0) 8 rfl Tryz.underlying24 sS rfl (by decide) (by omega) u6 wW ((au bH iM).f1) [.int .i64 ((au bH iM).f1)] (fun k_=>some k_≠(.slice Tk uQ.length Tm:Value).ownBlock∧some k_≠(v145:Value).ownBlock) (fun _=>False) rfl rfl ?aP (fun _ hk=>hk.elim) ?aF ?aO (Below.refl _ _) ?aS ?aL ?_;(case aP=>exact rfl);(case aF=>exact(fun k_ hk=>⟨Kd.fresh' (Kd.qo (cK jc)) k_ hk,Kd.fresh' (Kd.qo (cK yI)) k_ hk⟩));(case aO=>exact(cK nu));(case aS=>exact(iw (w:=w) (g:=g) (row:=none) (uP HK qR)));(case aL=>exact qz3 aal);intro v148 w41 ho hb hg hat;rw[← aam.out]at ho;replace jc:=ah.mk (Kd.sH (ok:=(fun k_=>some k_≠(v145:Value).ownBlock)) (by refine qpr ?_;exact Kd.bS jc.out (fun _ hk=>⟨hk.2,hk.1⟩)) hg hat);replace eY:=ah.mk (dQ (g:=fJ) (o:=.cells #[.int .i64 ((au bH iM).f0),.int .i64 ((au bH iM).f1),.int .i64 ((au bH iM).f2)] 40 (0,0)) (dP eY) hg (Kd.wT nu.out eY.out (by decide)));replace yI:=ah.mk (Kd.sH (ok:=(fun k_=>some k_≠(.slice Tk uQ.length Tm:Value).ownBlock)) (agp yI) hg hat);replace HB:=ah.mk (qp (Ip HB HI0 wH) HL.out hb);replace HI0:=ah.mk (fT.grown (Io HI0 jG) hg (fT.own_ne HI0.out nu.out (by decide)));replace HK:=ah.mk (aI.trans (uP HK qR) (aI.qZ hg g) (Kd.DF nu.out));have aan:=ah.mk (ho);clear nu;clear ho hb hg hat))
            repeat(go_quiet (first|(go_at_call 61;(with_reducible refine(bY.calls ME _ _ uQ ((au bH iM).f1) false _ ?bT ?bU A29.out).mono ?_);(case bT=>exact qO jc);(case bU=>exact qg jc);rintro e w' ⟨rfl,⟨nd,rfl⟩⟩;(try first|exact⟨rfl,_,World.drewN_drewN _ _ _⟩|exact⟨rfl,_,Eq.trans (World.drewN_drewN _ _ _) (congrArg (World.drewN _) (Nat.add_assoc _ _ _))⟩))|(go_at_call 62;(with_reducible refine(bq.calls ME _ _ uQ ((au bH iM).f1) Zk _ ?bT ?bU A34.out).mono ?_);(case bT=>exact qO jc);(case bU=>exact qg jc);rintro e w39 ⟨v145,rfl,ho0,hb⟩;have yI:=ah.mk (Kd.dV (Kd.iU (Kd.iU ho0 (Kd.qo (cK jc))) (Kd.qo (cK nu))) (iw (w:=w) (g:=g) (row:=none) (uP HK qR)));replace jc:=ah.mk (Kd.fK (cK jc) (Kd.iJ ho0) hb);replace nu:=ah.mk (Kd.fK (cK nu) (Kd.iJ ho0) hb);replace eY:=ah.mk (aA (g:=fJ) (o:=.cells #[.int .i64 ((au bH iM).f0),.int .i64 ((au bH iM).f1),.int .i64 ((au bH iM).f2)] 40 (0,0)) (dP eY) hb);replace HK:=ah.mk (aI.trans (uP HK qR) (aI.of_below hb g none) (.inl rfl));replace HB:=ah.mk (av (Ip HB HI0 wH) hb);replace HI0:=ah.mk (fT.below (Io HI0 jG) hb);(try clear hb);(try clear hb2);(try clear hk);(try clear hi);(try clear ho0);have PK:w39.cell? ⟨fJ,0,none⟩=some (.int .i64 ((au bH iM).f0)):=(aj eY.out 0).trans rfl;have PL:w39.cell? ⟨fJ,1,none⟩=some (.int .i64 ((au bH iM).f1)):=(aj eY.out 1).trans rfl;have PN:w39.cell? ⟨fJ,2,none⟩=some (.int .i64 ((au bH iM).f2)):=(aj eY.out 2).trans rfl;have PO:=ak eY.out 0;have PS:=ak eY.out 1;have PU:=ak eY.out 2)|((with_reducible refine gI (b:=.append) (xs:=#[.tmp 60,.tmp 63]) rfl ?_);at_builtin;refine Kd.kY (Kd.int .i64) w.heap.size rfl (.tmp 60) (.tmp 63) 24 2 (.int .i64 0) 8 rfl Tryz.underlying24 sS rfl (by decide) (by omega) u6 wW ((au bH iM).f1) [.int .i64 ((au bH iM).f1)] (fun k_=>some k_≠(.slice Tk uQ.length Tm:Value).ownBlock∧some k_≠(v145:Value).ownBlock) (fun _=>False) rfl rfl ?aP (fun _ hk=>hk.elim) ?aF ?aO (Below.refl _ _) ?aS ?aL ?_;(case aP=>exact rfl);(case aF=>exact(fun k_ hk=>⟨Kd.fresh' (Kd.qo (cK jc)) k_ hk,Kd.fresh' (Kd.qo (cK yI)) k_ hk⟩));(case aO=>exact(cK nu));(case aS=>exact(iw (w:=w) (g:=g) (row:=none) (uP HK qR)));(case aL=>exact qz3 aal);intro v148 w41 ho hb hg hat;rw[← aam.out]at ho;replace jc:=ah.mk (Kd.sH (ok:=(fun k_=>some k_≠(v145:Value).ownBlock)) (by refine qpr ?_;exact Kd.bS jc.out (fun _ hk=>⟨hk.2,hk.1⟩)) hg hat);replace eY:=ah.mk (dQ (g:=fJ) (o:=.cells #[.int .i64 ((au bH iM).f0),.int .i64 ((au bH iM).f1),.int .i64 ((au bH iM).f2)] 40 (0,0)) (dP eY) hg (Kd.wT nu.out eY.out (by decide)));replace yI:=ah.mk (Kd.sH (ok:=(fun k_=>some k_≠(.slice Tk uQ.length Tm:Value).ownBlock)) (agp yI) hg hat);replace HB:=ah.mk (qp (Ip HB HI0 wH) HL.out hb);replace HI0:=ah.mk (fT.grown (Io HI0 jG) hg (fT.own_ne HI0.out nu.out (by decide)));replace HK:=ah.mk (aI.trans (uP HK qR) (aI.qZ hg g) (Kd.DF nu.out));have aan:=ah.mk (ho);clear nu;clear ho hb hg hat));try go_wp2_with (first|(go_at_call 61;(with_reducible refine(bY.calls ME _ _ uQ ((au bH iM).f1) false _ ?bT ?bU A29.out).mono ?_);(case bT=>exact qO jc);(case bU=>exact qg jc);rintro e w' ⟨rfl,⟨nd,rfl⟩⟩;(try first|exact⟨rfl,_,World.drewN_drewN _ _ _⟩|exact⟨rfl,_,Eq.trans (World.drewN_drewN _ _ _) (congrArg (World.drewN _) (Nat.add_assoc _ _ _))⟩))|(go_at_call 62;(with_reducible refine(bq.calls ME _ _ uQ ((au bH iM).f1) Zk _ ?bT ?bU A34.out).mono ?_);(case bT=>exact qO jc);(case bU=>exact qg jc);rintro e w39 ⟨v145,rfl,ho0,hb⟩;have yI:=ah.mk (Kd.dV (Kd.iU (Kd.iU ho0 (Kd.qo (cK jc))) (Kd.qo (cK nu))) (iw (w:=w) (g:=g) (row:=none) (uP HK qR)));replace jc:=ah.mk (Kd.fK (cK jc) (Kd.iJ ho0) hb);replace nu:=ah.mk (Kd.fK (cK nu) (Kd.iJ ho0) hb);replace eY:=ah.mk (aA (g:=fJ) (o:=.cells #[.int .i64 ((au bH iM).f0),.int .i64 ((au bH iM).f1),.int .i64 ((au bH iM).f2)] 40 (0,0)) (dP eY) hb);replace HK:=ah.mk (aI.trans (uP HK qR) (aI.of_below hb g none) (.inl rfl));replace HB:=ah.mk (av (Ip HB HI0 wH) hb);replace HI0:=ah.mk (fT.below (Io HI0 jG) hb);(try clear hb);(try clear hb2);(try clear hk);(try clear hi);(try clear ho0);have PK:w39.cell? ⟨fJ,0,none⟩=some (.int .i64 ((au bH iM).f0)):=(aj eY.out 0).trans rfl;have PL:w39.cell? ⟨fJ,1,none⟩=some (.int .i64 ((au bH iM).f1)):=(aj eY.out 1).trans rfl;have PN:w39.cell? ⟨fJ,2,none⟩=some (.int .i64 ((au bH iM).f2)):=(aj eY.out 2).trans rfl;have PO:=ak eY.out 0;have PS:=ak eY.out 1;have PU:=ak eY.out 2)|((with_reducible refine gI (b:=.append) (xs:=#[.tmp 60,.tmp 63]) rfl ?_);at_builtin;refine Kd.kY (Kd.int .i64) w.heap.size rfl (.tmp 60) (.tmp 63) 24 2 (.int .i64 0) 8 rfl Tryz.underlying24 sS rfl (by decide) (by omega) u6 wW ((au bH iM).f1) [.int .i64 ((au bH iM).f1)] (fun k_=>some k_≠(.slice Tk uQ.length Tm:Value).ownBlock∧some k_≠(v145:Value).ownBlock) (fun _=>False) rfl rfl ?aP (fun _ hk=>hk.elim) ?aF ?aO (Below.refl _ _) ?aS ?aL ?_;(case aP=>exact rfl);(case aF=>exact(fun k_ hk=>⟨Kd.fresh' (Kd.qo (cK jc)) k_ hk,Kd.fresh' (Kd.qo (cK yI)) k_ hk⟩));(case aO=>exact(cK nu));(case aS=>exact(iw (w:=w) (g:=g) (row:=none) (uP HK qR)));(case aL=>exact qz3 aal);intro v148 w41 ho hb hg hat;rw[← aam.out]at ho;replace jc:=ah.mk (Kd.sH (ok:=(fun k_=>some k_≠(v145:Value).ownBlock)) (by refine qpr ?_;exact Kd.bS jc.out (fun _ hk=>⟨hk.2,hk.1⟩)) hg hat);replace eY:=ah.mk (dQ (g:=fJ) (o:=.cells #[.int .i64 ((au bH iM).f0),.int .i64 ((au bH iM).f1),.int .i64 ((au bH iM).f2)] 40 (0,0)) (dP eY) hg (Kd.wT nu.out eY.out (by decide)));replace yI:=ah.mk (Kd.sH (ok:=(fun k_=>some k_≠(.slice Tk uQ.length Tm:Value).ownBlock)) (agp yI) hg hat);replace HB:=ah.mk (qp (Ip HB HI0 wH) HL.out hb);replace HI0:=ah.mk (fT.grown (Io HI0 jG) hg (fT.own_ne HI0.out nu.out (by decide)));replace HK:=ah.mk (aI.trans (uP HK qR) (aI.qZ hg g) (Kd.DF nu.out));have aan:=ah.mk (ho);clear nu;clear ho hb hg hat)))
            go_roundg ME
            case measure=>have:=HK1.out;have:=HK2.out;have:=ab4.out;omega
            case rel=>exact⟨(Zk),(anW),(wrap64 (iM+1)),iY,H',⟨by have:=HK1.out;have:=HK2.out;have:=ab4.out;omega⟩,⟨WB yI⟩,⟨WB aan⟩,⟨Io HI0 jG⟩,⟨uP HK qR⟩,⟨Ip HB HI0 wH⟩⟩
           rw[if_neg c35]at H
           exact absurd H (by simp)
       rw[if_neg c10]at H
       exact absurd H (by simp)
      ·rw[if_neg c9]at H
       have abZ:decide (iM<(bH.length:Int))=false:=decide_eq_false c9
       clear c9
       have H':=ah.mk H
       clear H
       obtain⟨ajD,ajE,ajF,ajG,aao,ajH,ajI,ajJ⟩:=HI0.out
       have ER:=eZ aao
       have ES:=fP aao
       clear aao ajH
       go_wp2
       repeat(go_quiet (fail);try go_wp2)
       go_roundg k2
       case measure=>have:=HK1.out;have:=HK2.out;omega
       case rel=>exact⟨(uQ),(wW),(wrap64 (ku+1)),iY,H',⟨Ug HK1 HK2⟩,⟨cK jc⟩,⟨cK nu⟩,⟨sF HI0⟩,⟨mM HK⟩,⟨uO HB HI0⟩⟩
   ·rw[if_neg c7]at H
    have aah:decide (ku<(gY.length:Int))=false:=decide_eq_false c7
    clear c7
    obtain rfl:=Option.some.inj H
    obtain⟨ava,avb,arf⟩:=Kd.dW nu.out
    subst arf
    go_wp2
    repeat(go_quiet (fail);try go_wp2)
    go_ret
    exact⟨qz7,sF HI0,uO HB HI0,mM HK⟩
end Go.Proofs.YtalkmhnlgfncmaaGreatDoor.X
end
section
/- The contract of a printed function over a looser state. Conditions: as printed. -/
namespace Go.Proofs.YtalkmhnlgfncmaaGreatDoor.X
open Go.RowKit Go.Proofs.YtalkmhnlgfncmaaGreatDoorW.aC Go.Proofs.YtalkmhnlgfncmaaGreatDoorW.aN Go.Proofs.YtalkmhnlgfncmaaGreatDoorW.aT
set_option maxHeartbeats 8000000 in
set_option maxRecDepth 100000 in
theorem bN.EN (k:Nat) (g:Nat) (dX:List Int) (bH:List (S40)) (r:Bool) (w0 w:World) (hI:fT w0 w g dX bH) (hB:Below w0.heap.size w0 w) (h:bN.f k dX bH=some r):
  Calls Tryz.prog 21 #[.pointer (some ⟨g,0,none⟩)] w fun e w'=>e= .returned (.bool r)∧fT w0 w' g dX bH∧Below w0.heap.size w0 w'∧aI w w' g none:=by
 have HI0:=ah.mk hI
 have HK:=ah.mk (aI.refl w g none)
 have HL:=ah.mk hB.size
 clear hI
 have HW0:=ah.mk hB.size
 have HB:=ah.mk hB
 clear hB
 have H:((aD.f k dX bH).bind fun aeh=>(if aeh=true then(bN.l0 k 0 dX bH)else(some false)))=some r:=h
 clear h
 obtain⟨aeh,A20,H⟩:=Option.bind_eq_some_iff.mp H
 have A2:=ah.mk A20
 clear A20
 by_cases c3:aeh=true
 ·subst c3
  rw[if_pos rfl]at H
  have H':=ah.mk H
  clear H
  go_enter Tryz.func21,Tryz.ntmps21
  go_wp2_with (first|((with_reducible refine aK (f:=39) rfl ?_);refine dH (some 5) rfl rfl Tryz.func39 qz9 rfl #[.pointer (some ⟨g,0,none⟩)] rfl jh ?_;(with_reducible refine(aD.EN k g dX bH true w0 _ ?bT ?bU A2.out).mono ?_);(case bT=>exact sF HI0);(case bU=>exact uO HB HI0);rintro e w4 ⟨rfl,hi,hb,hk⟩;refine⟨_,rfl,?_⟩;replace HK:=ah.mk (aI.trans (mM HK) hk (.inl rfl));replace HB:=ah.mk (hb);replace HI0:=ah.mk (hi);(try clear hb);(try clear hb2);(try clear hk);(try clear hi)))
  go_loopg [3] k (fun kq v3 w'=>∃ (FQ:Int),v3= .int .i64 FQ∧ah (bN.l0 kq FQ dX bH=some r)∧ah (kq≤k)∧ah (fT w0 w' g dX bH)∧ah (aI w w' g none)∧ah (Below w0.heap.size w0 w'))
  case atStart=>exact⟨(0),iY,H',⟨Nat.le_refl _⟩,⟨sF HI0⟩,⟨mM HK⟩,⟨uO HB HI0⟩⟩
  case round=>
   clear H'
   try clear c2
   try clear p2
   try clear c3
   obtain⟨FQ,rfl,HA,HK1,HI0,HK,HB⟩:=hrel
   cases gk with
   |zero=>exact absurd HA.out (by simp[bN.l0])
   |succ k1=>
    have H:=HA.out
    clear HA
    simp only[bN.l0]at H
    by_cases c5:FQ<(dX.length:Int)
    ·rw[if_pos c5]at H
     have Cx:decide (FQ<(dX.length:Int))=true:=decide_eq_true c5
     clear c5
     obtain⟨ajl,A60,H⟩:=Option.bind_eq_some_iff.mp H
     have A6:=ah.mk A60
     clear A60
     by_cases c7:ajl=true
     ·subst c7
      rw[if_pos rfl]at H
      obtain rfl:=Option.some.inj H
      obtain⟨anX,anY,anZ,an0,ajK,arh,an1,an2⟩:=HI0.out
      have Df:=eZ ajK
      have Dg:=fP ajK
      clear ajK arh
      go_wp2_with (first|((with_reducible refine aK (f:=40) rfl ?_);refine dH (some 18) rfl rfl Tryz.func40 qz9 rfl #[.pointer (some ⟨g,0,none⟩),.int .i64 FQ] rfl jh ?_;(with_reducible refine(aQ.EN k1 g dX bH FQ true w0 _ ?bT ?bU A6.out).mono ?_);(case bT=>exact sF HI0);(case bU=>exact uO HB HI0);rintro e w9 ⟨rfl,hi,hb,hk⟩;refine⟨_,rfl,?_⟩;replace HK:=ah.mk (aI.trans (mM HK) hk (.inl rfl));replace HB:=ah.mk (hb);replace HI0:=ah.mk (hi);(try clear hb);(try clear hb2);(try clear hk);(try clear hi)))
      go_ret
      exact⟨qz7,sF HI0,uO HB HI0,mM HK⟩
     replace c7:=Bool.eq_false_iff.mpr c7
     subst c7
     rw[if_neg (show ¬(false=true) by decide)]at H
     have H':=ah.mk H
     clear H
     obtain⟨ajL,ajM,ajN,ajO,aap,ajP,ajQ,ajR⟩:=HI0.out
     have IB:=eZ aap
     have IC:=fP aap
     clear aap ajP
     go_wp2_with (first|((with_reducible refine aK (f:=40) rfl ?_);refine dH (some 18) rfl rfl Tryz.func40 qz9 rfl #[.pointer (some ⟨g,0,none⟩),.int .i64 FQ] rfl jh ?_;(with_reducible refine(aQ.EN k1 g dX bH FQ false w0 _ ?bT ?bU A6.out).mono ?_);(case bT=>exact sF HI0);(case bU=>exact uO HB HI0);rintro e w11 ⟨rfl,hi,hb,hk⟩;refine⟨_,rfl,?_⟩;replace HK:=ah.mk (aI.trans (mM HK) hk (.inl rfl));replace HB:=ah.mk (hb);replace HI0:=ah.mk (hi);(try clear hb);(try clear hb2);(try clear hk);(try clear hi)))
     go_roundg k1
     case measure=>have:=HK1.out;omega
     case rel=>exact⟨(wrap64 (FQ+1)),iY,H',⟨qz3 HK1⟩,⟨sF HI0⟩,⟨mM HK⟩,⟨uO HB HI0⟩⟩
    ·rw[if_neg c5]at H
     have Cx:decide (FQ<(dX.length:Int))=false:=decide_eq_false c5
     clear c5
     obtain rfl:=Option.some.inj H
     obtain⟨IY,IZ,Ja,Jb,vv,Jc,zX,Ew⟩:=HI0.out
     have xw:=eZ vv
     have xA:=fP vv
     clear vv Jc
     go_wp2
     go_ret
     exact⟨qz7,sF HI0,uO HB HI0,mM HK⟩
 ·replace c3:=Bool.eq_false_iff.mpr c3
  subst c3
  rw[if_neg (show ¬(false=true) by decide)]at H
  obtain rfl:=Option.some.inj H
  go_enter Tryz.func21,Tryz.ntmps21
  go_wp2_with (first|((with_reducible refine aK (f:=39) rfl ?_);refine dH (some 5) rfl rfl Tryz.func39 qz9 rfl #[.pointer (some ⟨g,0,none⟩)] rfl jh ?_;(with_reducible refine(aD.EN k g dX bH false w0 _ ?bT ?bU A2.out).mono ?_);(case bT=>exact sF HI0);(case bU=>exact uO HB HI0);rintro e w13 ⟨rfl,hi,hb,hk⟩;refine⟨_,rfl,?_⟩;replace HK:=ah.mk (aI.trans (mM HK) hk (.inl rfl));replace HB:=ah.mk (hb);replace HI0:=ah.mk (hi);(try clear hb);(try clear hb2);(try clear hk);(try clear hi)))
  go_ret
  exact⟨qz7,sF HI0,uO HB HI0,mM HK⟩
theorem bN.calls (k:Nat) (g:Nat) (dX:List Int) (bH:List (S40)) (r:Bool) (w0 w:World) (hI:dK w0 w g dX bH) (hB:Below w0.heap.size w0 w) (h:bN.f k dX bH=some r):
  Calls Tryz.prog 21 #[.pointer (some ⟨g,0,none⟩)] w fun e w'=>e= .returned (.bool r)∧dK w0 w' g dX bH∧Below w0.heap.size w0 w'∧aI w w' g none:=by
 obtain⟨A0,c0,A1,c1,hg,hge,q0,q1⟩:=hI
 refine(bN.EN k g dX bH r w w ⟨A0,c0,A1,c1,hg,trivial,Kd.gX q0 hB,Kd.gX q1 hB⟩ (Below.refl _ _) h).mono ?_
 rintro e w' ⟨he,_,hb,hk⟩
 exact⟨he,⟨A0,c0,A1,c1,aA hg hb,hge,q0,q1⟩,av hB hb,hk⟩
end Go.Proofs.YtalkmhnlgfncmaaGreatDoor.X
end
section
namespace Go.Proofs.YtalkmhnlgfncmaaGreatDoor.X
open Go.RowKit Go.Proofs.YtalkmhnlgfncmaaGreatDoorW.aC Go.Proofs.YtalkmhnlgfncmaaGreatDoorW.aN Go.Proofs.YtalkmhnlgfncmaaGreatDoorW.aT
attribute [local go_sem] fq fu gJ gK dN dO fA fB
/-! ### spec_l00Own: function 63 -/
def jQ.f (l0:List Int):Option (List Int):=(some (([]:List Int):List Int)).bind fun PV=>(if PV.length+l0.length<17592186044416 then(some (PV++l0))else(none))
set_option maxHeartbeats 8000000 in
set_option maxRecDepth 100000 in
theorem jQ.calls (A0:Option Addr) (c0:Nat) (l0:List Int) (r:List Int) (w:World) (hr0:Kd.C (Kd.int .i64) w A0 l0.length l0) (hc0:True) (h:jQ.f l0=some r):
  Calls Tryz.prog 63 #[.slice A0 l0.length c0] w fun e w'=>∃ v0_:Value,e= .returned (v0_)∧Kd.R (Kd.int .i64) 2 w' w.heap.size (fun _=>True) v0_ r∧Below w.heap.size w w':=by
 have HR0:=ah.mk hr0
 have HC0:=ah.mk hc0
 clear hr0 hc0
 have HB:=ah.mk (Below.refl w.heap.size w)
 have H:((some (([]:List Int):List Int)).bind fun PV=>(if PV.length+l0.length<17592186044416 then(some (PV++l0))else(none)))=some r:=h
 clear h
 obtain⟨PV,PW⟩:∃ y_:List Int,y_=(([]:List Int)):=⟨_,rfl⟩
 replace H:(if PV.length+l0.length<17592186044416 then(some (PV++l0))else(none))=some r:=by first|(rw[PW];with_reducible exact H)|(have H2_:=(Option.bind_some _ _).symm.trans H;rw[PW];with_reducible exact H2_)|(have H2_:=(Option.bind_some _ _).symm.trans H;with_reducible exact H2_)|with_reducible exact H|(rw[PW];exact H)|exact H
 have ael:=ah.mk PW
 clear PW
 by_cases c2:PV.length+l0.length<17592186044416
 ·rw[if_pos c2]at H
  have ahL:=ah.mk c2
  clear c2
  obtain⟨ari,PX⟩:∃ y_:List Int,y_=(PV++l0):=⟨_,rfl⟩
  replace H:(some ari)=some r:=by first|(rw[PX];with_reducible exact H)|(have H2_:=(Option.bind_some _ _).symm.trans H;rw[PX];with_reducible exact H2_)|(have H2_:=(Option.bind_some _ _).symm.trans H;with_reducible exact H2_)|with_reducible exact H|(rw[PX];exact H)|exact H
  have ajS:=ah.mk PX
  clear PX
  obtain rfl:=Option.some.inj H
  go_enter Tryz.func63,Tryz.ntmps63
  go_wp2_with (first|((with_reducible refine aH (N:=3) rfl ?_);refine Kd.vR (Kd.int .i64) _ 2 ?hg (N:=3) ?hd (xs:=([]:List Int)) (inner:=[]) (ok:=fun _=>True) (okp:=fun _=>True) ?hr ?hp (fun _ hk=>hk) trivial (Below.refl _ _) (Nat.le_refl _) (by simp) ?_;(case hd=>rfl);(case hg=>rfl);(case hr=>exact qz1);(case hp=>exact(jO.none _ _));intro arj w3 ho4 hb hg_ lF;clear hg_ lF;(first|rw[← ael.out]at ho4|(simp only[Int.reduceToNat]at ho4;rw[← ael.out]at ho4));have aem:=ah.mk (Kd.dV ho4 (aG (qz0 HB)));replace HB:=ah.mk (av (qz0 HB) hb);clear hb ho4)|((with_reducible refine gI (b:=.append) (xs:=#[.tmp 3,.tmp 4]) rfl ?_);at_builtin;refine Kd.vS (Kd.int .i64) (w0:=w) w.heap.size rfl (.tmp 3) (.tmp 4) 24 2 (.int .i64 0) 8 rfl Tryz.underlying24 sS rfl (by decide) (by omega) arj PV l0 _ _ _ (fun _=>True) (fun _=>False) rfl rfl ?aO ?aR (fun _ _ h=>h) (fun _ h=>h.elim) ?aF ?aB ?aS ?aL ?_;(case aR=>exact qz2 HR0 HB);(case aB=>exact(qz0 HB));(case aF=>exact(fun _ _=>trivial));(case aO=>exact(cK aem));(case aS=>exact(aG (qz0 HB)));(case aL=>exact qz3 ahL);intro avc w5 ho hb hg hat;rw[← ajS.out]at ho;replace HB:=ah.mk (hb);have ajT:=ah.mk (ho);clear aem;clear ho hb hg hat))
  go_ret
  exact⟨_,qz7,cK ajT,qz0 HB⟩
 ·rw[if_neg c2]at H
  exact absurd H (by simp)
end Go.Proofs.YtalkmhnlgfncmaaGreatDoor.X
end
