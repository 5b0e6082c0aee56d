/- My own texts of this seat and its words, merged: Xp61, Xp62, CSets, Xp22, Xp39, Xp40, COpen, CFewI, XRaise. Conditions: as each lemma says. -/
import Derived.Test.YtalkmhnlgfncmaaGreatDoorI21
import Derived.RegionTactic
import Derived.BigRegion
import Derived.Deep.RegionLaw
import Derived.StillTailTactics
import Derived.Test.YtalkmhnlgfncmaaGreatDoorXSlim
set_option linter.unusedVariables false
set_option linter.unusedSimpArgs false
section
namespace Go.Proofs.YtalkmhnlgfncmaaGreatDoor.X
open Go.RowKit Go.Proofs.YtalkmhnlgfncmaaGreatDoorW.aC Go.Proofs.YtalkmhnlgfncmaaGreatDoorW.aN Go.Proofs.YtalkmhnlgfncmaaGreatDoorW.aT
attribute [local go_sem] fq fu gJ gK dN dO fA fB
/-! ### spec_l00Has: function 61 -/
def bY.l0:Nat→List Int→Int→Int→Option (Bool)
 |0,_,_,_=>none
 |k+1,x0,x1,x5=>if x5<(x0.length:Int)then(if 0≤x5 then(if (rd x0 x5)=x1 then(some true)else(bY.l0 k x0 x1 (wrap64 (x5+1))))else(none))else(some false)
def bY.f (k:Nat) (l0:List Int) (a1:Int):Option (Bool):=bY.l0 k l0 a1 0
theorem bY.mY:∀ k,(∀ y0 y1 y2,LeO (bY.l0 k y0 y1 y2) (bY.l0 (k+1) y0 y1 y2))
 |0=>fun _ _ _ r h=>by simp[bY.l0]at h
 |k+1=>by
  have ih0:=bY.mY k
  ·intro y0 y1 y2
   unfold bY.l0
   repeat' first
   |(with_reducible exact ih0 _ _ _)
   |(with_reducible exact LeO.refl _)
   |(with_reducible exact LeO.none _)
   |(with_reducible refine LeO.ite ?_ ?_)
   |(with_reducible refine LeO.bind ?_ (fun _=>?_))
   |exact ih0 _ _ _
   |exact LeO.none _
   |refine LeO.ite ?_ ?_
   |refine LeO.bind ?_ (fun _=>?_)
theorem bY.mono:∀ a0 a1 k,LeO (bY.f k a0 a1) (bY.f (k+1) a0 a1):=by
 intro a0 a1 k
 have ih0:=bY.mY k
 unfold bY.f
 repeat' first
  |(with_reducible exact ih0 _ _ _)
  |(with_reducible exact LeO.refl _)
  |(with_reducible exact LeO.none _)
  |(with_reducible refine LeO.ite ?_ ?_)
  |(with_reducible refine LeO.bind ?_ (fun _=>?_))
  |exact ih0 _ _ _
  |exact LeO.none _
  |refine LeO.ite ?_ ?_
  |refine LeO.bind ?_ (fun _=>?_)
set_option maxHeartbeats 8000000 in
set_option maxRecDepth 100000 in
theorem bY.calls (k:Nat) (A0:Option Addr) (c0:Nat) (l0:List Int) (a1:Int) (r:Bool) (w:World) (hr0:Kd.C (Kd.int .i64) w A0 l0.length l0) (hc0:l0.length≤c0) (h:bY.f k l0 a1=some r):
  Calls Tryz.prog 61 #[.slice A0 l0.length c0,.int .i64 a1] w fun e w'=>e= .returned (.bool r)∧gQ w w':=by
 have HR0:=ah.mk hr0
 have HC0:=ah.mk hc0
 clear hr0 hc0
 have H:(bY.l0 k l0 a1 0)=some r:=h
 clear h
 have H':=ah.mk H
 clear H
 go_enter Tryz.func61,Tryz.ntmps61
 go_wp2
 go_loopg [5] k (fun kq v5 w'=>∃ (mF:Int),v5= .int .i64 mF∧ah (bY.l0 kq l0 a1 mF=some r)∧ah (kq≤k)∧gQ w w')
 case atStart=>exact⟨(0),iY,H',⟨Nat.le_refl _⟩,vM⟩
 case round=>
  clear H'
  try clear p2
  obtain⟨mF,rfl,HA,HK1,⟨m1,rfl⟩⟩:=hrel
  cases gk with
  |zero=>exact absurd HA.out (by simp[bY.l0])
  |succ k1=>
   have H:=HA.out
   clear HA
   simp only[bY.l0]at H
   by_cases c3:mF<(l0.length:Int)
   ·rw[if_pos c3]at H
    have Cy:decide (mF<(l0.length:Int))=true:=decide_eq_true c3
    clear c3
    by_cases c4:0≤mF
    ·rw[if_pos c4]at H
     have Il:decide (0≤mF)=true:=decide_eq_true c4
     clear c4
     by_cases c5:(rd l0 mF)=a1
     ·rw[if_pos c5]at H
      have Cx:((rd l0 mF)==a1)=true:=beq_iff_eq.mpr c5
      have ah6:((rd l0 mF)!=a1)=false:=bne_eq_false_iff_eq.mpr c5
      clear c5
      obtain rfl:=Option.some.inj H
      have XV:0≤(mF:Int):=of_decide_eq_true gN
      have XW:mF<(l0.length:Int):=of_decide_eq_true gN
      obtain⟨ah7,ah8,XY⟩:=Kd.iC HR0.out mF XV XW
      cases ah8
      replace XV:=eq_true XV
      replace XW:=eq_true XW
      go_wp2
      go_ret
      exact⟨iY,vM⟩
     rw[if_neg c5]at H
     have Cx:((rd l0 mF)==a1)=false:=beq_eq_false_iff_ne.mpr c5
     have ah6:((rd l0 mF)!=a1)=true:=bne_iff_ne.mpr c5
     have H':=ah.mk H
     clear H
     have XV:0≤(mF:Int):=of_decide_eq_true gN
     have XW:mF<(l0.length:Int):=of_decide_eq_true gN
     obtain⟨ah7,ah8,XY⟩:=Kd.iC HR0.out mF XV XW
     cases ah8
     replace XV:=eq_true XV
     replace XW:=eq_true XW
     go_wp2
     go_roundg k1
     case measure=>have:=HK1.out;omega
     case rel=>exact⟨(wrap64 (mF+1)),iY,H',⟨qz3 HK1⟩,vM⟩
    rw[if_neg c4]at H
    exact absurd H (by simp)
   ·rw[if_neg c3]at H
    have Cy:decide (mF<(l0.length:Int))=false:=decide_eq_false c3
    clear c3
    obtain rfl:=Option.some.inj H
    go_wp2
    go_ret
    exact⟨iY,vM⟩
end Go.Proofs.YtalkmhnlgfncmaaGreatDoor.X
end
section
namespace Go.Proofs.YtalkmhnlgfncmaaGreatDoor.X
open Go.RowKit Go.Proofs.YtalkmhnlgfncmaaGreatDoorW.aC Go.Proofs.YtalkmhnlgfncmaaGreatDoorW.aN Go.Proofs.YtalkmhnlgfncmaaGreatDoorW.aT
attribute [local go_sem] fq fu gJ gK dN dO fA fB
/-! ### spec_l00Put: function 62 -/
mutual
def bq.l0:Nat→List Int→Int→List Int→Bool→Int→Option (List Int)
 |0,_,_,_,_,_=>none
 |k+1,x0,x1,x5,x6,x7=>if x7<(x0.length:Int)then(if x6=true then(bq.j1 k x0 x1 x5 x6 x7 false)else(if 0≤x7 then(bq.j1 k x0 x1 x5 x6 x7 (decide ((rd x0 x7)≥x1)))else(none)))else(if x6=true then(some x5)else(if x5.length<17592186044416 then(some (x5++[x1]))else(none)))
def bq.j1:Nat→List Int→Int→List Int→Bool→Int→Bool→Option (List Int)
 |0,_,_,_,_,_,_=>none
 |k+1,x0,x1,x5,x6,x7,x24=>if x24=true then(if 0≤x7 then(if x7<(x0.length:Int)then(if (rd x0 x7)>x1 then(if x5.length<17592186044416 then((some (x5++[x1]:List Int)).bind fun Wd=>(if Wd.length<17592186044416 then(bq.l0 k x0 x1 (Wd++[rd x0 x7]) true (wrap64 (x7+1)))else(none)))else(none))else(if x5.length<17592186044416 then(bq.l0 k x0 x1 (x5++[rd x0 x7]) true (wrap64 (x7+1)))else(none)))else(none))else(none))else(if 0≤x7 then(if x7<(x0.length:Int)then(if x5.length<17592186044416 then(bq.l0 k x0 x1 (x5++[rd x0 x7]) x6 (wrap64 (x7+1)))else(none))else(none))else(none))
end
def bq.f (k:Nat) (l0:List Int) (a1:Int):Option (List Int):=bq.l0 k l0 a1 (([]:List Int)) false 0
theorem bq.mY:∀ k,(∀ y0 y1 y2 y3 y4,LeO (bq.l0 k y0 y1 y2 y3 y4) (bq.l0 (k+1) y0 y1 y2 y3 y4))∧(∀ y0 y1 y2 y3 y4 y5,LeO (bq.j1 k y0 y1 y2 y3 y4 y5) (bq.j1 (k+1) y0 y1 y2 y3 y4 y5))
 |0=>⟨fun _ _ _ _ _ r h=>by simp[bq.l0]at h,fun _ _ _ _ _ _ r h=>by simp[bq.j1]at h⟩
 |k+1=>by
  obtain⟨ih0,ih1⟩:=bq.mY k
  refine⟨?_,?_⟩
  ·intro y0 y1 y2 y3 y4
   unfold bq.l0
   repeat' first
   |(with_reducible exact ih0 _ _ _ _ _)
   |(with_reducible exact ih1 _ _ _ _ _ _)
   |(with_reducible exact LeO.refl _)
   |(with_reducible exact LeO.none _)
   |(with_reducible refine LeO.ite ?_ ?_)
   |(with_reducible refine LeO.bind ?_ (fun _=>?_))
   |exact ih0 _ _ _ _ _
   |exact ih1 _ _ _ _ _ _
   |exact LeO.none _
   |refine LeO.ite ?_ ?_
   |refine LeO.bind ?_ (fun _=>?_)
  ·intro y0 y1 y2 y3 y4 y5
   unfold bq.j1
   repeat' first
   |(with_reducible exact ih0 _ _ _ _ _)
   |(with_reducible exact ih1 _ _ _ _ _ _)
   |(with_reducible exact LeO.refl _)
   |(with_reducible exact LeO.none _)
   |(with_reducible refine LeO.ite ?_ ?_)
   |(with_reducible refine LeO.bind ?_ (fun _=>?_))
   |exact ih0 _ _ _ _ _
   |exact ih1 _ _ _ _ _ _
   |exact LeO.none _
   |refine LeO.ite ?_ ?_
   |refine LeO.bind ?_ (fun _=>?_)
theorem bq.mono:∀ a0 a1 k,LeO (bq.f k a0 a1) (bq.f (k+1) a0 a1):=by
 intro a0 a1 k
 obtain⟨ih0,ih1⟩:=bq.mY k
 unfold bq.f
 repeat' first
  |(with_reducible exact ih0 _ _ _ _ _)
  |(with_reducible exact ih1 _ _ _ _ _ _)
  |(with_reducible exact LeO.refl _)
  |(with_reducible exact LeO.none _)
  |(with_reducible refine LeO.ite ?_ ?_)
  |(with_reducible refine LeO.bind ?_ (fun _=>?_))
  |exact ih0 _ _ _ _ _
  |exact ih1 _ _ _ _ _ _
  |exact LeO.none _
  |refine LeO.ite ?_ ?_
  |refine LeO.bind ?_ (fun _=>?_)
set_option maxHeartbeats 8000000 in
set_option maxRecDepth 100000 in
theorem bq.calls (k:Nat) (A0:Option Addr) (c0:Nat) (l0:List Int) (a1:Int) (r:List Int) (w:World) (hr0:Kd.C (Kd.int .i64) w A0 l0.length l0) (hc0:l0.length≤c0) (h:bq.f k l0 a1=some r):
  Calls Tryz.prog 62 #[.slice A0 l0.length c0,.int .i64 a1] w fun e w'=>∃ v0_:Value,e= .returned (v0_)∧Kd.R (Kd.int .i64) 2 w' w.heap.size (fun _=>True) v0_ r∧Below w.heap.size w w':=by
 have HR0:=ah.mk hr0
 have HC0:=ah.mk hc0
 clear hr0 hc0
 have HB:=ah.mk (Below.refl w.heap.size w)
 have H:(bq.l0 k l0 a1 (([]:List Int)) false 0)=some r:=h
 clear h
 obtain⟨anw,Ou⟩:∃ y_:List Int,y_=(([]:List Int)):=⟨_,rfl⟩
 replace H:(bq.l0 k l0 a1 anw false 0)=some r:=by first|(rw[Ou];with_reducible exact H)|(have H2_:=(Option.bind_some _ _).symm.trans H;rw[Ou];with_reducible exact H2_)|(have H2_:=(Option.bind_some _ _).symm.trans H;with_reducible exact H2_)|with_reducible exact H|(rw[Ou];exact H)|exact H
 have adk:=ah.mk Ou
 clear Ou
 have H':=ah.mk H
 clear H
 go_enter Tryz.func62,Tryz.ntmps62
 go_wp2_with (first|((with_reducible refine aH (N:=8) rfl ?_);refine Kd.vR (Kd.int .i64) _ 2 ?hg (N:=8) ?hd (xs:=([]:List Int)) (inner:=[]) (ok:=fun _=>True) (okp:=fun _=>True) ?hr ?hp (fun _ hk=>hk) trivial (Below.refl _ _) (Nat.le_refl _) (by simp) ?_;(case hd=>rfl);(case hg=>rfl);(case hr=>exact qz1);(case hp=>exact(jO.none _ _));intro auI w3 ho4 hb hg_ lF;clear hg_ lF;(first|rw[← adk.out]at ho4|(simp only[Int.reduceToNat]at ho4;rw[← adk.out]at ho4));have ah9:=ah.mk (Kd.dV ho4 (aG (qz0 HB)));replace HB:=ah.mk (av (qz0 HB) hb);clear hb ho4))
 go_loopg [5,6,7] k (fun kq v5 v6 v7 w'=>∃ (mF:List Int) (gY:Bool) (ku:Int),v6= .bool gY∧v7= .int .i64 ku∧ah (bq.l0 kq l0 a1 mF gY ku=some r)∧ah (kq≤k)∧ah (Kd.R (Kd.int .i64) 2 w' w.heap.size (fun _=>True) v5 mF)∧ah (Below w.heap.size w w'))
 case atStart=>exact⟨(anw),(false),(0),iY,iY,H',⟨Nat.le_refl _⟩,⟨cK ah9⟩,⟨qz0 HB⟩⟩
 case round=>
  clear H'
  try clear p2
  obtain⟨mF,gY,ku,rfl,rfl,HA,HK1,jc,HB⟩:=hrel
  cases gk with
  |zero=>exact absurd HA.out (by simp[bq.l0])
  |succ k1=>
   have H:=HA.out
   clear HA
   simp only[bq.l0]at H
   by_cases c5:ku<(l0.length:Int)
   ·rw[if_pos c5]at H
    have Cx:decide (ku<(l0.length:Int))=true:=decide_eq_true c5
    clear c5
    have HC6:=ah.mk H
    clear H
    go_upto_region 6 with(fail)
    go_cut [24] (fun v24 wc=>∃ (kq:Nat) (Uf:Bool),v24= .bool Uf∧ah (bq.j1 kq l0 a1 mF gY ku Uf=some r)∧ah (kq≤k1)∧ah (Kd.R (Kd.int .i64) 2 wc w.heap.size (fun _=>True) u5 mF)∧ah (Below w.heap.size w wc))
    case first=>
     have H:=HC6.out
     clear HC6
     by_cases c7:gY=true
     ·subst c7
      rw[if_pos rfl]at H
      have H':=ah.mk H
      clear H
      go_wp2
      go_meet
      case rel=>exact⟨_,(false),iY,H',⟨by have:=HK1.out;first|omega|exact Nat.le_refl _⟩,⟨cK jc⟩,⟨qz0 HB⟩⟩
     replace c7:=Bool.eq_false_iff.mpr c7
     subst c7
     rw[if_neg (show ¬(false=true) by decide)]at H
     by_cases c8:0≤ku
     ·rw[if_pos c8]at H
      have Ov:decide (0≤ku)=true:=decide_eq_true c8
      clear c8
      (first|rw[Ov]|(simp only[yD,yE];rw[Ov])|skip)
      have H':=ah.mk H
      clear H
      have aga:0≤(ku:Int):=of_decide_eq_true gN
      have agb:ku<(l0.length:Int):=of_decide_eq_true gN
      obtain⟨aqG,aqH,Et⟩:=Kd.iC HR0.out ku aga agb
      cases aqH
      replace Et:=(HB.out.cell (World.block_lt_of_cell? w _ Et)).trans Et
      replace aga:=eq_true aga
      replace agb:=eq_true agb
      go_wp2
      go_meet
      case rel=>exact⟨_,(decide ((rd l0 ku)≥a1)),iY,H',⟨by have:=HK1.out;first|omega|exact Nat.le_refl _⟩,⟨cK jc⟩,⟨qz0 HB⟩⟩
     rw[if_neg c8]at H
     exact absurd H (by simp)
    case rest=>
     clear HC6
     try clear p1
     try clear q1
     try clear hx1
     try clear p2
     try clear c5
     try clear Cx
     try clear c6
     try clear c7
     try clear c8
     try clear Ov
     try clear Et
     try clear aga
     try clear p2
     try clear agb
     obtain⟨kq,Uf,rfl,HA,HJ5,jc,HB⟩:=hcut
     cases kq with
     |zero=>exact absurd HA.out (by simp[bq.j1])
     |succ kj5=>
      have H:=HA.out
      clear HA
      simp only[bq.j1]at H
      by_cases c9:Uf=true
      ·subst c9
       rw[if_pos rfl]at H
       by_cases c10:0≤ku
       ·rw[if_pos c10]at H
        have XZ:decide (0≤ku)=true:=decide_eq_true c10
        clear c10
        by_cases c11:ku<(l0.length:Int)
        ·rw[if_pos c11]at H
         have Mc:decide (ku<(l0.length:Int))=true:=decide_eq_true c11
         clear c11
         by_cases c12:(rd l0 ku)>a1
         ·rw[if_pos c12]at H
          have IQ:decide (a1<(rd l0 ku))=true:=decide_eq_true c12
          clear c12
          by_cases c13:mF.length<17592186044416
          ·rw[if_pos c13]at H
           have aia:=ah.mk c13
           clear c13
           obtain⟨Wd,Ow⟩:∃ y_:List Int,y_=(mF++[a1]):=⟨_,rfl⟩
           replace H:(if Wd.length<17592186044416 then(bq.l0 kj5 l0 a1 (Wd++[rd l0 ku]) true (wrap64 (ku+1)))else(none))=some r:=by first|(rw[Ow];with_reducible exact H)|(have H2_:=(Option.bind_some _ _).symm.trans H;rw[Ow];with_reducible exact H2_)|(have H2_:=(Option.bind_some _ _).symm.trans H;with_reducible exact H2_)|with_reducible exact H|(rw[Ow];exact H)|exact H
           have aib:=ah.mk Ow
           clear Ow
           by_cases c14:Wd.length<17592186044416
           ·rw[if_pos c14]at H
            have aic:=ah.mk c14
            clear c14
            obtain⟨anx,Ox⟩:∃ y_:List Int,y_=(Wd++[rd l0 ku]):=⟨_,rfl⟩
            replace H:(bq.l0 kj5 l0 a1 anx true (wrap64 (ku+1)))=some r:=by first|(rw[Ox];with_reducible exact H)|(have H2_:=(Option.bind_some _ _).symm.trans H;rw[Ox];with_reducible exact H2_)|(have H2_:=(Option.bind_some _ _).symm.trans H;with_reducible exact H2_)|with_reducible exact H|(rw[Ox];exact H)|exact H
            have aie:=ah.mk Ox
            clear Ox
            have H':=ah.mk H
            clear H
            have Ya:0≤(ku:Int):=of_decide_eq_true gN
            have Yb:ku<(l0.length:Int):=of_decide_eq_true gN
            obtain⟨Yc,e115,vo⟩:=Kd.iC HR0.out ku Ya Yb
            cases e115
            replace vo:=(HB.out.cell (World.block_lt_of_cell? w _ vo)).trans vo
            replace Ya:=eq_true Ya
            replace Yb:=eq_true Yb
            go_wp2_with (first|((with_reducible refine gI (b:=.append) (xs:=#[.tmp 31,.tmp 33]) rfl ?_);at_builtin;refine Kd.kY (Kd.int .i64) (w0:=w) w.heap.size rfl (.tmp 31) (.tmp 33) 24 2 (.int .i64 0) 8 rfl Tryz.underlying24 sS rfl (by decide) (by omega) u5 mF a1 [.int .i64 a1] (fun _=>True) (fun _=>False) rfl rfl ?aP (fun _ hk=>hk.elim) ?aF ?aO ?aB ?aS ?aL ?_;(case aP=>exact rfl);(case aB=>exact(qz0 HB));(case aF=>exact(fun _ _=>trivial));(case aO=>exact(cK jc));(case aS=>exact(aG (qz0 HB)));(case aL=>exact qz3 aia);intro v117 w15 ho hb hg hat;rw[← aib.out]at ho;replace HB:=ah.mk (hb);have adl:=ah.mk (ho);clear jc;clear ho hb hg hat;have aif:0≤(ku:Int):=of_decide_eq_true gN;have aii:ku<(l0.length:Int):=of_decide_eq_true gN;obtain⟨aij,e119,IU⟩:=Kd.iC HR0.out ku aif aii;obtain rfl:Yc=aij:=(by injection e119);replace IU:=(HB.out.cell (World.block_lt_of_cell? w _ IU)).trans IU;replace aif:=eq_true aif;replace aii:=eq_true aii)|((with_reducible refine gI (b:=.append) (xs:=#[.tmp 35,.tmp 40]) rfl ?_);at_builtin;refine Kd.kY (Kd.int .i64) (w0:=w) w.heap.size rfl (.tmp 35) (.tmp 40) 24 2 (.int .i64 0) 8 rfl Tryz.underlying24 sS rfl (by decide) (by omega) v117 Wd (rd l0 ku) [.int .i64 (rd l0 ku)] (fun _=>True) (fun _=>False) rfl rfl ?aP (fun _ hk=>hk.elim) ?aF ?aO ?aB ?aS ?aL ?_;(case aP=>exact rfl);(case aB=>exact(qz0 HB));(case aF=>exact(fun _ _=>trivial));(case aO=>exact(cK adl));(case aS=>exact(aG (qz0 HB)));(case aL=>exact qz3 aic);intro auJ w16 ho hb hg hat;rw[← aie.out]at ho;replace HB:=ah.mk (hb);have aik:=ah.mk (ho);clear adl;clear ho hb hg hat))
            go_roundg kj5
            case measure=>have:=HK1.out;have:=HJ5.out;omega
            case rel=>exact⟨(anx),(true),(wrap64 (ku+1)),iY,iY,H',⟨Ug HK1 HJ5⟩,⟨cK aik⟩,⟨qz0 HB⟩⟩
           rw[if_neg c14]at H
           exact absurd H (by simp)
          rw[if_neg c13]at H
          exact absurd H (by simp)
         rw[if_neg c12]at H
         have IQ:decide (a1<(rd l0 ku))=false:=decide_eq_false c12
         clear c12
         by_cases c17:mF.length<17592186044416
         ·rw[if_pos c17]at H
          have ail:=ah.mk c17
          clear c17
          obtain⟨anz,Oy⟩:∃ y_:List Int,y_=(mF++[rd l0 ku]):=⟨_,rfl⟩
          replace H:(bq.l0 kj5 l0 a1 anz true (wrap64 (ku+1)))=some r:=by first|(rw[Oy];with_reducible exact H)|(have H2_:=(Option.bind_some _ _).symm.trans H;rw[Oy];with_reducible exact H2_)|(have H2_:=(Option.bind_some _ _).symm.trans H;with_reducible exact H2_)|with_reducible exact H|(rw[Oy];exact H)|exact H
          have ain:=ah.mk Oy
          clear Oy
          have H':=ah.mk H
          clear H
          have Ya:0≤(ku:Int):=of_decide_eq_true gN
          have Yb:ku<(l0.length:Int):=of_decide_eq_true gN
          obtain⟨Yc,e115,vo⟩:=Kd.iC HR0.out ku Ya Yb
          cases e115
          replace vo:=(HB.out.cell (World.block_lt_of_cell? w _ vo)).trans vo
          replace Ya:=eq_true Ya
          replace Yb:=eq_true Yb
          have aio:0≤(ku:Int):=of_decide_eq_true gN
          have aip:ku<(l0.length:Int):=of_decide_eq_true gN
          obtain⟨aiq,aqI,IV⟩:=Kd.iC HR0.out ku aio aip
          obtain rfl:Yc=aiq:=(by injection aqI)
          replace IV:=(HB.out.cell (World.block_lt_of_cell? w _ IV)).trans IV
          replace aio:=eq_true aio
          replace aip:=eq_true aip
          go_wp2_with (first|((with_reducible refine gI (b:=.append) (xs:=#[.tmp 35,.tmp 40]) rfl ?_);at_builtin;refine Kd.kY (Kd.int .i64) (w0:=w) w.heap.size rfl (.tmp 35) (.tmp 40) 24 2 (.int .i64 0) 8 rfl Tryz.underlying24 sS rfl (by decide) (by omega) u5 mF (rd l0 ku) [.int .i64 (rd l0 ku)] (fun _=>True) (fun _=>False) rfl rfl ?aP (fun _ hk=>hk.elim) ?aF ?aO ?aB ?aS ?aL ?_;(case aP=>exact rfl);(case aB=>exact(qz0 HB));(case aF=>exact(fun _ _=>trivial));(case aO=>exact(cK jc));(case aS=>exact(aG (qz0 HB)));(case aL=>exact qz3 ail);intro anA w18 ho hb hg hat;rw[← ain.out]at ho;replace HB:=ah.mk (hb);have air:=ah.mk (ho);clear jc;clear ho hb hg hat))
          go_roundg kj5
          case measure=>have:=HK1.out;have:=HJ5.out;omega
          case rel=>exact⟨(anz),(true),(wrap64 (ku+1)),iY,iY,H',⟨Ug HK1 HJ5⟩,⟨cK air⟩,⟨qz0 HB⟩⟩
         rw[if_neg c17]at H
         exact absurd H (by simp)
        rw[if_neg c11]at H
        exact absurd H (by simp)
       rw[if_neg c10]at H
       exact absurd H (by simp)
      ·replace c9:=Bool.eq_false_iff.mpr c9
       subst c9
       rw[if_neg (show ¬(false=true) by decide)]at H
       by_cases c19:0≤ku
       ·rw[if_pos c19]at H
        have adn:decide (0≤ku)=true:=decide_eq_true c19
        clear c19
        by_cases c20:ku<(l0.length:Int)
        ·rw[if_pos c20]at H
         have Uh:decide (ku<(l0.length:Int))=true:=decide_eq_true c20
         clear c20
         by_cases c21:mF.length<17592186044416
         ·rw[if_pos c21]at H
          have Yd:=ah.mk c21
          clear c21
          obtain⟨anB,hy128⟩:∃ y_:List Int,y_=(mF++[rd l0 ku]):=⟨_,rfl⟩
          replace H:(bq.l0 kj5 l0 a1 anB gY (wrap64 (ku+1)))=some r:=by first|(rw[hy128];with_reducible exact H)|(have H2_:=(Option.bind_some _ _).symm.trans H;rw[hy128];with_reducible exact H2_)|(have H2_:=(Option.bind_some _ _).symm.trans H;with_reducible exact H2_)|with_reducible exact H|(rw[hy128];exact H)|exact H
          have ais:=ah.mk hy128
          clear hy128
          have H':=ah.mk H
          clear H
          have ait:0≤(ku:Int):=of_decide_eq_true gN
          have aiu:ku<(l0.length:Int):=of_decide_eq_true gN
          obtain⟨aqJ,e127,IW⟩:=Kd.iC HR0.out ku ait aiu
          cases e127
          replace IW:=(HB.out.cell (World.block_lt_of_cell? w _ IW)).trans IW
          replace ait:=eq_true ait
          replace aiu:=eq_true aiu
          go_wp2_with (first|((with_reducible refine gI (b:=.append) (xs:=#[.tmp 35,.tmp 40]) rfl ?_);at_builtin;refine Kd.kY (Kd.int .i64) (w0:=w) w.heap.size rfl (.tmp 35) (.tmp 40) 24 2 (.int .i64 0) 8 rfl Tryz.underlying24 sS rfl (by decide) (by omega) u5 mF (rd l0 ku) [.int .i64 (rd l0 ku)] (fun _=>True) (fun _=>False) rfl rfl ?aP (fun _ hk=>hk.elim) ?aF ?aO ?aB ?aS ?aL ?_;(case aP=>exact rfl);(case aB=>exact(qz0 HB));(case aF=>exact(fun _ _=>trivial));(case aO=>exact(cK jc));(case aS=>exact(aG (qz0 HB)));(case aL=>exact qz3 Yd);intro auK w22 ho hb hg hat;rw[← ais.out]at ho;replace HB:=ah.mk (hb);have aiv:=ah.mk (ho);clear jc;clear ho hb hg hat))
          go_roundg kj5
          case measure=>have:=HK1.out;have:=HJ5.out;omega
          case rel=>exact⟨(anB),(gY),(wrap64 (ku+1)),iY,iY,H',⟨Ug HK1 HJ5⟩,⟨cK aiv⟩,⟨qz0 HB⟩⟩
         rw[if_neg c21]at H
         exact absurd H (by simp)
        rw[if_neg c20]at H
        exact absurd H (by simp)
       rw[if_neg c19]at H
       exact absurd H (by simp)
   ·rw[if_neg c5]at H
    have Cx:decide (ku<(l0.length:Int))=false:=decide_eq_false c5
    clear c5
    by_cases c23:gY=true
    ·subst c23
     rw[if_pos rfl]at H
     obtain rfl:=Option.some.inj H
     go_wp2
     go_ret
     exact⟨_,qz7,cK jc,qz0 HB⟩
    replace c23:=Bool.eq_false_iff.mpr c23
    subst c23
    rw[if_neg (show ¬(false=true) by decide)]at H
    by_cases c24:mF.length<17592186044416
    ·rw[if_pos c24]at H
     have aiw:=ah.mk c24
     clear c24
     obtain⟨aqK,Oz⟩:∃ y_:List Int,y_=(mF++[a1]):=⟨_,rfl⟩
     replace H:(some aqK)=some r:=by first|(rw[Oz];with_reducible exact H)|(have H2_:=(Option.bind_some _ _).symm.trans H;rw[Oz];with_reducible exact H2_)|(have H2_:=(Option.bind_some _ _).symm.trans H;with_reducible exact H2_)|with_reducible exact H|(rw[Oz];exact H)|exact H
     have aix:=ah.mk Oz
     clear Oz
     obtain rfl:=Option.some.inj H
     go_wp2_with (first|((with_reducible refine gI (b:=.append) (xs:=#[.tmp 44,.tmp 46]) rfl ?_);at_builtin;refine Kd.kY (Kd.int .i64) (w0:=w) w.heap.size rfl (.tmp 44) (.tmp 46) 24 2 (.int .i64 0) 8 rfl Tryz.underlying24 sS rfl (by decide) (by omega) u5 mF a1 [.int .i64 a1] (fun _=>True) (fun _=>False) rfl rfl ?aP (fun _ hk=>hk.elim) ?aF ?aO ?aB ?aS ?aL ?_;(case aP=>exact rfl);(case aB=>exact(qz0 HB));(case aF=>exact(fun _ _=>trivial));(case aO=>exact(cK jc));(case aS=>exact(aG (qz0 HB)));(case aL=>exact qz3 aiw);intro auL w25 ho hb hg hat;rw[← aix.out]at ho;replace HB:=ah.mk (hb);have aiy:=ah.mk (ho);clear jc;clear ho hb hg hat))
     go_ret
     exact⟨_,qz7,cK aiy,qz0 HB⟩
    rw[if_neg c24]at H
    exact absurd H (by simp)
end Go.Proofs.YtalkmhnlgfncmaaGreatDoor.X
end
section
/- The reference's lists of numbers: asking and putting. Conditions: as each lemma says. -/
namespace Go.Proofs.YtalkmhnlgfncmaaGreatDoor.X
open Go.RowKit Go.Proofs.YtalkmhnlgfncmaaGreatDoorW.aC Go.Proofs.YtalkmhnlgfncmaaGreatDoorW.aN Go.Proofs.YtalkmhnlgfncmaaGreatDoorW.aT
theorem Cz (l:List Int) (i:Nat) (h:i<l.length):rd l (i:Int)=l[i]:=qQ l i h
theorem KV (l:List Int) (v:Int) (hl:l.length≤1000):∀ (d i k:Nat),i+d=l.length→d<k→bY.l0 k l v i=some (decide (v∈l.drop i))
 |0,i,k,hi,hk=>by
  cases k with
  |zero=>omega
  |succ k=>rw[bY.l0,if_neg (by omega),List.drop_of_length_le (by omega)];simp
 |d+1,i,k,hi,hk=>by
  cases k with
  |zero=>omega
  |succ k=>
   have ih:=KV l v hl d (i+1) k (by omega) (by omega)
   have hlt:i<l.length:=by omega
   rw[bY.l0,if_pos (by omega),if_pos (by omega),Cz l i hlt,List.drop_eq_getElem_cons hlt,w64 (by omega) (by omega)]
   by_cases e:l[i]=v
   ·rw[if_pos e];simp[e]
   ·rw[if_neg e]
    rw[Int.natCast_add,Int.natCast_one]at ih
    rw[ih]
    congr 1
    rw[decide_eq_decide,List.mem_cons]
    constructor
    ·exact .inr
    rintro(h|h)
    ·exact absurd h.symm e
    exact h
theorem has_eq (l:List Int) (v:Int) (hl:l.length≤1000) (k:Nat) (hk:l.length<k):bY.f k l v=some (decide (v∈l)):=by
 have:=KV l v hl l.length 0 k (by omega) hk
 simpa [bY.f]using this
theorem yQ (l:List Int) (v:Int) (hv:v∉l) (hl:l.length≤1000):∀ (d i k:Nat) (out:List Int) (done:Bool),i+d=l.length→out.length≤2*i+2→2*d+1<k→
  ∃ r,bq.l0 k l v out done i=some r∧r.length=out.length+d+(if done=true then 0 else 1)∧∀ x,x∈r↔x∈out∨x∈l.drop i∨(done=false∧x=v)
 |0,i,k,out,done,hi,ho,hk=>by
  cases k with
  |zero=>omega
  |succ k=>
   rw[bq.l0,if_neg (by omega),List.drop_of_length_le (by omega)]
   cases done with
   |true=>exact⟨out,by simp,by simp,by simp⟩
   |false=>exact⟨out++[v],by rw[if_neg (by decide),if_pos (by omega)],by simp,by simp⟩
 |d+1,i,k,out,done,hi,ho,hk=>by
  cases k with
  |zero=>omega
  |succ k=>
  cases k with
  |zero=>omega
  |succ k=>
   have hlt:i<l.length:=by omega
   have hne:l[i]≠v:=fun e=>hv (e ▸ List.getElem_mem hlt)
   rw[bq.l0,if_pos (by omega),List.drop_eq_getElem_cons hlt]
   cases done with
   |true=>
    obtain⟨r,h1,h2,h3⟩:=yQ l v hv hl d (i+1) k (out++[l[i]]) true (by omega) zT (by omega)
    refine⟨r,?_,by rw[h2];simp;omega,fun x=>aiz⟩
    rw[if_pos rfl,bq.j1,if_neg (by decide),if_pos (by omega),if_pos (by omega),if_pos (by omega),Cz l i hlt,w64 (by omega) (by omega)]
    rw[Int.natCast_add,Int.natCast_one]at h1
    exact h1
   |false=>
    rw[if_neg (by decide),if_pos (by omega),Cz l i hlt,bq.j1]
    by_cases hge:l[i]≥v
    ·obtain⟨r,h1,h2,h3⟩:=yQ l v hv hl d (i+1) k (out++[v]++[l[i]]) true (by omega) zT (by omega)
     refine⟨r,?_,by rw[h2];simp;omega,fun x=>aiz⟩
     rw[decide_eq_true hge,if_pos rfl,if_pos (by omega),if_pos (by omega),Cz l i hlt,if_pos (by omega),if_pos (by omega),Option.bind_some,if_pos zT,w64 (by omega) (by omega)]
     rw[Int.natCast_add,Int.natCast_one]at h1
     exact h1
    ·obtain⟨r,h1,h2,h3⟩:=yQ l v hv hl d (i+1) k (out++[l[i]]) false (by omega) zT (by omega)
     refine⟨r,?_,by rw[h2];simp;omega,fun x=>aiz⟩
     rw[decide_eq_false hge,if_neg (by decide),if_pos (by omega),if_pos (by omega),if_pos (by omega),Cz l i hlt,w64 (by omega) (by omega)]
     rw[Int.natCast_add,Int.natCast_one]at h1
     exact h1
theorem put_eq (l:List Int) (v:Int) (hv:v∉l) (hl:l.length≤1000) (k:Nat) (hk:2*l.length+1<k):∃ r,bq.f k l v=some r∧r.length=l.length+1∧∀ x,x∈r↔x∈l∨x=v:=by
 obtain⟨r,h1,h2,h3⟩:=yQ l v hv hl l.length 0 k [] false (by omega) (by simp) hk
 exact⟨r,h1,by rw[h2];simp,fun x=>by rw[h3];simp⟩
end Go.Proofs.YtalkmhnlgfncmaaGreatDoor.X
end
section
namespace Go.Proofs.YtalkmhnlgfncmaaGreatDoor.X
open Go.RowKit Go.Proofs.YtalkmhnlgfncmaaGreatDoorW.aC Go.Proofs.YtalkmhnlgfncmaaGreatDoorW.aN Go.Proofs.YtalkmhnlgfncmaaGreatDoorW.aT
attribute [local go_sem] fq fu gJ gK dN dO fA fB
/-! ### spec_l00In: function 22 -/
def bM.f (a0:Int) (a1:Int) (a2:Int):Option (Bool):=if a0≥a1 then(some (decide (a0≤a2)))else(some false)
set_option maxHeartbeats 8000000 in
set_option maxRecDepth 100000 in
theorem bM.calls (a0:Int) (a1:Int) (a2:Int) (r:Bool) (w:World) (h:bM.f a0 a1 a2=some r):
  Calls Tryz.prog 22 #[.int .i64 a0,.int .i64 a1,.int .i64 a2] w fun e w'=>e= .returned (.bool r)∧gQ w w':=by
 have H:(if a0≥a1 then(some (decide (a0≤a2)))else(some false))=some r:=h
 clear h
 by_cases c4:a0≥a1
 ·rw[if_pos c4]at H
  have Il:decide (a1≤a0)=true:=decide_eq_true c4
  clear c4
  obtain rfl:=Option.some.inj H
  go_enter Tryz.func22,Tryz.ntmps22
  go_wp2
  go_ret
  exact⟨iY,vM⟩
 ·rw[if_neg c4]at H
  have Il:decide (a1≤a0)=false:=decide_eq_false c4
  clear c4
  obtain rfl:=Option.some.inj H
  go_enter Tryz.func22,Tryz.ntmps22
  go_wp2
  go_ret
  exact⟨iY,vM⟩
end Go.Proofs.YtalkmhnlgfncmaaGreatDoor.X
end
section
namespace Go.Proofs.YtalkmhnlgfncmaaGreatDoor.X
open Go.RowKit Go.Proofs.YtalkmhnlgfncmaaGreatDoorW.aC Go.Proofs.YtalkmhnlgfncmaaGreatDoorW.aN Go.Proofs.YtalkmhnlgfncmaaGreatDoorW.aT
attribute [local go_sem] fq fu gJ gK dN dO fA fB
/-- A state of type 27 at block g of W; what its slices lead to came in by w0. -/
def dK (w0 W:World) (g:Nat) (f0:List Int) (f1:List (S40)):Prop:=∃ A0 c0,∃ A1 c1,W.heap[g]?=some (.cells #[.slice A0 f0.length c0,.slice A1 f1.length c1] 27 (0,0))∧w0.heap.size≤g∧Kd.C (Kd.int .i64) w0 A0 f0.length f0∧Kd.C k40 w0 A1 f1.length f1
theorem dK.grown {w0 W:World} {g:Nat} {f0:List Int} {f1:List (S40)} {W1:World} {row:Option Nat} (h:dK w0 W g f0 f1) (hw:W.grownBy W1 row) (hne:some g≠row):dK w0 W1 g f0 f1:=by
 obtain⟨A0,c0,A1,c1,hb,hg,hr0,hr1⟩:=h
 exact⟨A0,c0,A1,c1,dQ hb hw hne,hg,hr0,hr1⟩
theorem dK.fresh {w0 W:World} {g:Nat} {f0:List Int} {f1:List (S40)} (h:dK w0 W g f0 f1):∀ k,W.heap.size≤k→k≠g:=by
 obtain⟨A0,c0,A1,c1,hb,hg,hr0,hr1⟩:=h
 exact Kd.FX hb
theorem dK.kept {w0 W:World} {g:Nat} {f0:List Int} {f1:List (S40)} {W1:World} {S:Nat→Prop} (h:dK w0 W g f0 f1) (hk:Kept W W1 S) (hne:¬S g):dK w0 W1 g f0 f1:=by
 obtain⟨A0,c0,A1,c1,hb,hg,hr0,hr1⟩:=h
 exact⟨A0,c0,A1,c1,uN hb hk hne,hg,hr0,hr1⟩
theorem dK.below {w0 W:World} {g:Nat} {f0:List Int} {f1:List (S40)} {W1:World} (h:dK w0 W g f0 f1) (hw:Below W.heap.size W W1):dK w0 W1 g f0 f1:=h.grown (oD hw none) (by simp)
theorem dK.alloc {w0 W:World} {g:Nat} {f0:List Int} {f1:List (S40)} (h:dK w0 W g f0 f1) (o:Obj):dK w0 (W.alloc o) g f0 f1:=h.below (bg (Below.refl _ _) o)
theorem dK.drewN {w0 W:World} {g:Nat} {f0:List Int} {f1:List (S40)} (h:dK w0 W g f0 f1) (m:Nat):dK w0 (W.drewN m) g f0 f1:=h
theorem dK.drew {w0 W:World} {g:Nat} {f0:List Int} {f1:List (S40)} (h:dK w0 W g f0 f1):dK w0 W.drew g f0 f1:=h
theorem dK.at_ {w0 W:World} {g:Nat} {f0:List Int} {f1:List (S40)} {w':World} {m:Nat} (hq:W.drewN m=w') (h:dK w0 W g f0 f1):dK w0 w' g f0 f1:=by subst hq;exact dK.drewN h m
theorem dK.apart {w0 W:World} {g:Nat} {f0:List Int} {f1:List (S40)} {α:Type} {d:Kd α} {e:Nat} {base:Nat} {ok:Nat→Prop} {v:Value} {xs:List α} (h:dK w0 W g f0 f1) (ho:d.R e W base ok v xs) (ht:∀ q,q∈e::d.E→q≠27):d.R e W base (fun k=>ok k∧k≠g) v xs:=by
 obtain⟨A0,c0,A1,c1,hb,hg,hr0,hr1⟩:=h
 exact Kd.cO ho hb ht
theorem dK.own_ne {w0 W:World} {g:Nat} {f0:List Int} {f1:List (S40)} {α:Type} {d:Kd α} {e:Nat} {base:Nat} {ok:Nat→Prop} {v:Value} {xs:List α} (h:dK w0 W g f0 f1) (ho:d.R e W base ok v xs) (ht:e≠27):some g≠v.ownBlock:=by
 obtain⟨A0,c0,A1,c1,hb,hg,hr0,hr1⟩:=h
 exact Kd.wT ho hb ht
theorem dK.lt {w0 W:World} {g:Nat} {f0:List Int} {f1:List (S40)} (h:dK w0 W g f0 f1):g<W.heap.size:=by
 obtain⟨A0,c0,A1,c1,hb,hg,hr0,hr1⟩:=h
 exact gD hb
theorem dK.ge {w0 W:World} {g:Nat} {f0:List Int} {f1:List (S40)} (h:dK w0 W g f0 f1):w0.heap.size≤g:=by
 obtain⟨A0,c0,A1,c1,hb,hg,hr0,hr1⟩:=h
 exact hg
theorem dK.zU {w0 W:World} {g:Nat} {f0:List Int} {f1:List (S40)} {a:Nat} {cs:Array Value} {t:TypeId} {fr:Nat×Nat} (h:dK w0 W g f0 f1) (hb2:W.heap[a]?=some (.cells cs t fr)) (ht:t≠27):g≠a:=by
 obtain⟨A0,c0,A1,c1,hb,hg,hr0,hr1⟩:=h
 rintro rfl
 rw[hb]at hb2
 injection hb2 with hb2
 injection hb2 with _ ht2
 exact ht ht2.symm
theorem dK.far {w0 W:World} {g:Nat} {f0:List Int} {f1:List (S40)} {p:Addr} (h:dK w0 W g f0 f1) (hne:g≠p.block) (u:Value):dK w0 (W.setCell p u) g f0 f1:=by
 obtain⟨A0,c0,A1,c1,hb,hg,hr0,hr1⟩:=h
 exact⟨A0,c0,A1,c1,dJ hb hne u,hg,hr0,hr1⟩
theorem eZ {W:World} {g:Nat} {A0:Option Addr} {c0:Nat} {A1:Option Addr} {c1:Nat} {f0:List Int} {f1:List (S40)} (h:W.heap[g]?=some (.cells #[.slice A0 f0.length c0,.slice A1 f1.length c1] 27 (0,0))):W.cell? ⟨g,0,none⟩=some (.slice A0 f0.length c0):=(aj h 0).trans rfl
theorem fP {W:World} {g:Nat} {A0:Option Addr} {c0:Nat} {A1:Option Addr} {c1:Nat} {f0:List Int} {f1:List (S40)} (h:W.heap[g]?=some (.cells #[.slice A0 f0.length c0,.slice A1 f1.length c1] 27 (0,0))):W.cell? ⟨g,1,none⟩=some (.slice A1 f1.length c1):=(aj h 1).trans rfl
theorem dK.new (w0 W:World) (A0:Option Addr) (c0:Nat) (A1:Option Addr) (c1:Nat) (f0:List Int) (f1:List (S40)) (hB:Below w0.heap.size w0 W) (hr0:Kd.C (Kd.int .i64) w0 A0 f0.length f0) (hr1:Kd.C k40 w0 A1 f1.length f1):dK w0 (W.alloc (.cells #[.slice A0 f0.length c0,.slice A1 f1.length c1] 27)) W.heap.size f0 f1:=⟨A0,c0,A1,c1,by simpa using heap_alloc_new W _,hB.size,hr0,hr1⟩
/-! ### spec_l08Form: function 39 -/
mutual
def aD.j0:Nat→Int→Bool→List Int→List (S40)→Option (Bool)
 |0,_,_,_,_=>none
 |k+1,x3,x22,x1000,jJ=>if x22=true then(some false)else(aD.l0 k x3 0 x1000 jJ)
def aD.l0:Nat→Int→Int→List Int→List (S40)→Option (Bool)
 |0,_,_,_,_=>none
 |k+1,x3,x4,x1000,jJ=>if x4<(x1000.length:Int)then(if 0≤x4 then((bM.f (rd x1000 x4) 0 100).bind fun ado=>(if ado=true then(aD.l0 k x3 (wrap64 (x4+1)) x1000 jJ)else(some false)))else(none))else(aD.l1 k x3 0 x1000 jJ)
def aD.l1:Nat→Int→Int→List Int→List (S40)→Option (Bool)
 |0,_,_,_,_=>none
 |k+1,x3,x5,x1000,jJ=>if x5<(jJ.length:Int)then(if 0≤x5 then((bM.f ((au jJ x5).f0) 0 (wrap64 (x3 - 1))).bind fun t107=>(if t107=true then((bM.f ((au jJ x5).f1) 0 (wrap64 (x3 - 1))).bind fun adp=>(if adp=true then((bM.f ((au jJ x5).f2) 0 20).bind fun t109=>(if t109=true then(aD.l1 k x3 (wrap64 (x5+1)) x1000 jJ)else(some false)))else(some false)))else(some false)))else(none))else(some true)
end
def aD.f (k:Nat) (dX:List Int) (bH:List (S40)):Option (Bool):=(bM.f (dX.length:Int) 1 8).bind fun Ui=>(if Ui=true then(aD.j0 k (dX.length:Int) (decide ((bH.length:Int)>16)) dX bH)else(aD.j0 k (dX.length:Int) true dX bH))
theorem aD.mY:∀ k,(∀ y0 y1 y2 y3,LeO (aD.j0 k y0 y1 y2 y3) (aD.j0 (k+1) y0 y1 y2 y3))∧(∀ y0 y1 y2 y3,LeO (aD.l0 k y0 y1 y2 y3) (aD.l0 (k+1) y0 y1 y2 y3))∧(∀ y0 y1 y2 y3,LeO (aD.l1 k y0 y1 y2 y3) (aD.l1 (k+1) y0 y1 y2 y3))
 |0=>⟨fun _ _ _ _ r h=>by simp[aD.j0]at h,fun _ _ _ _ r h=>by simp[aD.l0]at h,fun _ _ _ _ r h=>by simp[aD.l1]at h⟩
 |k+1=>by
  obtain⟨ih0,ih1,ih2⟩:=aD.mY k
  refine⟨?_,?_,?_⟩
  ·intro y0 y1 y2 y3
   unfold aD.j0
   repeat' first
   |(with_reducible exact ih0 _ _ _ _)
   |(with_reducible exact ih1 _ _ _ _)
   |(with_reducible exact ih2 _ _ _ _)
   |(with_reducible exact LeO.refl _)
   |(with_reducible exact LeO.none _)
   |(with_reducible refine LeO.ite ?_ ?_)
   |(with_reducible refine LeO.bind ?_ (fun _=>?_))
   |exact ih0 _ _ _ _
   |exact ih1 _ _ _ _
   |exact ih2 _ _ _ _
   |exact LeO.none _
   |refine LeO.ite ?_ ?_
   |refine LeO.bind ?_ (fun _=>?_)
  ·intro y0 y1 y2 y3
   unfold aD.l0
   repeat' first
   |(with_reducible exact ih0 _ _ _ _)
   |(with_reducible exact ih1 _ _ _ _)
   |(with_reducible exact ih2 _ _ _ _)
   |(with_reducible exact LeO.refl _)
   |(with_reducible exact LeO.none _)
   |(with_reducible refine LeO.ite ?_ ?_)
   |(with_reducible refine LeO.bind ?_ (fun _=>?_))
   |exact ih0 _ _ _ _
   |exact ih1 _ _ _ _
   |exact ih2 _ _ _ _
   |exact LeO.none _
   |refine LeO.ite ?_ ?_
   |refine LeO.bind ?_ (fun _=>?_)
  ·intro y0 y1 y2 y3
   unfold aD.l1
   repeat' first
   |(with_reducible exact ih0 _ _ _ _)
   |(with_reducible exact ih1 _ _ _ _)
   |(with_reducible exact ih2 _ _ _ _)
   |(with_reducible exact LeO.refl _)
   |(with_reducible exact LeO.none _)
   |(with_reducible refine LeO.ite ?_ ?_)
   |(with_reducible refine LeO.bind ?_ (fun _=>?_))
   |exact ih0 _ _ _ _
   |exact ih1 _ _ _ _
   |exact ih2 _ _ _ _
   |exact LeO.none _
   |refine LeO.ite ?_ ?_
   |refine LeO.bind ?_ (fun _=>?_)
theorem aD.mono:∀ a0 a1 k,LeO (aD.f k a0 a1) (aD.f (k+1) a0 a1):=by
 intro a0 a1 k
 obtain⟨ih0,ih1,ih2⟩:=aD.mY k
 unfold aD.f
 repeat' first
  |(with_reducible exact ih0 _ _ _ _)
  |(with_reducible exact ih1 _ _ _ _)
  |(with_reducible exact ih2 _ _ _ _)
  |(with_reducible exact LeO.refl _)
  |(with_reducible exact LeO.none _)
  |(with_reducible refine LeO.ite ?_ ?_)
  |(with_reducible refine LeO.bind ?_ (fun _=>?_))
  |exact ih0 _ _ _ _
  |exact ih1 _ _ _ _
  |exact ih2 _ _ _ _
  |exact LeO.none _
  |refine LeO.ite ?_ ?_
  |refine LeO.bind ?_ (fun _=>?_)
set_option maxHeartbeats 8000000 in
set_option maxRecDepth 100000 in
theorem aD.calls (k:Nat) (g:Nat) (dX:List Int) (bH:List (S40)) (r:Bool) (w0 w:World) (hI:dK w0 w g dX bH) (hB:Below w0.heap.size w0 w) (h:aD.f k dX bH=some r):
  Calls Tryz.prog 39 #[.pointer (some ⟨g,0,none⟩)] w fun e w'=>e= .returned (.bool r)∧dK w0 w' g dX bH∧Below w0.heap.size w0 w'∧aI w w' g none:=by
 have Wh:=Tryz.underlying40
 have HI0:=ah.mk hI
 have HK:=ah.mk (aI.refl w g none)
 have HL:=ah.mk hB.size
 clear hI
 have HW0:=ah.mk hB.size
 have HB:=ah.mk hB
 clear hB
 have H:((bM.f (dX.length:Int) 1 8).bind fun Ui=>(if Ui=true then(aD.j0 k (dX.length:Int) (decide ((bH.length:Int)>16)) dX bH)else(aD.j0 k (dX.length:Int) true dX bH)))=some r:=h
 clear h
 have HC2:=ah.mk H
 clear H
 obtain⟨adq,adr,ads,adt,Ye,aiA,adu,adv⟩:=HI0.out
 have zV:=eZ Ye
 have zW:=fP Ye
 clear Ye aiA
 go_enter Tryz.func39,Tryz.ntmps39
 go_upto_region 2 with(fail)
 go_cut [22] (fun v22 wc=>∃ (kq:Nat) (Eu:Bool),v22= .bool Eu∧ah (aD.j0 kq (dX.length:Int) Eu dX bH=some r)∧ah (kq≤k)∧ah (dK w0 wc g dX bH)∧ah (aI w wc g none)∧ah (Below w0.heap.size w0 wc))
 case first=>
  have H:=HC2.out
  clear HC2
  obtain⟨Ui,A40,H⟩:=Option.bind_eq_some_iff.mp H
  have A4:=ah.mk A40
  clear A40
  by_cases c5:Ui=true
  ·subst c5
   rw[if_pos rfl]at H
   have H':=ah.mk H
   clear H
   go_wp2_with (first|((with_reducible refine aK (f:=22) rfl ?_);refine dH (some 13) rfl rfl Tryz.func22 qz9 rfl #[.int .i64 (dX.length:Int),.int .i64 1,.int .i64 8] rfl jh ?_;(with_reducible refine(bM.calls (dX.length:Int) 1 8 true _ A4.out).mono ?_);rintro e w' ⟨rfl,⟨nd,rfl⟩⟩;refine⟨_,rfl,?_⟩;obtain⟨Wj,Wm,adw,adx,KW,ady,OA,adz⟩:=HI0.out;have vZ:=eZ KW;have wh:=fP KW;clear KW ady))
   go_meet
   case rel=>exact⟨_,(decide ((bH.length:Int)>16)),iY,H',⟨Yf⟩,⟨IX HI0⟩,⟨mM HK⟩,⟨Mj HB HI0⟩⟩
  replace c5:=Bool.eq_false_iff.mpr c5
  subst c5
  rw[if_neg (show ¬(false=true) by decide)]at H
  have H':=ah.mk H
  clear H
  go_wp2_with (first|((with_reducible refine aK (f:=22) rfl ?_);refine dH (some 13) rfl rfl Tryz.func22 qz9 rfl #[.int .i64 (dX.length:Int),.int .i64 1,.int .i64 8] rfl jh ?_;(with_reducible refine(bM.calls (dX.length:Int) 1 8 false _ A4.out).mono ?_);rintro e w' ⟨rfl,⟨nd,rfl⟩⟩;refine⟨_,rfl,?_⟩))
  go_meet
  case rel=>exact⟨_,(true),iY,H',⟨Yf⟩,⟨IX HI0⟩,⟨mM HK⟩,⟨Mj HB HI0⟩⟩
 case rest=>
  clear HC2
  try clear c2
  try clear p2
  try clear c3
  try clear c5
  try clear zV
  try clear zW
  try clear vZ
  try clear wh
  obtain⟨kq,Eu,rfl,HA,HJ1,HI0,HK,HB⟩:=hcut
  cases kq with
  |zero=>exact absurd HA.out (by simp[aD.j0])
  |succ kj1=>
   have H:=HA.out
   clear HA
   simp only[aD.j0]at H
   by_cases c7:Eu=true
   ·subst c7
    rw[if_pos rfl]at H
    obtain rfl:=Option.some.inj H
    go_wp2
    go_ret
    exact⟨qz7,IX HI0,Mj HB HI0,mM HK⟩
   ·replace c7:=Bool.eq_false_iff.mpr c7
    subst c7
    rw[if_neg (show ¬(false=true) by decide)]at H
    have H':=ah.mk H
    clear H
    go_wp2
    go_loopg [4] kj1 (fun kq v4 w'=>∃ (rD:Int),v4= .int .i64 rD∧ah (aD.l0 kq (dX.length:Int) rD dX bH=some r)∧ah (kq≤kj1)∧ah (dK w0 w' g dX bH)∧ah (aI w w' g none)∧ah (Below w0.heap.size w0 w'))
    case atStart=>exact⟨(0),iY,H',⟨Nat.le_refl _⟩,⟨IX HI0⟩,⟨mM HK⟩,⟨Mj HB HI0⟩⟩
    case round=>
     clear H'
     try clear c2
     try clear p2
     try clear c3
     try clear c5
     try clear c7
     try clear zV
     try clear zW
     try clear vZ
     try clear wh
     try clear p2
     obtain⟨rD,rfl,HA,HK2,HI0,HK,HB⟩:=hrel
     cases gk with
     |zero=>exact absurd HA.out (by simp[aD.l0])
     |succ k2=>
      have H:=HA.out
      clear HA
      simp only[aD.l0]at H
      by_cases c8:rD<(dX.length:Int)
      ·rw[if_pos c8]at H
       have Ov:decide (rD<(dX.length:Int))=true:=decide_eq_true c8
       clear c8
       by_cases c9:0≤rD
       ·rw[if_pos c9]at H
        have abZ:decide (0≤rD)=true:=decide_eq_true c9
        clear c9
        obtain⟨ado,OB,H⟩:=Option.bind_eq_some_iff.mp H
        have A10:=ah.mk OB
        clear OB
        by_cases c11:ado=true
        ·subst c11
         rw[if_pos rfl]at H
         have H':=ah.mk H
         clear H
         obtain⟨IY,IZ,Ja,Jb,vv,Jc,zX,Ew⟩:=HI0.out
         have xw:=eZ vv
         have xA:=fP vv
         clear vv Jc
         have Gp:0≤(rD:Int):=of_decide_eq_true gN
         have Gq:rD<(dX.length:Int):=of_decide_eq_true gN
         obtain⟨Yg,Yh,om⟩:=Kd.iC zX rD Gp Gq
         cases Yh
         replace om:=aV HB.out om
         replace Gp:=eq_true Gp
         replace Gq:=eq_true Gq
         go_wp2_with (first|((with_reducible refine aK (f:=22) rfl ?_);refine dH (some 39) rfl rfl Tryz.func22 qz9 rfl #[.int .i64 (rd dX rD),.int .i64 0,.int .i64 100] rfl jh ?_;(with_reducible refine(bM.calls (rd dX rD) 0 100 true _ A10.out).mono ?_);rintro e w' ⟨rfl,⟨nd,rfl⟩⟩;refine⟨_,rfl,?_⟩))
         go_roundg k2
         case measure=>have:=HJ1.out;have:=HK2.out;omega
         case rel=>exact⟨(wrap64 (rD+1)),iY,H',⟨Ug HJ1 HK2⟩,⟨IX HI0⟩,⟨mM HK⟩,⟨Mj HB HI0⟩⟩
        replace c11:=Bool.eq_false_iff.mpr c11
        subst c11
        rw[if_neg (show ¬(false=true) by decide)]at H
        obtain rfl:=Option.some.inj H
        obtain⟨Yi,Yj,Yk,Yl,Jd,Ym,Je,Yn⟩:=HI0.out
        have xB:=eZ Jd
        have xC:=fP Jd
        clear Jd Ym
        have Gp:0≤(rD:Int):=of_decide_eq_true gN
        have Gq:rD<(dX.length:Int):=of_decide_eq_true gN
        obtain⟨Yg,Yh,om⟩:=Kd.iC Je rD Gp Gq
        cases Yh
        replace om:=aV HB.out om
        replace Gp:=eq_true Gp
        replace Gq:=eq_true Gq
        go_wp2_with (first|((with_reducible refine aK (f:=22) rfl ?_);refine dH (some 39) rfl rfl Tryz.func22 qz9 rfl #[.int .i64 (rd dX rD),.int .i64 0,.int .i64 100] rfl jh ?_;(with_reducible refine(bM.calls (rd dX rD) 0 100 false _ A10.out).mono ?_);rintro e w' ⟨rfl,⟨nd,rfl⟩⟩;refine⟨_,rfl,?_⟩))
        go_ret
        exact⟨qz7,IX HI0,Mj HB HI0,mM HK⟩
       rw[if_neg c9]at H
       exact absurd H (by simp)
      ·rw[if_neg c8]at H
       have Ov:decide (rD<(dX.length:Int))=false:=decide_eq_false c8
       clear c8
       have H':=ah.mk H
       clear H
       obtain⟨Yo,Yp,Yq,Yr,Jf,Yt,Yu,Yv⟩:=HI0.out
       have oo:=eZ Jf
       have oq:=fP Jf
       clear Jf Yt
       go_wp2
       go_loopg [5] k2 (fun kq v5 w'=>∃ (lW:Int),v5= .int .i64 lW∧ah (aD.l1 kq (dX.length:Int) lW dX bH=some r)∧ah (kq≤k2)∧ah (dK w0 w' g dX bH)∧ah (aI w w' g none)∧ah (Below w0.heap.size w0 w'))
       case atStart=>exact⟨(0),iY,H',⟨Nat.le_refl _⟩,⟨IX HI0⟩,⟨mM HK⟩,⟨Mj HB HI0⟩⟩
       case round=>
        clear H'
        try clear c1
        try clear p1
        try clear q1
        try clear hx1
        try clear c2
        try clear p2
        try clear c3
        try clear c5
        try clear p6
        try clear c7
        try clear c8
        try clear Ov
        try clear c9
        try clear abZ
        try clear p10
        try clear q10
        try clear aqL
        try clear c11
        try clear xw
        try clear xA
        try clear xB
        try clear xC
        try clear oo
        try clear oq
        try clear zV
        try clear zW
        try clear vZ
        try clear wh
        try clear om
        try clear Gp
        try clear p2
        try clear Gq
        obtain⟨lW,rfl,HA,HK3,HI0,HK,HB⟩:=hrel
        cases gk with
        |zero=>exact absurd HA.out (by simp[aD.l1])
        |succ k3=>
         have H:=HA.out
         clear HA
         simp only[aD.l1]at H
         by_cases c15:lW<(bH.length:Int)
         ·rw[if_pos c15]at H
          have Jg:decide (lW<(bH.length:Int))=true:=decide_eq_true c15
          clear c15
          by_cases c16:0≤lW
          ·rw[if_pos c16]at H
           have Jh:decide (0≤lW)=true:=decide_eq_true c16
           clear c16
           obtain⟨t107,adA,H⟩:=Option.bind_eq_some_iff.mp H
           have A17:=ah.mk adA
           clear adA
           by_cases c18:t107=true
           ·subst c18
            rw[if_pos rfl]at H
            obtain⟨adp,adB,H⟩:=Option.bind_eq_some_iff.mp H
            have A19:=ah.mk adB
            clear adB
            by_cases c20:adp=true
            ·subst c20
             rw[if_pos rfl]at H
             obtain⟨t109,adC,H⟩:=Option.bind_eq_some_iff.mp H
             have A21:=ah.mk adC
             clear adC
             by_cases c22:t109=true
             ·subst c22
              rw[if_pos rfl]at H
              have H':=ah.mk H
              clear H
              obtain⟨Yw,Yx,Yy,Yz,Ji,YA,YB,Jj⟩:=HI0.out
              have oK:=eZ Ji
              have oL:=fP Ji
              clear Ji YA
              have vw:0≤(lW:Int):=of_decide_eq_true gN
              have vB:lW<(bH.length:Int):=of_decide_eq_true gN
              obtain⟨Jk,Jl,jv,jw,jy⟩:=kH Jj lW vw vB
              cases Jl
              replace jv:=aV HB.out jv
              replace jw:=aV HB.out jw
              replace jy:=aV HB.out jy
              replace vw:=eq_true vw
              replace vB:=eq_true vB
              go_wp2_with (first|((with_reducible refine aH (N:=6) rfl ?_);(try(refine iq (by rfl) ?_;dsimp only));refine qbx (N:=6) (cs:=#[.int .i64 0,.int .i64 0,.int .i64 0]) (t:=40) ?_;intro gU hg w24 bR hb;replace HB:=ah.mk (av (Mj HB HI0) hb);have iN:=ah.mk (bR);have vC:=ah.mk ((yR HK:w.heap.size≤gU));have vD:=ah.mk ((Nat.le_trans HW0.out (yR HK:w.heap.size≤gU):w0.heap.size≤gU));replace HK:=ah.mk (aI.trans (mM HK) (aI.of_below hb g none) (.inl rfl));have jA:=ah.mk ((adD HI0:g≠gU));have mO:=ah.mk ((adE HI0:gU≠g));replace HI0:=ah.mk (dK.below (IX HI0) hb);clear hb bR hg;have Uj:=mO.out;have Uk:=jA.out;have Eh:w24.cell? ⟨gU,0,none⟩=some (.int .i64 0):=(aj iN.out 0).trans rfl;have Ei:w24.cell? ⟨gU,1,none⟩=some (.int .i64 0):=(aj iN.out 1).trans rfl;have NZ:w24.cell? ⟨gU,2,none⟩=some (.int .i64 0):=(aj iN.out 2).trans rfl;have Ej:=ak iN.out 0;have El:=ak iN.out 1;have Oa:=ak iN.out 2)|((with_reducible refine aK (f:=22) rfl ?_);refine dH (some 61) rfl rfl Tryz.func22 qz9 rfl #[.int .i64 ((au bH lW).f0),.int .i64 0,.int .i64 (wrap64 ((dX.length:Int) - 1))] rfl jh ?_;(with_reducible refine(bM.calls ((au bH lW).f0) 0 (wrap64 ((dX.length:Int) - 1)) true _ A17.out).mono ?_);rintro e w' ⟨rfl,⟨nd,rfl⟩⟩;refine⟨_,rfl,?_⟩)|(go_at_call 22;(with_reducible refine(bM.calls ((au bH lW).f1) 0 (wrap64 ((dX.length:Int) - 1)) true _ A19.out).mono ?_);rintro e w' ⟨rfl,⟨nd,rfl⟩⟩)|(go_at_call 22;(with_reducible refine(bM.calls ((au bH lW).f2) 0 20 true _ A21.out).mono ?_);rintro e w' ⟨rfl,⟨nd,rfl⟩⟩))
              go_roundg k3
              case measure=>have:=HJ1.out;have:=HK2.out;have:=HK3.out;omega
              case rel=>exact⟨(wrap64 (lW+1)),iY,H',⟨by have:=HJ1.out;have:=HK2.out;have:=HK3.out;omega⟩,⟨Ul HI0 jA⟩,⟨uP HK vC⟩,⟨Wn HB HI0 vD⟩⟩
             replace c22:=Bool.eq_false_iff.mpr c22
             subst c22
             rw[if_neg (show ¬(false=true) by decide)]at H
             obtain rfl:=Option.some.inj H
             obtain⟨YC,YD,YE,YF,Jm,YG,YH,Jo⟩:=HI0.out
             have Ey:=eZ Jm
             have Ez:=fP Jm
             clear Jm YG
             have vw:0≤(lW:Int):=of_decide_eq_true gN
             have vB:lW<(bH.length:Int):=of_decide_eq_true gN
             obtain⟨Jk,Jl,jv,jw,jy⟩:=kH Jo lW vw vB
             cases Jl
             replace jv:=aV HB.out jv
             replace jw:=aV HB.out jw
             replace jy:=aV HB.out jy
             replace vw:=eq_true vw
             replace vB:=eq_true vB
             go_wp2_with (first|((with_reducible refine aH (N:=6) rfl ?_);(try(refine iq (by rfl) ?_;dsimp only));refine qbx (N:=6) (cs:=#[.int .i64 0,.int .i64 0,.int .i64 0]) (t:=40) ?_;intro gU hg w28 bR hb;replace HB:=ah.mk (av (Mj HB HI0) hb);have iN:=ah.mk (bR);have vC:=ah.mk ((yR HK:w.heap.size≤gU));have vD:=ah.mk ((Nat.le_trans HW0.out (yR HK:w.heap.size≤gU):w0.heap.size≤gU));replace HK:=ah.mk (aI.trans (mM HK) (aI.of_below hb g none) (.inl rfl));have jA:=ah.mk ((adD HI0:g≠gU));have mO:=ah.mk ((adE HI0:gU≠g));replace HI0:=ah.mk (dK.below (IX HI0) hb);clear hb bR hg;have ac8:=mO.out;have ac9:=jA.out;have Ob:w28.cell? ⟨gU,0,none⟩=some (.int .i64 0):=(aj iN.out 0).trans rfl;have Oc:w28.cell? ⟨gU,1,none⟩=some (.int .i64 0):=(aj iN.out 1).trans rfl;have Od:w28.cell? ⟨gU,2,none⟩=some (.int .i64 0):=(aj iN.out 2).trans rfl;have Oe:=ak iN.out 0;have Og:=ak iN.out 1;have Oh:=ak iN.out 2)|((with_reducible refine aK (f:=22) rfl ?_);refine dH (some 61) rfl rfl Tryz.func22 qz9 rfl #[.int .i64 ((au bH lW).f0),.int .i64 0,.int .i64 (wrap64 ((dX.length:Int) - 1))] rfl jh ?_;(with_reducible refine(bM.calls ((au bH lW).f0) 0 (wrap64 ((dX.length:Int) - 1)) true _ A17.out).mono ?_);rintro e w' ⟨rfl,⟨nd,rfl⟩⟩;refine⟨_,rfl,?_⟩)|(go_at_call 22;(with_reducible refine(bM.calls ((au bH lW).f1) 0 (wrap64 ((dX.length:Int) - 1)) true _ A19.out).mono ?_);rintro e w' ⟨rfl,⟨nd,rfl⟩⟩)|(go_at_call 22;(with_reducible refine(bM.calls ((au bH lW).f2) 0 20 false _ A21.out).mono ?_);rintro e w' ⟨rfl,⟨nd,rfl⟩⟩))
             go_ret
             exact⟨qz7,Ul HI0 jA,Wn HB HI0 vD,uP HK vC⟩
            replace c20:=Bool.eq_false_iff.mpr c20
            subst c20
            rw[if_neg (show ¬(false=true) by decide)]at H
            obtain rfl:=Option.some.inj H
            obtain⟨YI,YJ,YK,YL,Jp,YM,YN,Jq⟩:=HI0.out
            have EA:=eZ Jp
            have EB:=fP Jp
            clear Jp YM
            have vw:0≤(lW:Int):=of_decide_eq_true gN
            have vB:lW<(bH.length:Int):=of_decide_eq_true gN
            obtain⟨Jk,Jl,jv,jw,jy⟩:=kH Jq lW vw vB
            cases Jl
            replace jv:=aV HB.out jv
            replace jw:=aV HB.out jw
            replace jy:=aV HB.out jy
            replace vw:=eq_true vw
            replace vB:=eq_true vB
            go_wp2_with (first|((with_reducible refine aH (N:=6) rfl ?_);(try(refine iq (by rfl) ?_;dsimp only));refine qbx (N:=6) (cs:=#[.int .i64 0,.int .i64 0,.int .i64 0]) (t:=40) ?_;intro gU hg w32 bR hb;replace HB:=ah.mk (av (Mj HB HI0) hb);have iN:=ah.mk (bR);have vC:=ah.mk ((yR HK:w.heap.size≤gU));have vD:=ah.mk ((Nat.le_trans HW0.out (yR HK:w.heap.size≤gU):w0.heap.size≤gU));replace HK:=ah.mk (aI.trans (mM HK) (aI.of_below hb g none) (.inl rfl));have jA:=ah.mk ((adD HI0:g≠gU));have mO:=ah.mk ((adE HI0:gU≠g));replace HI0:=ah.mk (dK.below (IX HI0) hb);clear hb bR hg;have adF:=mO.out;have adG:=jA.out;have YO:w32.cell? ⟨gU,0,none⟩=some (.int .i64 0):=(aj iN.out 0).trans rfl;have YP:w32.cell? ⟨gU,1,none⟩=some (.int .i64 0):=(aj iN.out 1).trans rfl;have YQ:w32.cell? ⟨gU,2,none⟩=some (.int .i64 0):=(aj iN.out 2).trans rfl;have YR:=ak iN.out 0;have YS:=ak iN.out 1;have YT:=ak iN.out 2)|((with_reducible refine aK (f:=22) rfl ?_);refine dH (some 61) rfl rfl Tryz.func22 qz9 rfl #[.int .i64 ((au bH lW).f0),.int .i64 0,.int .i64 (wrap64 ((dX.length:Int) - 1))] rfl jh ?_;(with_reducible refine(bM.calls ((au bH lW).f0) 0 (wrap64 ((dX.length:Int) - 1)) true _ A17.out).mono ?_);rintro e w' ⟨rfl,⟨nd,rfl⟩⟩;refine⟨_,rfl,?_⟩)|(go_at_call 22;(with_reducible refine(bM.calls ((au bH lW).f1) 0 (wrap64 ((dX.length:Int) - 1)) false _ A19.out).mono ?_);rintro e w' ⟨rfl,⟨nd,rfl⟩⟩))
            go_ret
            exact⟨qz7,Ul HI0 jA,Wn HB HI0 vD,uP HK vC⟩
           replace c18:=Bool.eq_false_iff.mpr c18
           subst c18
           rw[if_neg (show ¬(false=true) by decide)]at H
           obtain rfl:=Option.some.inj H
           obtain⟨YU,YV,YW,YX,Jr,YZ,Za,Js⟩:=HI0.out
           have sV:=eZ Jr
           have sW:=fP Jr
           clear Jr YZ
           have vw:0≤(lW:Int):=of_decide_eq_true gN
           have vB:lW<(bH.length:Int):=of_decide_eq_true gN
           obtain⟨Jk,Jl,jv,jw,jy⟩:=kH Js lW vw vB
           cases Jl
           replace jv:=aV HB.out jv
           replace jw:=aV HB.out jw
           replace jy:=aV HB.out jy
           replace vw:=eq_true vw
           replace vB:=eq_true vB
           go_wp2_with (first|((with_reducible refine aH (N:=6) rfl ?_);(try(refine iq (by rfl) ?_;dsimp only));refine qbx (N:=6) (cs:=#[.int .i64 0,.int .i64 0,.int .i64 0]) (t:=40) ?_;intro gU hg w36 bR hb;replace HB:=ah.mk (av (Mj HB HI0) hb);have iN:=ah.mk (bR);have vC:=ah.mk ((yR HK:w.heap.size≤gU));have vD:=ah.mk ((Nat.le_trans HW0.out (yR HK:w.heap.size≤gU):w0.heap.size≤gU));replace HK:=ah.mk (aI.trans (mM HK) (aI.of_below hb g none) (.inl rfl));have jA:=ah.mk ((adD HI0:g≠gU));have mO:=ah.mk ((adE HI0:gU≠g));replace HI0:=ah.mk (dK.below (IX HI0) hb);clear hb bR hg;have adH:=mO.out;have adI:=jA.out;have EC:w36.cell? ⟨gU,0,none⟩=some (.int .i64 0):=(aj iN.out 0).trans rfl;have ED:w36.cell? ⟨gU,1,none⟩=some (.int .i64 0):=(aj iN.out 1).trans rfl;have Zb:w36.cell? ⟨gU,2,none⟩=some (.int .i64 0):=(aj iN.out 2).trans rfl;have EF:=ak iN.out 0;have EG:=ak iN.out 1;have Zc:=ak iN.out 2)|((with_reducible refine aK (f:=22) rfl ?_);refine dH (some 61) rfl rfl Tryz.func22 qz9 rfl #[.int .i64 ((au bH lW).f0),.int .i64 0,.int .i64 (wrap64 ((dX.length:Int) - 1))] rfl jh ?_;(with_reducible refine(bM.calls ((au bH lW).f0) 0 (wrap64 ((dX.length:Int) - 1)) false _ A17.out).mono ?_);rintro e w' ⟨rfl,⟨nd,rfl⟩⟩;refine⟨_,rfl,?_⟩))
           go_ret
           exact⟨qz7,Ul HI0 jA,Wn HB HI0 vD,uP HK vC⟩
          rw[if_neg c16]at H
          exact absurd H (by simp)
         ·rw[if_neg c15]at H
          have Jg:decide (lW<(bH.length:Int))=false:=decide_eq_false c15
          clear c15
          obtain rfl:=Option.some.inj H
          obtain⟨Zd,Ze,Zf,Zg,Jt,Zh,Zi,Zj⟩:=HI0.out
          have Ju:=eZ Jt
          have Jv:=fP Jt
          clear Jt Zh
          go_wp2
          go_ret
          exact⟨qz7,IX HI0,Mj HB HI0,mM HK⟩
end Go.Proofs.YtalkmhnlgfncmaaGreatDoor.X
end
section
namespace Go.Proofs.YtalkmhnlgfncmaaGreatDoor.X
open Go.RowKit Go.Proofs.YtalkmhnlgfncmaaGreatDoorW.aC Go.Proofs.YtalkmhnlgfncmaaGreatDoorW.aN Go.Proofs.YtalkmhnlgfncmaaGreatDoorW.aT
attribute [local go_sem] fq fu gJ gK dN dO fA fB
/-! ### spec_l08Open: function 40 -/
mutual
def aQ.l0:Nat→Int→List Int→List Int→Int→List Int→List (S40)→Option (Bool)
 |0,_,_,_,_,_,_=>none
 |k+1,x1,x5,x6,x7,x1000,jJ=>if x7<(x6.length:Int)then(aQ.l1 k x1 x5 x6 x7 0 x1000 jJ)else(some false)
def aQ.l1:Nat→Int→List Int→List Int→Int→Int→List Int→List (S40)→Option (Bool)
 |0,_,_,_,_,_,_,_=>none
 |k+1,x1,x5,x6,x7,x8,x1000,jJ=>if x8<(jJ.length:Int)then(if 0≤x8 then(if 0≤x7 then(if x7<(x6.length:Int)then(if ((au jJ x8).f0)=(rd x6 x7)then(aQ.j2 k x1 x5 x6 x7 x8 (decide (((au jJ x8).f2)>0)) x1000 jJ ((au jJ x8).f0) ((au jJ x8).f1) ((au jJ x8).f2))else(aQ.j2 k x1 x5 x6 x7 x8 true x1000 jJ ((au jJ x8).f0) ((au jJ x8).f1) ((au jJ x8).f2)))else(none))else(none))else(none))else(aQ.l0 k x1 x5 x6 (wrap64 (x7+1)) x1000 jJ)
def aQ.j2:Nat→Int→List Int→List Int→Int→Int→Bool→List Int→List (S40)→Int→Int→Int→Option (Bool)
 |0,_,_,_,_,_,_,_,_,_,_,_=>none
 |k+1,x1,x5,x6,x7,x8,x46,x1000,jJ,aiB,EH,aiC=>if x46=true then(aQ.l1 k x1 x5 x6 x7 (wrap64 (x8+1)) x1000 jJ)else(if EH=x1 then(some true)else((bY.f k x5 EH).bind fun t143=>(if t143=true then(aQ.l1 k x1 x5 x6 x7 (wrap64 (x8+1)) x1000 jJ)else((bq.f k x5 EH).bind fun Zk=>(if x6.length<17592186044416 then(aQ.l1 k x1 Zk (x6++[EH]) x7 (wrap64 (x8+1)) x1000 jJ)else(none))))))
end
def aQ.f (k:Nat) (dX:List Int) (bH:List (S40)) (a1:Int):Option (Bool):=aQ.l0 k a1 (([]:List Int)) (([a1]:List Int)) 0 dX bH
theorem aQ.mY:∀ k,(∀ y0 y1 y2 y3 y4 y5,LeO (aQ.l0 k y0 y1 y2 y3 y4 y5) (aQ.l0 (k+1) y0 y1 y2 y3 y4 y5))∧(∀ y0 y1 y2 y3 y4 y5 y6,LeO (aQ.l1 k y0 y1 y2 y3 y4 y5 y6) (aQ.l1 (k+1) y0 y1 y2 y3 y4 y5 y6))∧(∀ y0 y1 y2 y3 y4 y5 y6 y7 y8 y9 y10,LeO (aQ.j2 k y0 y1 y2 y3 y4 y5 y6 y7 y8 y9 y10) (aQ.j2 (k+1) y0 y1 y2 y3 y4 y5 y6 y7 y8 y9 y10))
 |0=>⟨fun _ _ _ _ _ _ r h=>by simp[aQ.l0]at h,fun _ _ _ _ _ _ _ r h=>by simp[aQ.l1]at h,fun _ _ _ _ _ _ _ _ _ _ _ r h=>by simp[aQ.j2]at h⟩
 |k+1=>by
  obtain⟨ih0,ih1,ih2⟩:=aQ.mY k
  refine⟨?_,?_,?_⟩
  ·intro y0 y1 y2 y3 y4 y5
   unfold aQ.l0
   repeat' first
   |(with_reducible exact ih0 _ _ _ _ _ _)
   |(with_reducible exact ih1 _ _ _ _ _ _ _)
   |(with_reducible exact ih2 _ _ _ _ _ _ _ _ _ _ _)
   |(with_reducible exact bY.mono _ _ _)
   |(with_reducible exact bq.mono _ _ _)
   |(with_reducible exact LeO.refl _)
   |(with_reducible exact LeO.none _)
   |(with_reducible refine LeO.ite ?_ ?_)
   |(with_reducible refine LeO.bind ?_ (fun _=>?_))
   |exact ih0 _ _ _ _ _ _
   |exact ih1 _ _ _ _ _ _ _
   |exact ih2 _ _ _ _ _ _ _ _ _ _ _
   |exact bY.mono _ _ _
   |exact bq.mono _ _ _
   |exact LeO.none _
   |refine LeO.ite ?_ ?_
   |refine LeO.bind ?_ (fun _=>?_)
  ·intro y0 y1 y2 y3 y4 y5 y6
   unfold aQ.l1
   repeat' first
   |(with_reducible exact ih0 _ _ _ _ _ _)
   |(with_reducible exact ih1 _ _ _ _ _ _ _)
   |(with_reducible exact ih2 _ _ _ _ _ _ _ _ _ _ _)
   |(with_reducible exact bY.mono _ _ _)
   |(with_reducible exact bq.mono _ _ _)
   |(with_reducible exact LeO.refl _)
   |(with_reducible exact LeO.none _)
   |(with_reducible refine LeO.ite ?_ ?_)
   |(with_reducible refine LeO.bind ?_ (fun _=>?_))
   |exact ih0 _ _ _ _ _ _
   |exact ih1 _ _ _ _ _ _ _
   |exact ih2 _ _ _ _ _ _ _ _ _ _ _
   |exact bY.mono _ _ _
   |exact bq.mono _ _ _
   |exact LeO.none _
   |refine LeO.ite ?_ ?_
   |refine LeO.bind ?_ (fun _=>?_)
  ·intro y0 y1 y2 y3 y4 y5 y6 y7 y8 y9 y10
   unfold aQ.j2
   repeat' first
   |(with_reducible exact ih0 _ _ _ _ _ _)
   |(with_reducible exact ih1 _ _ _ _ _ _ _)
   |(with_reducible exact ih2 _ _ _ _ _ _ _ _ _ _ _)
   |(with_reducible exact bY.mono _ _ _)
   |(with_reducible exact bq.mono _ _ _)
   |(with_reducible exact LeO.refl _)
   |(with_reducible exact LeO.none _)
   |(with_reducible refine LeO.ite ?_ ?_)
   |(with_reducible refine LeO.bind ?_ (fun _=>?_))
   |exact ih0 _ _ _ _ _ _
   |exact ih1 _ _ _ _ _ _ _
   |exact ih2 _ _ _ _ _ _ _ _ _ _ _
   |exact bY.mono _ _ _
   |exact bq.mono _ _ _
   |exact LeO.none _
   |refine LeO.ite ?_ ?_
   |refine LeO.bind ?_ (fun _=>?_)
theorem aQ.mono:∀ a0 a1 a2 k,LeO (aQ.f k a0 a1 a2) (aQ.f (k+1) a0 a1 a2):=by
 intro a0 a1 a2 k
 obtain⟨ih0,ih1,ih2⟩:=aQ.mY k
 unfold aQ.f
 repeat' first
  |(with_reducible exact ih0 _ _ _ _ _ _)
  |(with_reducible exact ih1 _ _ _ _ _ _ _)
  |(with_reducible exact ih2 _ _ _ _ _ _ _ _ _ _ _)
  |(with_reducible exact bY.mono _ _ _)
  |(with_reducible exact bq.mono _ _ _)
  |(with_reducible exact LeO.refl _)
  |(with_reducible exact LeO.none _)
  |(with_reducible refine LeO.ite ?_ ?_)
  |(with_reducible refine LeO.bind ?_ (fun _=>?_))
  |exact ih0 _ _ _ _ _ _
  |exact ih1 _ _ _ _ _ _ _
  |exact ih2 _ _ _ _ _ _ _ _ _ _ _
  |exact bY.mono _ _ _
  |exact bq.mono _ _ _
  |exact LeO.none _
  |refine LeO.ite ?_ ?_
  |refine LeO.bind ?_ (fun _=>?_)
end Go.Proofs.YtalkmhnlgfncmaaGreatDoor.X
end
section
/- The reference's search for a ring without registers through a vertex. Conditions: as each lemma says. -/
namespace Go.Proofs.YtalkmhnlgfncmaaGreatDoor.X
open Go.RowKit Go.Proofs.YtalkmhnlgfncmaaGreatDoorW.aC Go.Proofs.YtalkmhnlgfncmaaGreatDoorW.aN Go.Proofs.YtalkmhnlgfncmaaGreatDoorW.aT Go.Proofs.YtalkmhnlgfncmaaGreatDoor.iP
/-- The wires' form. -/
def fQ (n:Nat) (w:S40):Prop:=0≤w.f0∧w.f0<n∧0≤w.f1∧w.f1<n∧0≤w.f2∧w.f2≤20
/-- A wire without registers. -/
def Edge (ws:List S40) (a b:Nat):Prop:=∃ w,w∈ws∧w.f2=0∧w.f0=(a:Int)∧w.f1=(b:Int)
theorem Edge.lt {ws:List S40} {n:Nat} (hw:∀ w,w∈ws→fQ n w) {a b:Nat} (h:Edge ws a b):a<n∧b<n:=by
 obtain⟨w,h1,h2,h3,h4⟩:=h
 obtain⟨_,h5,_,h6,_⟩:=hw w h1
 omega
theorem rX (l:List S40) (i:Nat) (h:i<l.length):au l (i:Int)=l[i]:=by
 unfold au;simp[h]
/-- What the search has found. -/
structure Bfs (ws:List S40) (n v:Nat) (seen list:List Int) (i:Nat):Prop where
 all:∀ x,x∈list↔x=(v:Int)∨x∈seen
 rng:∀ x,x∈seen→∃ y:Nat,x=(y:Int)∧y<n∧Plus (Edge ws) v y
 done:∀ (j:Nat) (hj:j<list.length),j<i→∀ w,w∈ws→w.f2=0→w.f0=list[j]→w.f1≠(v:Int)∧w.f1∈seen
 le:i≤list.length
noncomputable def yF (ws:List S40) (v:Nat):Bool:=open Classical in decide (Plus (Edge ws) v v)
theorem Dc {ws:List S40} {v:Nat} (h:Plus (Edge ws) v v):yF ws v=true:=by unfold yF;exact @decide_eq_true _ (Classical.propDecidable _) h
theorem vF {ws:List S40} {v:Nat} (h:¬Plus (Edge ws) v v):yF ws v=false:=by unfold yF;exact @decide_eq_false _ (Classical.propDecidable _) h
noncomputable def unseen (n:Nat) (seen:List Int):Nat:=cnt (fun y=>(y:Int)∉seen) n
theorem OC {ws:List S40} {n v:Nat} {seen list:List Int} (h:Bfs ws n v seen list list.length):¬Plus (Edge ws) v v:=by
 have key:∀ a c,Plus (Edge ws) a c→(a:Int)∈list→(c:Int)≠v∧(c:Int)∈seen:=by
  intro a c hp
  induction hp with
  |one e=>
   intro ha
   obtain⟨w,h1,h2,h3,h4⟩:=e
   obtain⟨j,hj,hje⟩:=List.mem_iff_getElem.mp ha
   have:=h.done j hj hj w h1 h2 (by rw[hje,h3])
   rw[h4]at this
   exact this
  |step e _ ih=>
   intro ha
   obtain⟨w,h1,h2,h3,h4⟩:=e
   obtain⟨j,hj,hje⟩:=List.mem_iff_getElem.mp ha
   have:=h.done j hj hj w h1 h2 (by rw[hje,h3])
   rw[h4]at this
   exact ih ((h.all _).2 (.inr this.2))
 intro hp
 exact(key v v hp ((h.all _).2 (.inl rfl))).1 rfl
/-- The wires of one vertex: those ahead of m are done. -/
theorem adJ (ws:List S40) (d0:List Int) (n v:Nat) (hv:v<n) (hn:n≤8) (hm:ws.length≤16) (hw:∀ w,w∈ws→fQ n w) (i K2 p:Nat) (hK:100<K2)
  (next:∀ (seen list:List Int),Bfs ws n v seen list (i+1)→(unseen n seen+seen.length≤n)→list.length=seen.length+1→list.length - (i+1)+unseen n seen≤p→∀ k,K2<k→aQ.l0 k v seen list ((i:Int)+1) d0 ws=some (yF ws v)):
  ∀ (d m:Nat) (seen list:List Int),m+d=ws.length→Bfs ws n v seen list i→i<list.length→(unseen n seen+seen.length≤n)→list.length=seen.length+1→
   (∀ (j:Nat) (hj:j<ws.length),j<m→ws[j].f2=0→∀ hi:i<list.length,ws[j].f0=list[i]→ws[j].f1≠(v:Int)∧ws[j].f1∈seen)→list.length - (i+1)+unseen n seen≤p→
   ∀ k,K2+2*d+1<k→aQ.l1 k v seen list i m d0 ws=some (yF ws v):=by
 intro d
 induction d with
 |zero=>
  intro m seen list hmd hb hi hu hll hp hpp k hk
  cases k with
  |zero=>omega
  |succ k=>
   rw[aQ.l1,if_neg (by omega),w64 (by omega) (by omega)]
   refine next seen list ⟨hb.all,hb.rng,fun j hj hji w hws h2 h3=>?_,by omega⟩ hu hll hpp k (by omega)
   by_cases e:j=i
   ·subst e
    obtain⟨q,hq,hqe⟩:=List.mem_iff_getElem.mp hws
    have:=hp q hq (by omega) (by rw[hqe];exact h2) hj (by rw[hqe];exact h3)
    rw[hqe]at this
    exact this
   ·exact hb.done j hj (by omega) w hws h2 h3
 |succ d ih=>
  intro m seen list hmd hb hi hu hll hp hpp k hk
  have hlt:m<ws.length:=by omega
  obtain⟨w,hwe⟩:∃ w,w=ws[m]:=⟨_,rfl⟩
  have hwm:w∈ws:=hwe ▸ List.getElem_mem hlt
  obtain⟨o1,o2,o3,o4,o5,o6⟩:=hw w hwm
  cases k with
  |zero=>omega
  |succ k=>
  cases k with
  |zero=>omega
  |succ k=>
   rw[aQ.l1,if_pos (by omega),if_pos (by omega),if_pos (by omega),if_pos (by omega),rX ws m hlt, ← hwe,Cz list i hi]
   have skip:¬(w.f2=0∧w.f0=list[i])→aQ.l1 k v seen list i ((m:Int)+1) d0 ws=some (yF ws v):=by
    intro hns
    have:=ih (m+1) seen list (by omega) hb hi hu hll (fun j hj hjm h2 hi' h3=>by
     by_cases e:j=m
     ·subst e
      rw[← hwe]at h2 h3 ⊢
      exact absurd ⟨h2,h3⟩ hns
     exact hp j hj (by omega) h2 hi' h3) hpp k (by omega)
    rw[Int.natCast_add,Int.natCast_one]at this
    exact this
   have hwr:ah (wrap64 ((m:Int)+1)=(m:Int)+1):=⟨w64 (by omega) (by omega)⟩
   by_cases e1:w.f0=list[i]
   ·rw[if_pos e1]
    by_cases e2:w.f2>0
    ·rw[decide_eq_true e2,aQ.j2,if_pos rfl,hwr.out]
     exact skip (fun h=>by omega)
    rw[decide_eq_false e2,aQ.j2,if_neg (by decide)]
    have e2':w.f2=0:=by omega
    obtain⟨a,ha⟩:=Int.eq_ofNat_of_zero_le o1
    obtain⟨b,hb'⟩:=Int.eq_ofNat_of_zero_le o3
    have hE:Edge ws a b:=⟨w,hwm,e2',ha,hb'⟩
    have adK:a=v∨Plus (Edge ws) v a:=by
     have hmem:list[i]∈list:=List.getElem_mem hi
     rcases(hb.all _).1 hmem with h|h
     ·left;omega
     obtain⟨y,hy,_,hp⟩:=hb.rng _ h
     right
     have:a=y:=by omega
     rw[this];exact hp
    have hpb:Plus (Edge ws) v b:=by
     rcases adK with h|h
     ·subst h;exact .one hE
     exact h.snoc hE
    by_cases e3:w.f1=(v:Int)
    ·rw[if_pos e3]
     have:b=v:=by omega
     subst this
     rw[Dc hpb]
    rw[if_neg e3,has_eq seen w.f1 (by omega) k (by omega),Option.bind_some]
    by_cases e4:w.f1∈seen
    ·rw[decide_eq_true e4,if_pos rfl,hwr.out]
     have:=ih (m+1) seen list (by omega) hb hi hu hll (fun j hj hjm h2 hi' h3=>by
      by_cases e:j=m
      ·subst e
       rw[← hwe]
       exact⟨e3,e4⟩
      exact hp j hj (by omega) h2 hi' h3) hpp k (by omega)
     rw[Int.natCast_add,Int.natCast_one]at this
     exact this
    obtain⟨seen',hs1,hs2,hs3⟩:=put_eq seen w.f1 e4 (by omega) k (by omega)
    rw[decide_eq_false e4,if_neg (by decide),hs1,Option.bind_some,if_pos (by omega),hwr.out]
    have hul:unseen n seen'<unseen n seen:=by
     refine cnt_lt n (fun y _ hy hys=>hy ((hs3 _).2 (.inl hys))) b (by omega) (by rw[← hb'];exact e4) ?_
     intro h;exact h ((hs3 _).2 (.inr hb'.symm))
    have hget:∀ (j:Nat) (hj:j<list.length) (hj':j<(list++[w.f1]).length),(list++[w.f1])[j]=list[j]:=fun j hj hj'=>List.getElem_append_left hj
    have:=ih (m+1) seen' (list++[w.f1]) (by omega)
     ⟨fun x=>by rw[List.mem_append,hb.all,hs3,List.mem_singleton,or_assoc],fun x hx=>by
       rcases(hs3 x).1 hx with h|h
       ·exact hb.rng x h
       ·exact⟨b,by omega,by omega,hpb⟩,
      fun j hj hji w' hws h2 h3=>by
       have hjl:j<list.length:=by omega
       rw[hget j hjl hj]at h3
       have:=hb.done j hjl hji w' hws h2 h3
       exact⟨this.1,(hs3 _).2 (.inl this.2)⟩,zT⟩
     zT (by omega) zT
     (fun j hj hjm h2 hi' h3=>by
      rw[hget i hi hi']at h3
      by_cases e:j=m
      ·subst e
       rw[← hwe]
       exact⟨e3,(hs3 _).2 (.inr rfl)⟩
      have:=hp j hj (by omega) h2 hi h3
      exact⟨this.1,(hs3 _).2 (.inl this.2)⟩) zT k (by omega)
    rw[Int.natCast_add,Int.natCast_one]at this
    exact this
   ·rw[if_neg e1,aQ.j2,if_pos rfl,hwr.out]
    exact skip (fun h=>e1 h.2)
theorem OD (n:Nat) (seen:List Int):unseen n seen≤n:=VQ _ _
theorem Zl (ws:List S40) (d0:List Int) (n v:Nat) (hv:v<n) (hn:n≤8) (hm:ws.length≤16) (hw:∀ w,w∈ws→fQ n w):
  ∀ (p i:Nat) (seen list:List Int),list.length - i+unseen n seen≤p→Bfs ws n v seen list i→(unseen n seen+seen.length≤n)→list.length=seen.length+1→
   ∀ k,200+50*p<k→aQ.l0 k v seen list i d0 ws=some (yF ws v):=by
 intro p
 induction p with
 |zero=>
  intro i seen list hp hb hu hll k hk
  cases k with
  |zero=>omega
  |succ k=>
   have hle:=hb.le
   rw[aQ.l0,if_neg (by omega)]
   have e:i=list.length:=by omega
   subst e
   rw[vF (OC hb)]
 |succ p ih=>
  intro i seen list hp hb hu hll k hk
  cases k with
  |zero=>omega
  |succ k=>
   have hle:=hb.le
   rw[aQ.l0]
   by_cases hi:i<list.length
   ·rw[if_pos (by omega)]
    exact adJ ws d0 n v hv hn hm hw i (200+50*p) p (by omega) (fun seen' list' hb' hu' aqM hpp k' hk'=>by
     have:=ih (i+1) seen' list' (by omega) hb' hu' aqM k' (by omega)
     rw[Int.natCast_add,Int.natCast_one]at this
     exact this) ws.length 0 seen list (by omega) hb hi hu hll (fun j hj hjm=>by omega) (by omega) k (by omega)
   ·rw[if_neg (by omega)]
    have e:i=list.length:=by omega
    subst e
    rw[vF (OC hb)]
theorem Zm (ws:List S40) (d0:List Int) (n v:Nat) (hv:v<n) (hn:n≤8) (hm:ws.length≤16) (hw:∀ w,w∈ws→fQ n w) (k:Nat) (hk:1000<k):aQ.f k d0 ws v=some (yF ws v):=by
 unfold aQ.f
 have hu:=OD n []
 exact Zl ws d0 n v hv hn hm hw (1+n) 0 [] [(v:Int)] zT ⟨by simp,by simp,fun j hj hji=>by omega,by simp⟩ zT rfl k (by omega)
end Go.Proofs.YtalkmhnlgfncmaaGreatDoor.X
end
section
/- The program's table of the fewest registers: it is sound and full. Plain; conditions: as each lemma says. -/
namespace Go.Proofs.YtalkmhnlgfncmaaGreatDoor.jF
open Go.RowKit Go.Proofs.YtalkmhnlgfncmaaGreatDoorW.aC Go.Proofs.YtalkmhnlgfncmaaGreatDoorW.aN Go.Proofs.YtalkmhnlgfncmaaGreatDoorW.aT
open Go.Proofs.YtalkmhnlgfncmaaGreatDoor.X Go.Proofs.YtalkmhnlgfncmaaGreatDoor.iP
set_option linter.unusedSectionVars false
def dl (x:List Int):Nat→Int:=fun v=>x.getD v 0
theorem Um (x:List Int) (i:Int):rd x i=dl x i.toNat:=rfl
/-- The wires. -/
def Wi (ws:List S40) (u v:Nat) (c:Int):Prop:=∃ w,w∈ws∧w.f0=(u:Int)∧w.f1=(v:Int)∧w.f2=c
abbrev Im (E:Nat→Nat→Int→Prop):Nat→Nat→Int→Prop:=fun u v c=>E v u c
/-- What is known of a flow. -/
structure Fl (d:List Int) (ws:List S40) (n:Nat):Prop where
 len:d.length=n
 n1:1≤n
 n8:n≤8
 m16:ws.length≤16
 wok:∀ w,w∈ws→fQ n w
 del:∀ v,0≤dl d v∧dl d v≤100
 ac:∀ v,¬Plus (Go.Proofs.YtalkmhnlgfncmaaGreatDoor.X.Edge ws) v v
variable {d:List Int} {ws:List S40} {n:Nat}
theorem OE {E E':Nat→Nat→Prop} (h:∀ a b,E a b→E' a b) {a b:Nat} (k:Plus E a b):Plus E' a b:=by
 induction k with
 |one e=>exact .one (h _ _ e)
 |step e _ ih=>exact .step (h _ _ e) ih
theorem Un {E:Nat→Nat→Prop} {a b:Nat} (k:Plus (fun u v=>E v u) a b):Plus E b a:=by
 induction k with
 |one e=>exact .one e
 |step e _ ih=>exact ih.snoc e
theorem Fl.net (h:Fl d ws n):Net (Wi ws) (dl d) n where
 n8:=h.n8
 lt:=by
  rintro u v c ⟨w,h1,h2,h3,h4⟩
  have:=h.wok w h1
  unfold fQ at this
  omega
 del:=h.del
 ac:=fun v hv=>h.ac v (OE (fun a b ⟨w,h1,h2,h3,h4⟩=>⟨w,h1,h4,h2,h3⟩) hv)
theorem Fl.aiD (h:Fl d ws n):Net (Im (Wi ws)) (dl d) n where
 n8:=h.n8
 lt:=fun u v c hc=>by have:=h.net.lt _ _ _ hc;omega
 del:=h.del
 ac:=fun v hv=>h.net.ac v (Un hv)
theorem Wi.of {ws:List S40} {n:Nat} {w:S40} (hw:w∈ws) (ho:fQ n w):Wi ws w.f0.toNat w.f1.toNat w.f2:=by
 unfold fQ at ho
 exact⟨w,hw,by omega,by omega,rfl⟩
/-! ### The program -/
abbrev P2:Type:=Nat×Nat
def evW (d:List Int) (n:Nat) (w:S40):List (Ev P2):=Ev.base (w.f0.toNat,w.f1.toNat) w.f2 (dl d w.f0.toNat+dl d w.f1.toNat)::(List.range n).map fun j=>Ev.link (w.f1.toNat,j) (w.f0.toNat,j) w.f2 (dl d w.f0.toNat)
def evI (d:List Int) (n:Nat) (ws:List S40):List (Ev P2):=ws.flatMap (evW d n)
theorem Zn (w:S40):(evW d n w).length=n+1:=by simp[evW]
theorem EI:∀ ws:List S40,(evI d n ws).length=ws.length*(n+1)
 |[]=>by simp[evI]
 |w::ws=>by
  have:=EI ws
  unfold evI at this ⊢
  rw[List.flatMap_cons,List.length_append,this,Zn,List.length_cons,Nat.succ_mul,Nat.add_comm]
def WI (d:List Int) (ws:List S40) (m:Nat) (p:P2) (x:Int):Prop:=T (Im (Wi ws)) (dl d) p.2 m p.1 x
theorem zY {e:Ev P2}:e∈evI d n ws↔∃ w,w∈ws∧(e=Ev.base (w.f0.toNat,w.f1.toNat) w.f2 (dl d w.f0.toNat+dl d w.f1.toNat)∨∃ j,j<n∧e=Ev.link (w.f1.toNat,j) (w.f0.toNat,j) w.f2 (dl d w.f0.toNat)):=by
 unfold evI evW
 simp only[List.mem_flatMap,List.mem_cons,List.mem_map,List.mem_range]
 constructor
 ·rintro⟨w,h1,h2|⟨j,h2,h3⟩⟩
  ·exact⟨w,h1,.inl h2⟩
  exact⟨w,h1,.inr ⟨j,h2,h3.symm⟩⟩
 rintro⟨w,h1,h2|⟨j,h2,h3⟩⟩
 ·exact⟨w,h1,.inl h2⟩
 exact⟨w,h1,.inr ⟨j,h2,h3.symm⟩⟩
theorem T.src {E:Nat→Nat→Int→Prop} {dd:Nat→Int} {a m v:Nat} {x:Int} (hN:Net E dd n) (h:T E dd a m v x):a<n:=by
 induction h with
 |one h=>exact(hN.lt _ _ _ h).1
 |snoc _ _ ih=>exact ih
theorem Fl.CB (h:Fl d ws n):VX (WI d ws) (evI d n ws) n where
 n8:=h.n8
 few:=by
  rw[EI]
  have h1:=h.m16
  have h2:=h.n8
  have:ws.length*(n+1)≤16*9:=Nat.mul_le_mul h1 (by omega)
  omega
 ok:=by
  intro e he
  obtain⟨w,h1,h2|⟨j,hj,h2⟩⟩:=zY.1 he
  ·subst h2
   have:=h.wok w h1
   unfold fQ at this
   have a1:=h.del w.f0.toNat
   have a2:=h.del w.f1.toNat
   unfold Ev.ok
   simp only
   omega
  subst h2
  have:=h.wok w h1
  unfold fQ at this
  have a1:=h.del w.f0.toNat
  unfold Ev.ok
  simp only
  omega
 base:=by
  intro v c e he
  obtain⟨w,h1,h2|⟨j,hj,h2⟩⟩:=zY.1 he
  ·injection h2 with e1 e2 e3
   subst e1 e2 e3
   exact(T.one (E:=Im (Wi ws)) (d:=dl d) (Wi.of h1 (h.wok w h1))).eqv (by omega)
  cases h2
 link:=by
  intro u v c e m x he hw
  obtain⟨w,h1,h2|⟨j,hj,h2⟩⟩:=zY.1 he
  ·cases h2
  injection h2 with e1 e2 e3 e4
  subst e1 e2 e3 e4
  exact T.snoc (E:=Im (Wi ws)) (d:=dl d) hw (Wi.of h1 (h.wok w h1))
 back:=by
  rintro m ⟨i,j⟩ x hw
  cases hw with
  |@snoc _ u _ x' c h1 hE=>
   have hj:j<n:=T.src h.aiD h1
   obtain⟨w,w1,w2,w3,w4⟩:=hE
   refine⟨(u,j),x',c,dl d i,h1,zY.2 ⟨w,w1,.inr ⟨j,hj,?_⟩⟩,rfl⟩
   have e1:w.f1.toNat=u:=by omega
   have e2:w.f0.toNat=i:=by omega
   rw[e1,e2,w4]
 pos:=fun m v x hw=>T.pos hw
 short:=fun m v x hw=>jF.short h.aiD m v.1 x hw
theorem Fl.aiE (h:Fl d ws n) {t:Nat} (h1:1≤t) (ht:t+(evI d n ws).length≤9000) {s:(P2→Bt)×Bool} (hb:∀ u,Bd t (s.1 u)):∀ v x,WI d ws 1 v x→hit ((run (evI d n ws) s).1 v) x:=by
 rintro⟨i,j⟩ x hw
 cases hw with
 |@one _ c hE=>
  obtain⟨w,w1,w2,w3,w4⟩:=hE
  have e1:w.f1.toNat=j:=by simp only at w3;omega
  have e2:w.f0.toNat=i:=by simp only at w2;omega
  have he:Ev.base (i,j) c (dl d i+dl d j)∈evI d n ws:=zY.2 ⟨w,w1,.inl (by rw[e1,e2,w4])⟩
  refine IK (evI d n ws) t s h1 ht h.CB.ok hb _ he _ ⟨rfl,?_⟩
  unfold Ev.cand key
  simp only
  omega
 |snoc h _=>exact absurd (T.pos h) (by omega)
/-! The program's rounds are the events. -/
def U (s:MB):(P2→Bt)×Bool:=(fun p=>s.1 p.1 p.2,s.2)
theorem Wo (s:MB) (i j:Nat) (x:Bt):U (VZ s i j x)=(rlx (U s).1 (i,j) x,(U s).2||btr x ((U s).1 (i,j))):=by
 unfold U VZ
 refine Prod.ext ?_ rfl
 funext p
 obtain⟨a,b⟩:=p
 show TS s.1 i j x a b=rlx (fun p:P2=>s.1 p.1 p.2) (i,j) x (a,b)
 unfold TS rlx pick upd
 by_cases hb:btr x (s.1 i j)=true
 ·simp only[if_pos hb]
  by_cases e:a=i∧b=j
  ·obtain⟨rfl,rfl⟩:=e;simp
  rw[if_neg e,if_neg (by simpa using e)]
 simp only[if_neg hb]
 by_cases e:a=i∧b=j
 ·obtain⟨rfl,rfl⟩:=e;simp
 rw[if_neg (by simpa using e)]
theorem Zo (h:Fl d ws n) {w:S40} (hw:w∈ws) (s:MB):U (VZ s w.f0.toNat w.f1.toNat (yB d w))=step1 (U s) (Ev.base (w.f0.toNat,w.f1.toNat) w.f2 (dl d w.f0.toNat+dl d w.f1.toNat)):=by
 have a1:=h.del w.f0.toNat
 have a2:=h.del w.f1.toNat
 have:yB d w=⟨w.f2,dl d w.f0.toNat+dl d w.f1.toNat,true⟩:=by
  unfold yB
  rw[Um,Um,w64 (by omega) (by omega)]
 rw[Wo,this];rfl
theorem OG (h:Fl d ws n) {w:S40} (hw:w∈ws) {s:MB} {t:Nat} (ht:t≤9000) (hb:∀ u,Bd t ((U s).1 u)) (j:Nat):U (toStep d w s j)=step1 (U s) (Ev.link (w.f1.toNat,j) (w.f0.toNat,j) w.f2 (dl d w.f0.toNat)):=by
 unfold toStep
 have hbb:=hb (w.f1.toNat,j)
 by_cases hf:(s.1 w.f1.toNat j).f=true
 ·have hx:=hbb hf
  have ho:=h.wok w hw
  unfold fQ at ho
  have a1:=h.del w.f0.toNat
  have hx':0≤(s.1 w.f1.toNat j).r∧(s.1 w.f1.toNat j).r≤20*t∧0≤(s.1 w.f1.toNat j).d∧(s.1 w.f1.toNat j).d≤100*t:=hx
  have:yT d w (s.1 w.f1.toNat j)=ext ((U s).1 (w.f1.toNat,j)) w.f2 (dl d w.f0.toNat):=by
   unfold yT ext
   rw[Um,w64 (by omega) (by omega),w64 (by omega) (by omega)]
   show _=(⟨_,_,(s.1 w.f1.toNat j).f⟩:Bt)
   rw[hf];rfl
  rw[if_pos hf,Wo,this];rfl
 have hc:(Ev.cand (U s).1 (Ev.link (w.f1.toNat,j) (w.f0.toNat,j) w.f2 (dl d w.f0.toNat))).f=false:=by
  show (s.1 w.f1.toNat j).f=false
  simpa using hf
 rw[if_neg hf]
 unfold step1
 rw[En (vX hc),vX hc,Bool.or_false]
theorem OH (h:Fl d ws n) {w:S40} (hw:w∈ws):∀ e,e∈evW d n w→e.ok:=fun e he=>h.CB.ok e (List.mem_flatMap.2 ⟨w,hw,he⟩)
theorem OI {N:Type} [DecidableEq N] (a b:List (Ev N)) (s:(N→Bt)×Bool):run (a++b) s=run b (run a s):=List.foldl_append ..
theorem Wp (h:Fl d ws n) {w:S40} (hw:w∈ws) {s:MB} {t:Nat} (h1:1≤t) (ht:t+n≤9000) (hb:∀ u,Bd t ((U s).1 u)):∀ j,j≤n→U (toN d w s j)=run ((List.range j).map fun j=>Ev.link (w.f1.toNat,j) (w.f0.toNat,j) w.f2 (dl d w.f0.toNat)) (U s)
 |0,_=>rfl
 |j+1,hj=>by
  have ih:=Wp h hw h1 ht hb j (by omega)
  rw[List.range_succ,List.map_append,OI, ← ih,toN]
  refine OG h hw (t:=t+j) (by omega) ?_ j
  rw[ih]
  have:=Gi ((List.range j).map fun j=>Ev.link (w.f1.toNat,j) (w.f0.toNat,j) w.f2 (dl d w.f0.toNat)) t (U s) h1 (fun e he=>by
   obtain⟨i,hi,rfl⟩:=List.mem_map.1 he
   refine OH h hw _ (List.mem_cons_of_mem _ (List.mem_map.2 ⟨i,?_,rfl⟩))
   rw[List.mem_range]at hi ⊢;omega) hb
  rwa [List.length_map,List.length_range]at this
theorem Jw (h:Fl d ws n) {w:S40} (hw:w∈ws) {s:MB} {t:Nat} (h1:1≤t) (ht:t+(n+1)≤9000) (hb:∀ u,Bd t ((U s).1 u)):U (vY d n w s)=run (evW d n w) (U s):=by
 unfold vY evW
 have e0:=Zo h hw s
 rw[Wp h hw (t:=t+1) (by omega) (by omega) (by
  rw[e0]
  exact Gi [Ev.base (w.f0.toNat,w.f1.toNat) w.f2 (dl d w.f0.toNat+dl d w.f1.toNat)] t (U s) h1 (fun e he=>by
   rw[List.mem_singleton]at he;subst he
   exact OH h hw _ (List.mem_cons_self ..)) hb) n (Nat.le_refl _),e0]
 rfl
theorem KX (h:Fl d ws n) {s:MB} {t:Nat} (h1:1≤t) (ht:t+ws.length*(n+1)≤9000) (hb:∀ u,Bd t ((U s).1 u)):∀ j,j≤ws.length→U (zR d ws n s j)=run (evI d n (ws.take j)) (U s)
 |0,_=>rfl
 |j+1,hj=>by
  have ih:=KX h h1 ht hb j (by omega)
  have hlt:j<ws.length:=by omega
  have hm:(j+1)*(n+1)≤ws.length*(n+1):=Nat.mul_le_mul_right _ hj
  rw[Nat.succ_mul]at hm
  have hl:(evI d n (ws.take j)).length=j*(n+1):=by rw[EI,List.length_take,Nat.min_eq_left (by omega)]
  rw[zR,rX ws j hlt,Jw h (List.getElem_mem hlt) (t:=t+j*(n+1)) (by omega) (by omega) (by
   rw[ih, ← hl]
   refine Gi _ t (U s) h1 (fun e he=>?_) hb
   obtain⟨w,hw,he⟩:=List.mem_flatMap.1 he
   exact OH h (List.mem_of_mem_take hw) e he),ih,List.take_add_one,List.getElem?_eq_getElem hlt,Option.toList_some]
  unfold evI
  rw[List.flatMap_append,OI,List.flatMap_cons,List.flatMap_nil,List.append_nil]
theorem Gr (h:Fl d ws n) {M:Nat→Nat→Bt} {t:Nat} (h1:1≤t) (ht:t+(evI d n ws).length≤9000) (hb:∀ u,Bd t ((U (M,false)).1 u)):U (rW d ws n M)=run (evI d n ws) (U (M,false)):=by
 unfold rW
 rw[EI]at ht
 rw[KX h h1 ht hb _ (Nat.le_refl _),List.take_length]
theorem Uo (h:Fl d ws n):∀ (e i k:Nat) (M:Nat→Nat→Bt),i+e=n→e+1<k→(∀ u,Bd (2+i*200) ((U (M,false)).1 u))→Sound (WI d ws) (U (M,false)).1→Nil (U (M,false)).1→Prog (WI d ws) i (U (M,false)).1→
  ∃ M',Ot d ws n k M=some M'∧(∀ u,Bd 9000 ((U (M',false)).1 u))∧Sound (WI d ws) (U (M',false)).1∧Nil (U (M',false)).1∧Full (WI d ws) (U (M',false)).1:=by
 intro e
 induction e with
 |zero=>
  intro i k M hi hk hb hs hn hp
  cases k with
  |zero=>omega
  |succ k=>
   have h8:=h.n8
   have aqN:=h.CB.few
   have hi2:i=n:=by omega
   subst hi2
   have ht:2+i*200+(evI d i ws).length≤9000:=by omega
   have hR:=Gr h (t:=2+i*200) (by omega) ht hb
   have hf:=Oo h.CB hp
   rw[Md h.CB (t:=2+i*200) (by omega) (by omega) hb hs hf]at hR
   have e2:(rW d ws i M).2=false:=congrArg Prod.snd hR
   have e1:(rW d ws i M).1=M:=by
    funext a b
    exact congrFun (congrArg Prod.fst hR) (a,b)
   refine⟨M,?_,fun u=>(hb u).up (by omega),hs,hn,hf⟩
   rw[Ot,if_neg (by rw[e2];decide),e1]
 |succ e ih=>
  intro i k M hi hk hb hs hn hp
  cases k with
  |zero=>omega
  |succ k=>
   have h8:=h.n8
   have aqN:=h.CB.few
   have ht:2+i*200+(evI d n ws).length≤9000:=by omega
   have hR:=Gr h (t:=2+i*200) (by omega) ht hb
   have hb2:=Gi (evI d n ws) (2+i*200) (U (M,false)) (by omega) h.CB.ok hb
   have h0:=h.aiE (t:=2+i*200) (by omega) ht hb
   cases hc:(rW d ws n M).2 with
   |true=>
    have eU:(U ((rW d ws n M).1,false)).1=(run (evI d n ws) (U (M,false))).1:=by rw[← hR];rfl
    obtain⟨M',g0,g⟩:=ih (i+1) k (rW d ws n M).1 (by omega) (by omega) (by rw[eU];exact fun u=>(hb2 u).up (by omega)) (by rw[eU];exact Gl h.CB _ _ (fun _ h=>h) hs) (by rw[eU];exact Oq _ _ hn) (by rw[eU];exact Om h.CB (t:=2+i*200) (by omega) ht hb hp h0)
    exact⟨M',by rw[Ot,if_pos hc];exact g0,g⟩
   |false=>
    have e2:(run (evI d n ws) (U (M,false))).2=false:=by rw[← hR];exact hc
    have e3:=(Eo _ _ e2).2.1
    rw[e3]at hR h0
    have e1:(rW d ws n M).1=M:=by
     funext a b
     exact congrFun (congrArg Prod.fst hR) (a,b)
    exact⟨M,by rw[Ot,if_neg (by rw[hc];decide),e1],fun u=>(hb u).up (by omega),hs,hn,Me h.CB (t:=2+i*200) (by omega) (by omega) hb h0 e2⟩
theorem yS (h:Fl d ws n) (k:Nat) (hk:100<k):∃ M',dh.f k d ws=some (kQ n M')∧(∀ u,Bd 9000 ((U (M',false)).1 u))∧Sound (WI d ws) (U (M',false)).1∧Nil (U (M',false)).1∧Full (WI d ws) (U (M',false)).1:=by
 have h8:=h.n8
 have h1:=h.n1
 have hl:=h.len
 have hm:=h.m16
 obtain⟨M',g0,g⟩:=Uo h n 0 k (fun _ _=>zB) (by omega) (by omega) (fun u hf=>absurd hf (by simp[U,zB])) (fun u hf=>absurd hf (by simp[U,zB])) (fun u _=>rfl) (fun m v x hm hw=>absurd (T.pos hw) (by omega))
 refine⟨M',?_,g⟩
 unfold dh.f
 have hin:∀ w∈ws,jg d.length w:=by
  intro w hw
  have ho:=h.wok w hw
  unfold fQ at ho
  unfold jg
  omega
 rw[if_pos ⟨by omega,by omega,by omega,hin⟩,hl,g0]
 rfl
end Go.Proofs.YtalkmhnlgfncmaaGreatDoor.jF
end
section
/- The closure that raises a move. Conditions: as the lemma says. -/
namespace Go.Proofs.YtalkmhnlgfncmaaGreatDoor.X
open Go.RowKit Go.Proofs.YtalkmhnlgfncmaaGreatDoorW.aC Go.Proofs.YtalkmhnlgfncmaaGreatDoorW.aN Go.Proofs.YtalkmhnlgfncmaaGreatDoorW.aT
/-- The moves, and whether one was raised. -/
abbrev MC:Type:=List Int×Bool
def qx (s:MC) (i:Nat) (x:Int):MC:=if rd s.1 (i:Int)<x then(s.1.set i x,true)else s
/-- What the boxes hold. -/
structure MvW (B n:Nat) (w:World) (g8 g9 gm cm:Nat) (s:MC):Prop where
 b8:w.heap[g8]?=some (.cells #[.slice (some ⟨gm,0,none⟩) n cm] 24 (0,0))
 R:Kd.R (Kd.int .i64) 2 w B (fun _=>True) (.slice (some ⟨gm,0,none⟩) n cm) s.1
 b9:w.heap[g9]?=some (.cells #[.bool s.2] 4 (0,0))
 h8:B≤g8
 h9:B≤g9
variable {B n:Nat} {w:World} {g8 g9 gm cm:Nat} {s:MC}
theorem MvW.move (h:MvW B n w g8 g9 gm cm s) {w1:World} (hb:Below w.heap.size w w1):MvW B n w1 g8 g9 gm cm s:=
 ⟨aA h.b8 hb,Kd.aM h.R hb,aA h.b9 hb,h.h8,h.h9⟩
theorem MvW.drew (h:MvW B n w g8 g9 gm cm s):MvW B n w.drew g8 g9 gm cm s:=h.move (bG (Below.refl _ _))
theorem MvW.rng (h:MvW B n w g8 g9 gm cm s):B≤gm∧gm<w.heap.size:=⟨Kd.iJ h.R gm Wq,Kd.qo h.R gm Wq⟩
theorem MvW.typ (h:MvW B n w g8 g9 gm cm s):∃ cells,w.heap[gm]?=some (.cells cells 2 (0,0)):=Kd.lC h.R gm Wq
theorem MvW.len (h:MvW B n w g8 g9 gm cm s):n=s.1.length:=(Kd.dF h.R).1
theorem MvW.c8 (h:MvW B n w g8 g9 gm cm s):w.cell? ⟨g8,0,none⟩=some (.slice (some ⟨gm,0,none⟩) n cm):=(aj h.b8 0).trans rfl
theorem MvW.cel (h:MvW B n w g8 g9 gm cm s) (i:Nat) (hi:i<n):w.cell? ⟨gm,i,none⟩=some (.int .i64 (rd s.1 (i:Int)))∧w.frozen? ⟨gm,i,none⟩=false:=by
 have:=Kd.sK 0 h.R (i:Int) (by omega) (by omega)
 rw[Int.toNat_natCast]at this
 exact this
theorem MvW.put (h:MvW B n w g8 g9 gm cm s) (i:Nat) (x:Int):MvW B n (w.setCell ⟨gm,i,none⟩ (.int .i64 x)) g8 g9 gm cm (s.1.set i x,s.2):=by
 obtain⟨cells,q⟩:=h.typ
 have:=Kd.CW h.R (i:Int) x
 rw[Int.toNat_natCast]at this
 exact⟨dJ h.b8 (p:=⟨gm,i,none⟩) (jq h.b8 q (by decide)) _,this,dJ h.b9 (p:=⟨gm,i,none⟩) (jq h.b9 q (by decide)) _,h.h8,h.h9⟩
theorem MvW.flag (h:MvW B n w g8 g9 gm cm s) (c:Bool):MvW B n (w.setCell ⟨g9,0,none⟩ (.bool c)) g8 g9 gm cm (s.1,c):=
 ⟨dJ h.b8 (p:=⟨g9,0,none⟩) (jq h.b8 h.b9 (by decide)) _,Kd.bS (Kd.bX (p:=⟨g9,0,none⟩) (Kd.cO h.R h.b9 (by decide)) (fun _ hk=>hk.2) _) (fun _ _=>trivial),aW h.b9 0 _ rfl,h.h8,h.h9⟩
/-- A block of another type, written or made. -/
theorem MvW.far (h:MvW B n w g8 g9 gm cm s) {g:Nat} {cs:Array Value} {t:TypeId} (hg:w.heap[g]?=some (.cells cs t (0,0))) (h1:24≠t) (h2:2≠t) (h3:4≠t) (j:Nat) (u:Value):MvW B n (w.setCell ⟨g,j,none⟩ u) g8 g9 gm cm s:=
 ⟨dJ h.b8 (p:=⟨g,j,none⟩) (jq h.b8 hg h1) _,Kd.bS (Kd.bX (p:=⟨g,j,none⟩) (Kd.cO h.R hg (by intro q hq;have:q=2:=(by simpa [Kd.int,Kd.scalar]using hq);subst this;exact h2)) (fun _ hk=>hk.2) _) (fun _ _=>trivial),dJ h.b9 (p:=⟨g,j,none⟩) (jq h.b9 hg h3) _,h.h8,h.h9⟩
def OJ (B n:Nat) (w:World) (g8 g9 gm cm:Nat) (s:MC) (w':World):Prop:=MvW B n w' g8 g9 gm cm s∧Below B w w'∧Kept w w' (fun k=>k=gm∨k=g9)
set_option maxHeartbeats 4000000 in
set_option maxRecDepth 100000 in
theorem KY (i:Nat) (x:Int) (hi:i<n) (hn:n≤1000000) (h:MvW B n w g8 g9 gm cm s):
  Calls Tryz.prog 36 #[.int .i64 (i:Int),.int .i64 x,.pointer (some ⟨g8,0,none⟩),.pointer (some ⟨g9,0,none⟩)] w fun e w'=>e= .returned (.tuple #[])∧OJ B n w g8 g9 gm cm (qx s i x) w':=by
 have HH:=ah.mk h
 have p0:(0≤(i:Int))=True:=eq_true (by omega)
 have p1:((i:Int)<(n:Int))=True:=eq_true (by omega)
 have c8:=h.c8
 obtain⟨cmi,zmi⟩:=h.cel i hi
 clear h
 cases hv:decide (rd s.1 (i:Int)<x)with
 |false=>
  have HV:ah (qx s i x=s):=⟨by unfold qx;rw[if_neg (of_decide_eq_false hv)]⟩
  go_enter Tryz.func36,Tryz.ntmps36
  go_wp2
  (first|(refine bodyPost_end (results_none rfl _ _ _) rfl ?_)|(refine bodyPost_ret (results_none rfl _ _ _) rfl ?_))
  rw[HV.out]
  exact⟨rfl,HH.out,Below.refl _ _,Kept.refl _ _⟩
 |true=>
  have HV:ah (qx s i x=(s.1.set i x,true)):=⟨by unfold qx;rw[if_pos (of_decide_eq_true hv)]⟩
  have HP:=ah.mk (HH.out.put i x)
  have z9:∀ v,(w.setCell ⟨gm,i,none⟩ v).frozen? ⟨g9,0,none⟩=false:=fun v=>by obtain⟨cells,q⟩:=HH.out.typ;exact ak (dJ HH.out.b9 (p:=⟨gm,i,none⟩) (jq HH.out.b9 q (by decide)) v) 0
  have c9:∀ v,(w.setCell ⟨gm,i,none⟩ v).cell? ⟨g9,0,none⟩=some (.bool s.2):=fun v=>by obtain⟨cells,q⟩:=HH.out.typ;exact(aj (dJ HH.out.b9 (p:=⟨gm,i,none⟩) (jq HH.out.b9 q (by decide)) v) 0).trans rfl
  have HF:=ah.mk (HP.out.flag true)
  go_enter Tryz.func36,Tryz.ntmps36
  go_wp2
  (first|(refine bodyPost_end (results_none rfl _ _ _) rfl ?_)|(refine bodyPost_ret (results_none rfl _ _ _) rfl ?_))
  rw[HV.out]
  have hr:=HH.out.rng
  exact⟨rfl,HF.out,((Below.refl _ _).setCell (p:=⟨gm,i,none⟩) hr.1 _).setCell (p:=⟨g9,0,none⟩) HH.out.h9 _,Kept.setCell (p:=⟨g9,0,none⟩) (Kept.setCell (p:=⟨gm,i,none⟩) (Kept.refl _ _) (.inl (.inl rfl)) _) (.inl (.inr rfl)) _⟩
end Go.Proofs.YtalkmhnlgfncmaaGreatDoor.X
end
