/- My own texts of this seat and its words, merged: Xp3. Conditions: as each lemma says. -/
import Derived.Test.YtalkmhnlgfncmaaGreatDoorI30
import Derived.Test.YtalkmhnlgfncmaaGreatDoorI21
import Derived.Test.YtalkmhnlgfncmaaGreatDoorI33
import Derived.Test.YtalkmhnlgfncmaaGreatDoorI23
import Derived.Test.YtalkmhnlgfncmaaGreatDoorI24
import Derived.Test.YtalkmhnlgfncmaaGreatDoorI28
import Derived.Test.YtalkmhnlgfncmaaGreatDoorI29
import Derived.Test.YtalkmhnlgfncmaaGreatDoorI32
import Derived.Test.YtalkmhnlgfncmaaGreatDoorXSlim
set_option linter.unusedVariables false
set_option linter.unusedSimpArgs false
section
namespace Go.Proofs.YtalkmhnlgfncmaaGreatDoor.X
open Go.RowKit Go.Proofs.YtalkmhnlgfncmaaGreatDoorW.aC Go.Proofs.YtalkmhnlgfncmaaGreatDoorW.aN Go.Proofs.YtalkmhnlgfncmaaGreatDoorW.aT
attribute [local go_sem] fq fu gJ gK dN dO fA fB
attribute [local go_sem high] amA
/-! ### laws_FnMoved: function 3 -/
mutual
def ay.j0:Nat→List Int→Int→List Int→Bool→Bool→List Int→List (S40)→Option (Bool)
 |0,_,_,_,_,_,_,_=>none
 |k+1,x1,x6,x7,x8,x61,jf,gW=>if x61=true then(some false)else((bE.f k jf gW).bind fun afI=>((bQ.f k afI.1).bind fun aa8=>(if afI.2=true then(if aa8.2.2=true then(if (aa8.1.length:Int)=(jf.length:Int)then(ay.j1 k x1 x6 x7 x8 ((aa8.2.1.length:Int)!=(gW.length:Int)) jf gW)else(ay.j1 k x1 x6 x7 x8 true jf gW))else(ay.j1 k x1 x6 x7 x8 true jf gW))else(ay.j1 k x1 x6 x7 x8 true jf gW))))
def ay.j1:Nat→List Int→Int→List Int→Bool→Bool→List Int→List (S40)→Option (Bool)
 |0,_,_,_,_,_,_,_=>none
 |k+1,x1,x6,x7,x8,x95,jf,gW=>if x95=true then(some false)else(if x8=true then((jd.f k jf gW x7).bind fun yK=>(if yK.2.2=true then((iE.f k jf gW x7).bind fun amB=>(if amB=true then((aX.f k yK.1 yK.2.1).bind fun amC=>(if amC=true then(ay.j2 k x1 x6 x7 ((yK.2.1.length:Int)!=(gW.length:Int)) jf gW yK.1 yK.2.1)else(ay.j2 k x1 x6 x7 true jf gW yK.1 yK.2.1)))else(ay.j2 k x1 x6 x7 true jf gW yK.1 yK.2.1)))else(ay.j2 k x1 x6 x7 true jf gW yK.1 yK.2.1)))else(some true))
def ay.j2:Nat→List Int→Int→List Int→Bool→List Int→List (S40)→List Int→List (S40)→Option (Bool)
 |0,_,_,_,_,_,_,_,_=>none
 |k+1,x1,x6,x7,atl,jf,gW,mW,jC=>if atl=true then(some false)else(ay.l0 k x1 x6 x7 0 jf gW mW jC)
def ay.l0:Nat→List Int→Int→List Int→Int→List Int→List (S40)→List Int→List (S40)→Option (Bool)
 |0,_,_,_,_,_,_,_,_=>none
 |k+1,x1,x6,x7,x17,jf,gW,mW,jC=>if x17<(gW.length:Int)then(if 0≤x17 then(if x17<(jC.length:Int)then(if 0≤((au gW x17).f1)then(if ((au gW x17).f1)<(x7.length:Int)then(if 0≤((au gW x17).f0)then(if ((au gW x17).f0)<(x7.length:Int)then(if (!(((au jC x17).f0)==((au gW x17).f0))||(!(((au jC x17).f1)==((au gW x17).f1))||(!(((au jC x17).f2)==(wrap64 ((wrap64 (((au gW x17).f2)+(rd x7 ((au gW x17).f1)))) - (rd x7 ((au gW x17).f0))))))))=true then(some false)else(ay.l0 k x1 x6 x7 (wrap64 (x17+1)) jf gW mW jC))else(none))else(none))else(none))else(none))else(none))else(none))else((jB.f x1 1 x6).bind fun yL=>((jB.f x1 2 x6).bind fun yM=>((eX.f k jf gW yL yM).bind fun Vu=>((eX.f k mW jC yL yM).bind fun aa9=>(if (Vu.2.2 !=aa9.2.2)=true then(ay.j4 k x7 true jf gW mW jC)else(if Vu.2.2=true then(if 0≤yM then(if yM<(x7.length:Int)then(if 0≤yL then(if yL<(x7.length:Int)then(if aa9.1=(wrap64 ((wrap64 (Vu.1+(rd x7 yM))) - (rd x7 yL)))then(ay.j4 k x7 (Vu.2.1 !=aa9.2.1) jf gW mW jC)else(ay.j4 k x7 true jf gW mW jC))else(none))else(none))else(none))else(none))else(ay.j4 k x7 false jf gW mW jC)))))))
def ay.j4:Nat→List Int→Bool→List Int→List (S40)→List Int→List (S40)→Option (Bool)
 |0,_,_,_,_,_,_=>none
 |k+1,x7,atm,jf,gW,mW,jC=>if atm=true then(some false)else((dL.f k x7 (-1)).bind fun afJ=>((jd.f k jf gW afJ.1).bind fun Sj=>(if afJ.2=true then(ay.j5 k (!Sj.2.2) mW jC Sj.1 Sj.2.1)else(ay.j5 k true mW jC Sj.1 Sj.2.1))))
def ay.j5:Nat→Bool→List Int→List (S40)→List Int→List (S40)→Option (Bool)
 |0,_,_,_,_,_=>none
 |k+1,atn,mW,jC,KH,vL=>if atn=true then(some false)else(ay.l1 k 0 mW jC KH vL)
def ay.l1:Nat→Int→List Int→List (S40)→List Int→List (S40)→Option (Bool)
 |0,_,_,_,_,_=>none
 |k+1,x31,mW,jC,KH,vL=>if x31<(vL.length:Int)then(if 0≤x31 then(if x31<(jC.length:Int)then(if (!(((au vL x31).f0)==((au jC x31).f0))||(!(((au vL x31).f1)==((au jC x31).f1))||(!(((au vL x31).f2)==((au jC x31).f2)))))=true then(some false)else(ay.l1 k (wrap64 (x31+1)) mW jC KH vL))else(none))else(none))else(some true)
end
def ay.f (k:Nat) (l0:List Int) (l1:List Int):Option (Bool):=(lN.f l0 l1).bind fun UZ=>(if UZ=true then(some true)else((mV.f k l0).bind fun oV=>((jB.f l1 0 40).bind fun abb=>((bP.f k oV.1 oV.2 abb).bind fun BJ=>((jB.f l1 0 40).bind fun abd=>((jN.f k oV.1 oV.2 abd).bind fun abe=>(if (BJ.2 !=abe.2)=true then(ay.j0 k l1 (oV.1.length:Int) BJ.1 BJ.2 true oV.1 oV.2)else((aX.f k oV.1 oV.2).bind fun acr=>(ay.j0 k l1 (oV.1.length:Int) BJ.1 BJ.2 (!acr) oV.1 oV.2)))))))))
def ay.T5:Bool×List (List Nat×List Nat):=(true,[([],[]),([],[]),([1],[1]),([0,2,2],[0,2]),([3],[3]),([4],[4]),([4],[4]),([5,3,0,1,2,3,4,5],[5]),([6,7,0,1,2,3,4,5,6,7],[6])])
def ay.B5:List Nat:=[0,0,2,7,15,31,31,63,255]
theorem ay.aiR:uU .any (opsOf Tryz.f3 5)=ay.T5:=by kernel_rfl
theorem ay.ZC:nG ay.T5.2 ay.B5=true:=by kernel_rfl
def ay.T6:Bool×List (List Nat×List Nat):=(true,[([],[]),([],[]),([1],[1]),([0,2,2],[0,2]),([3],[3]),([4],[4]),([4],[4]),([5,3,0,1,2,3,4,5],[5]),([6,7,0,1,2,3,4,5,6,7],[6])])
def ay.B6:List Nat:=[0,0,2,7,15,31,31,63,255]
theorem ay.ajU:uU .any (opsOf Tryz.f3 6)=ay.T6:=by kernel_rfl
theorem ay.aaq:nG ay.T6.2 ay.B6=true:=by kernel_rfl
def ay.T22:Bool×List (List Nat×List Nat):=(true,[([],[]),([0],[0]),([],[]),([1,2],[1,2]),([3],[3]),([],[]),([5],[5]),([],[]),([7],[7]),([],[]),([9],[9]),([],[]),([],[]),([12],[12]),([11,13],[11,13]),([14],[14]),([10,15],[10,15]),([],[]),([],[]),([18],[18]),([17,19],[17,19]),([20],[20]),([16,21],[16,21]),([6,8,22],[6,8,22]),([4,23],[4,23])])
def ay.B22:List Nat:=[0,1,0,7,15,0,32,0,128,0,512,0,0,4096,14336,30720,65024,0,0,262144,917504,1966080,4193792,8388576,16777215]
theorem ay.afK:uU .any (opsOf Tryz.f3 22)=ay.T22:=by kernel_rfl
theorem ay.Xm:nG ay.T22.2 ay.B22=true:=by kernel_rfl
def ay.T28:Bool×List (List Nat×List Nat):=(true,[([],[]),([],[]),([0,1],[0,1]),([2],[2]),([3],[3]),([4,3,3],[3,4]),([5],[5]),([5],[5]),([5],[5]),([5],[5]),([8,9,5],[5,8,9]),([10,5],[5,10]),([7,11,5],[5,7,11]),([5],[5]),([5],[5]),([13,14,5],[5,13,14]),([15,5],[5,15]),([12,16,5],[5,12,16]),([6,17,5],[5,6,17]),([18,5,5],[5,18]),([19],[19]),([19],[19]),([20,21,19],[19,20,21]),([19,22,5],[5,19,22]),([5,23,3],[3,5,23]),([3,24],[3,24])])
def ay.B28:List Nat:=[0,0,3,7,15,31,63,63,63,63,831,1855,4031,63,63,24639,57407,131007,262143,524287,1048575,1048575,4194303,8388607,16777215,33554431]
theorem ay.afL:uU .any (opsOf Tryz.f3 28)=ay.T28:=by kernel_rfl
theorem ay.Xn:nG ay.T28.2 ay.B28=true:=by kernel_rfl
def ay.T37:Bool×List (List Nat×List Nat):=(true,[([],[]),([0],[0]),([],[]),([1,2],[1,2]),([3],[3]),([],[]),([5],[5]),([],[]),([6,7],[6,7]),([8],[8]),([4,9],[4,9])])
def ay.B37:List Nat:=[0,1,0,7,15,0,32,0,224,480,1023]
theorem ay.afM:uU .any (opsOf Tryz.f3 37)=ay.T37:=by kernel_rfl
theorem ay.Xo:nG ay.T37.2 ay.B37=true:=by kernel_rfl
theorem ay.amD (k:Nat) (y0:List Int) (y1:Int) (y2:List Int) (y3:Bool) (y5:List Int) (y6:List (S40)) (r:Bool) (h:ay.j0 k y0 y1 y2 y3 true y5 y6=some r):r=false:=by
 cases k with
 |zero=>simp[ay.j0]at h
 |succ k=>rw[ay.j0,if_pos rfl]at h;exact(Option.some.inj h).symm
theorem ay.abf (k:Nat) (y0:List Int) (y1:Int) (y2:List Int) (y3:Bool) (y5:List Int) (y6:List (S40)) (r:Bool) (h:ay.j1 k y0 y1 y2 y3 true y5 y6=some r):r=false:=by
 cases k with
 |zero=>simp[ay.j1]at h
 |succ k=>rw[ay.j1,if_pos rfl]at h;exact(Option.some.inj h).symm
theorem ay.abg (k:Nat) (y0:List Int) (y1:Int) (y2:List Int) (y4:List Int) (y5:List (S40)) (y6:List Int) (y7:List (S40)) (r:Bool) (h:ay.j2 k y0 y1 y2 true y4 y5 y6 y7=some r):r=false:=by
 cases k with
 |zero=>simp[ay.j2]at h
 |succ k=>rw[ay.j2,if_pos rfl]at h;exact(Option.some.inj h).symm
theorem ay.afN (k:Nat) (y0:List Int) (y2:List Int) (y3:List (S40)) (y4:List Int) (y5:List (S40)) (r:Bool) (h:ay.j4 k y0 true y2 y3 y4 y5=some r):r=false:=by
 cases k with
 |zero=>simp[ay.j4]at h
 |succ k=>rw[ay.j4,if_pos rfl]at h;exact(Option.some.inj h).symm
theorem ay.amE (k:Nat) (y1:List Int) (y2:List (S40)) (y3:List Int) (y4:List (S40)) (r:Bool) (h:ay.j5 k true y1 y2 y3 y4=some r):r=false:=by
 cases k with
 |zero=>simp[ay.j5]at h
 |succ k=>rw[ay.j5,if_pos rfl]at h;exact(Option.some.inj h).symm
set_option maxHeartbeats 8000000 in
set_option maxRecDepth 100000 in
theorem ay.calls (k:Nat) (A0:Option Addr) (c0:Nat) (l0:List Int) (A1:Option Addr) (c1:Nat) (l1:List Int) (r:Bool) (w:World) (hr0:Kd.C (Kd.int .u8) w A0 l0.length l0) (hc0:l0.length≤c0) (hr1:Kd.C (Kd.int .u8) w A1 l1.length l1) (hc1:l1.length≤c1) (h:ay.f k l0 l1=some r) (hrT:r=true) (wK:Dr w):
  Calls Tryz.prog 3 #[.slice A0 l0.length c0,.slice A1 l1.length c1] w fun e w'=>e= .returned (.bool r)∧Below w.heap.size w w':=by
 have pq:=ah.mk wK
 clear wK
 have HRT:=ah.mk hrT
 clear hrT
 have Ux:=Tryz.underlying27
 have Wh:=Tryz.underlying40
 have HR0:=ah.mk hr0
 have HC0:=ah.mk hc0
 clear hr0 hc0
 have HR1:=ah.mk hr1
 have HC1:=ah.mk hc1
 clear hr1 hc1
 have HB:=ah.mk (Below.refl w.heap.size w)
 have H:((lN.f l0 l1).bind fun UZ=>(if UZ=true then(some true)else((mV.f k l0).bind fun oV=>((jB.f l1 0 40).bind fun abb=>((bP.f k oV.1 oV.2 abb).bind fun BJ=>((jB.f l1 0 40).bind fun abd=>((jN.f k oV.1 oV.2 abd).bind fun abe=>(if (BJ.2 !=abe.2)=true then(ay.j0 k l1 (oV.1.length:Int) BJ.1 BJ.2 true oV.1 oV.2)else((aX.f k oV.1 oV.2).bind fun acr=>(ay.j0 k l1 (oV.1.length:Int) BJ.1 BJ.2 (!acr) oV.1 oV.2))))))))))=some r:=h
 clear h
 obtain⟨UZ,A30,H⟩:=Option.bind_eq_some_iff.mp H
 have A3:=ah.mk A30
 clear A30
 by_cases c4:UZ=true
 ·subst c4
  rw[if_pos rfl]at H
  obtain rfl:=Option.some.inj H
  go_enter Tryz.func3,Tryz.ntmps3
  go_wp2_with (first|((with_reducible refine aK (f:=4) rfl ?_);refine dH (some 34) rfl rfl Tryz.func4 qz9 rfl #[.slice A0 l0.length c0,.slice A1 l1.length c1] rfl jh ?_;(with_reducible refine(lN.calls _ _ l0 _ _ l1 true _ ?bT ?bU ?eu ?eF A3.out).mono ?_);(case bT=>exact ab0 HR0);(case bU=>exact jL HC0);(case eu=>exact ab0 HR1);(case eF=>exact jL HC1);rintro e w' ⟨rfl,⟨nd,rfl⟩⟩;refine⟨_,rfl,?_⟩))
  go_ret
  exact⟨qz7,qz0 HB⟩
 ·replace c4:=Bool.eq_false_iff.mpr c4
  subst c4
  rw[if_neg (show ¬(false=true) by decide)]at H
  obtain⟨⟨gT,dD⟩,A50,H⟩:=Option.bind_eq_some_iff.mp H
  try dsimp only at H
  have A5:=ah.mk A50
  clear A50
  obtain⟨abb,A60,H⟩:=Option.bind_eq_some_iff.mp H
  have A6:=ah.mk A60
  clear A60
  obtain⟨⟨kF,LB⟩,A70,H⟩:=Option.bind_eq_some_iff.mp H
  try dsimp only at H
  have A7:=ah.mk A70
  clear A70
  obtain⟨abd,A80,H⟩:=Option.bind_eq_some_iff.mp H
  have A8:=ah.mk A80
  clear A80
  obtain⟨⟨amn,Vv⟩,A90,H⟩:=Option.bind_eq_some_iff.mp H
  try dsimp only at H
  have A9:=ah.mk A90
  clear A90
  have amF:=ah.mk H
  clear H
  go_enter Tryz.func3,Tryz.ntmps3
  try go_wp2_with (first|((with_reducible refine aK (f:=4) rfl ?_);refine dH (some 34) rfl rfl Tryz.func4 qz9 rfl #[.slice A0 l0.length c0,.slice A1 l1.length c1] rfl jh ?_;(with_reducible refine(lN.calls _ _ l0 _ _ l1 false _ ?bT ?bU ?eu ?eF A3.out).mono ?_);(case bT=>exact ab0 HR0);(case bU=>exact jL HC0);(case eu=>exact ab0 HR1);(case eF=>exact jL HC1);rintro e w' ⟨rfl,⟨nd,rfl⟩⟩;refine⟨_,rfl,?_⟩)|((with_reducible refine aK (f:=5) rfl ?_);refine dH (some 36) rfl rfl Tryz.func5 qz9 rfl #[.slice A0 l0.length c0] rfl jh ?_;(with_reducible refine(mV.calls k _ _ l0 gT dD _ ?bT ?bU A5.out).mono ?_);(case bT=>exact ab0 HR0);(case bU=>exact jL HC0);rintro e w11 ⟨av2,av3,rfl,ho0,ho1,hb⟩;refine⟨_,rfl,?_⟩;have oC:=ah.mk (Kd.dV ho0 (aG (qz0 HB)));have oW:=ah.mk (Kd.dV ho1 (aG (qz0 HB)));replace HB:=ah.mk (av (qz0 HB) hb);(try clear hb);(try clear hb2);(try clear hk);(try clear hi);(try clear ho0);(try clear ho1))|((with_reducible refine aH (N:=5) rfl ?_);(try(refine iq (by rfl) ?_;dsimp only));refine qbx (N:=5) (cs:=#[.slice none 0 0,.slice none 0 0]) (t:=27) ?_;intro gy hg w12 bR hb;replace oC:=ah.mk (Kd.aM (cK oC) hb);replace oW:=ah.mk (Kd.aM (cK oW) hb);have dz:=ah.mk (bR);have ato:=ah.mk ((mK HB:w.heap.size≤gy));have iL:=ah.mk ((mK HB:w.heap.size≤gy));replace HB:=ah.mk (av (qz0 HB) hb);clear hb bR hg;obtain⟨ji,je,ae4⟩:=Kd.dW oC.out;subst ae4;have oo:w12.cell? ⟨gy,0,none⟩=some (.slice none 0 0):=(aj dz.out 0).trans rfl;have oq:w12.cell? ⟨gy,1,none⟩=some (.slice none 0 0):=(aj dz.out 1).trans rfl;have rG:=ak dz.out 0;have rH:=ak dz.out 1;obtain⟨kV,jM,aec⟩:=Kd.dW oW.out;subst aec))
  have n0_:ah (Kd.R (Kd.int .i64) 2 ((w12.setCell ⟨gy,0,none⟩ (.slice ji gT.length je)).setCell ⟨gy,1,none⟩ (.slice kV dD.length jM)) w.heap.size (fun _=>True) (.slice ji gT.length je) gT):=⟨by refine qpr ?_;exact Kd.bS (Kd.bX (p:=⟨gy,1,none⟩) (Kd.bX (p:=⟨gy,0,none⟩) (Kd.cO oC.out dz.out (by decide)) (fun _ hk=>hk.2) (.slice ji gT.length je)) (fun _ hk=>hk.2) (.slice kV dD.length jM)) (fun _ hk=>trivial)⟩
  have n1_:ah (Kd.R k40 40 ((w12.setCell ⟨gy,0,none⟩ (.slice ji gT.length je)).setCell ⟨gy,1,none⟩ (.slice kV dD.length jM)) w.heap.size (fun _=>True) (.slice kV dD.length jM) dD):=⟨by refine qpr ?_;exact Kd.bS (Kd.bX (p:=⟨gy,1,none⟩) (Kd.bX (p:=⟨gy,0,none⟩) (Kd.cO oW.out dz.out (by decide)) (fun _ hk=>hk.2) (.slice ji gT.length je)) (fun _ hk=>hk.2) (.slice kV dD.length jM)) (fun _ hk=>trivial)⟩
  have n2_:ah (((w12.setCell ⟨gy,0,none⟩ (.slice ji gT.length je)).setCell ⟨gy,1,none⟩ (.slice kV dD.length jM)).heap[gy]?=some (.cells #[.slice ji gT.length je,.slice kV dD.length jM] 27 (0,0))):=⟨by refine qpb ?_;refine aW (cs:=#[.slice ji gT.length je,.slice none 0 0]) ?_ 1 _ rfl;refine qpb ?_;refine aW (cs:=#[.slice none 0 0,.slice none 0 0]) ?_ 0 _ rfl;refine qpb ?_;exact dz.out⟩
  have n3_:ah (Below w.heap.size w ((w12.setCell ⟨gy,0,none⟩ (.slice ji gT.length je)).setCell ⟨gy,1,none⟩ (.slice kV dD.length jM))):=⟨qz4 HB iL⟩
  (try clear oC)
  (try clear oW)
  (try clear dz)
  (try clear HB)
  generalize ((w12.setCell ⟨gy,0,none⟩ (.slice ji gT.length je)).setCell ⟨gy,1,none⟩ (.slice kV dD.length jM))=w16 at n0_ n1_ n2_ n3_ ⊢
  have oC:=n0_
  have oW:=n1_
  have dz:=n2_
  have HB:=n3_
  clear n0_ n1_ n2_ n3_
  replace oC:=ah.mk (Kd.fO oC.out)
  replace oW:=ah.mk (Kd.fO oW.out)
  replace dz:=ah.mk (dS dz.out)
  replace HB:=ah.mk (bG HB.out)
  refine qP (n:=9) (S:=fun w'=>w'.cell? ⟨gy,0,none⟩=some (.slice ji gT.length je)∧w'.cell? ⟨gy,1,none⟩=some (.slice kV dD.length jM)) (ds:=[]) #[false,false,false,false,false,false,false,false,false] qz9 rfl rfl ⟨(aj dz.out 0).trans rfl,(aj dz.out 1).trans rfl⟩ (fun hHeld=>?_);refine jZ ay.aiR ay.ZC (fun HT_ HW_=>?_)
  generalize w16.drew=w17 at oC oW dz HB hHeld ⊢
  refine qpu HT_ 1 42 #[false,true,false,false,false,false,false,false,false] rfl rfl ?_
  refine qtk HT_ HW_ 0 41 #[true,true,false,false,false,false,false,false,false] rfl rfl hHeld ?_
  refine FP (i:=2) (N:=some 43) #[true,true,true,false,false,false,false,false,false] rfl rfl (nE HT_.out qz9) (by decide) (fun K hK=>?_)
  refine yC Tryz.func7 qz9 rfl #[.slice A1 l1.length c1,.int .i64 0,.int .i64 40] (by rfl) rfl rfl jh ?_
  with_reducible refine(jB.calls _ _ l1 0 40 abb _ ?bT ?bU A6.out).mono ?_
  (case bT=>exact qz2 HR1 HB)
  (case bU=>exact jL HC1)
  rintro e w' ⟨rfl,⟨nd,rfl⟩⟩
  refine⟨_,rfl,?_⟩
  refine hK.out _ _ ⟨(aj dz.out 0).trans rfl,(aj dz.out 1).trans rfl⟩ (fun hHeld=>?_)
  clear hK K
  refine qno 43 rfl ?_
  refine FP (i:=3) (N:=some 44) #[true,true,true,true,false,false,false,false,false] rfl rfl (nE HT_.out qz9) (by decide) (fun K hK=>?_)
  refine yC Tryz.func6 qz9 rfl #[.agg #[.slice ji gT.length je,.slice kV dD.length jM],.int .i64 abb] (by rfl) rfl rfl jh ?_
  with_reducible refine(bP.calls k _ _ gT _ _ dD abb kF LB _ ?bT ?bU ?eu ?eF A7.out).mono ?_
  (case bT=>exact qO oC)
  (case bU=>exact qg oC)
  (case eu=>exact qO oW)
  (case eF=>exact qg oW)
  rintro e w18 ⟨afO,rfl,ho0,hb⟩
  refine⟨_,rfl,?_⟩
  replace oW:=ah.mk (Kd.aM (cK oW) hb)
  have FL:=ah.mk (Kd.dV (Kd.iU ho0 (Kd.qo (cK oC))) (aG (qz4 HB iL)))
  replace oC:=ah.mk (Kd.fK (cK oC) (Kd.iJ ho0) hb)
  replace dz:=ah.mk (aA (g:=gy) (o:=.cells #[.slice ji gT.length je,.slice kV dD.length jM] 27 (0,0)) (dP dz) hb)
  replace HB:=ah.mk (av (qz4 HB iL) hb)
  (try clear hb)
  (try clear hb2)
  (try clear hk)
  (try clear hi)
  (try clear ho0)
  refine hK.out _ _ ⟨(aj dz.out 0).trans rfl,(aj dz.out 1).trans rfl⟩ (fun hHeld=>?_)
  clear hK K
  refine qno 44 rfl ?_
  refine qpu HT_ 4 40 #[true,true,true,true,true,false,false,false,false] rfl rfl ?_
  refine qpu HT_ 5 45 #[true,true,true,true,true,true,false,false,false] rfl rfl ?_
  refine qpu HT_ 6 46 #[true,true,true,true,true,true,true,false,false] rfl rfl ?_
  refine qpu HT_ 7 7 #[true,true,true,true,true,true,true,true,false] rfl rfl ?_
  refine qpu HT_ 8 8 #[true,true,true,true,true,true,true,true,true] rfl rfl ?_
  refine xk (oh HT_.out qz9) ?_
  try go_wp2
  replace oC:=ah.mk (Kd.fO oC.out)
  replace oW:=ah.mk (Kd.fO oW.out)
  replace FL:=ah.mk (Kd.fO FL.out)
  replace dz:=ah.mk (dS dz.out)
  replace HB:=ah.mk (bG HB.out)
  refine qP (n:=9) (S:=fun w'=>w'.cell? ⟨gy,0,none⟩=some (.slice ji gT.length je)∧w'.cell? ⟨gy,1,none⟩=some (.slice kV dD.length jM)) (ds:=[]) #[false,false,false,false,false,false,false,false,false] qz9 rfl rfl ⟨(aj dz.out 0).trans rfl,(aj dz.out 1).trans rfl⟩ (fun hHeld=>?_);refine jZ ay.ajU ay.aaq (fun HT_ HW_=>?_)
  generalize w18.drew=w19 at oC oW FL dz HB hHeld ⊢
  refine qpu HT_ 1 49 #[false,true,false,false,false,false,false,false,false] rfl rfl ?_
  refine qtk HT_ HW_ 0 48 #[true,true,false,false,false,false,false,false,false] rfl rfl hHeld ?_
  refine FP (i:=2) (N:=some 50) #[true,true,true,false,false,false,false,false,false] rfl rfl (nE HT_.out qz9) (by decide) (fun K hK=>?_)
  refine yC Tryz.func7 qz9 rfl #[.slice A1 l1.length c1,.int .i64 0,.int .i64 40] (by rfl) rfl rfl jh ?_
  with_reducible refine(jB.calls _ _ l1 0 40 abd _ ?bT ?bU A8.out).mono ?_
  (case bT=>exact qz2 HR1 HB)
  (case bU=>exact jL HC1)
  rintro e w' ⟨rfl,⟨nd,rfl⟩⟩
  refine⟨_,rfl,?_⟩
  refine hK.out _ _ ⟨(aj dz.out 0).trans rfl,(aj dz.out 1).trans rfl⟩ (fun hHeld=>?_)
  clear hK K
  refine qno 50 rfl ?_
  refine FP (i:=3) (N:=some 51) #[true,true,true,true,false,false,false,false,false] rfl rfl (nE HT_.out qz9) (by decide) (fun K hK=>?_)
  refine yC Tryz.func8 qz9 rfl #[.agg #[.slice ji gT.length je,.slice kV dD.length jM],.int .i64 abd] (by rfl) rfl rfl jh ?_
  with_reducible refine(jN.calls k _ _ gT _ _ dD abd amn Vv _ ?bT ?bU ?eu ?eF A9.out).mono ?_
  (case bT=>exact qO oC)
  (case bU=>exact qg oC)
  (case eu=>exact qO oW)
  (case eF=>exact qg oW)
  rintro e w20 ⟨av4,rfl,ho0,hb⟩
  refine⟨_,rfl,?_⟩
  replace oW:=ah.mk (Kd.aM (cK oW) hb)
  have afP:=ah.mk (Kd.dV (Kd.iU (Kd.iU ho0 (Kd.qo (cK oC))) (Kd.qo (cK FL))) (aG (qz4 HB iL)))
  replace oC:=ah.mk (Kd.fK (cK oC) (Kd.iJ ho0) hb)
  replace FL:=ah.mk (Kd.fK (cK FL) (Kd.iJ ho0) hb)
  replace dz:=ah.mk (aA (g:=gy) (o:=.cells #[.slice ji gT.length je,.slice kV dD.length jM] 27 (0,0)) (dP dz) hb)
  replace HB:=ah.mk (av (qz4 HB iL) hb)
  (try clear hb)
  (try clear hb2)
  (try clear hk)
  (try clear hi)
  (try clear ho0)
  refine hK.out _ _ ⟨(aj dz.out 0).trans rfl,(aj dz.out 1).trans rfl⟩ (fun hHeld=>?_)
  clear hK K
  refine qno 51 rfl ?_
  refine qpu HT_ 4 47 #[true,true,true,true,true,false,false,false,false] rfl rfl ?_
  refine qpu HT_ 5 52 #[true,true,true,true,true,true,false,false,false] rfl rfl ?_
  refine qpu HT_ 6 53 #[true,true,true,true,true,true,true,false,false] rfl rfl ?_
  refine qpu HT_ 7 9 #[true,true,true,true,true,true,true,true,false] rfl rfl ?_
  refine qpu HT_ 8 10 #[true,true,true,true,true,true,true,true,true] rfl rfl ?_
  refine xk (oh HT_.out qz9) ?_
  go_upto_region 7 with(fail)
  go_cut [61] (fun v61 wc=>∃ (kq:Nat) (Vw:Bool),v61= .bool Vw∧ah (ay.j0 kq l1 (gT.length:Int) kF LB Vw gT dD=some r)∧ah (kq≤k)∧ah (Kd.R (Kd.int .i64) 2 wc w.heap.size (fun k_=>some k_≠((.slice ji gT.length je):Value).ownBlock) afO kF)∧ah (Kd.R (Kd.int .i64) 2 wc w.heap.size (fun k_=>some k_≠(afO:Value).ownBlock) (.slice ji gT.length je) gT)∧ah (Kd.R k40 40 wc w.heap.size (fun _=>True) (.slice kV dD.length jM) dD)∧ah (wc.heap[gy]?=some (.cells #[(.slice ji gT.length je),(.slice kV dD.length jM)] 27 (0,0)))∧ah (Below w.heap.size w wc))
  case first=>as_aux_lemma=>
   have H:=amF.out
   clear amF
   by_cases c21:(LB !=Vv)=true
   ·rw[if_pos c21]at H
    have Ak:(LB !=Vv)=true:=c21
    (try(have Sk:decide (LB=Vv)=false:=by simpa using c21))
    (try(have Sl:(LB==Vv)=false:=by simpa using c21))
    (try(have atp:¬(LB=Vv):=by simpa using c21))
    clear c21
    (first|rw[Ak]|(simp only[yD,yE];rw[Ak])|skip)
    exact absurd HRT.out (by rw[ay.amD _ _ _ _ _ _ _ _ H];decide)
   rw[if_neg c21]at H
   have Ak:(LB !=Vv)=false:=by simpa using c21
   (try(have Sk:decide (LB=Vv)=true:=by simpa using c21))
   (try(have Sl:(LB==Vv)=true:=by simpa using c21))
   clear c21
   (first|rw[Ak]|(simp only[yD,yE];rw[Ak])|skip)
   obtain⟨acr,aoZ,H⟩:=Option.bind_eq_some_iff.mp H
   have A22:=ah.mk aoZ
   clear aoZ
   have H':=ah.mk H
   clear H
   have oK:w20.cell? ⟨gy,0,none⟩=some (.slice ji gT.length je):=(aj dz.out 0).trans rfl
   have oL:w20.cell? ⟨gy,1,none⟩=some (.slice kV dD.length jM):=(aj dz.out 1).trans rfl
   have qG:=ak dz.out 0
   have qH:=ak dz.out 1
   go_wp2_with (first|(go_at_call 9;(with_reducible refine(aX.calls k _ _ gT _ _ dD acr _ ?bT ?bU ?eu ?eF A22.out).mono ?_);(case bT=>exact qO oC);(case bU=>exact qg oC);(case eu=>exact qO oW);(case eF=>exact qg oW);rintro e w24 ⟨rfl,hb⟩;replace oC:=ah.mk (Kd.aM (cK oC) hb);replace oW:=ah.mk (Kd.aM (cK oW) hb);replace FL:=ah.mk (Kd.aM (cK FL) hb);replace afP:=ah.mk (Kd.aM (cK afP) hb);replace dz:=ah.mk (aA (g:=gy) (o:=.cells #[.slice ji gT.length je,.slice kV dD.length jM] 27 (0,0)) (dP dz) hb);replace HB:=ah.mk (av (qz4 HB iL) hb);(try clear hb);(try clear hb2);(try clear hk);(try clear hi)))
   go_meet
   case rel=>exact⟨_,(!acr),iY,H',⟨Yf⟩,⟨by refine qpr ?_;exact Kd.bS FL.out (fun _ hk=>hk.1.2)⟩,⟨by refine qpr ?_;exact Kd.bS oC.out (fun _ hk=>hk.1.2)⟩,⟨cK oW⟩,⟨dP dz⟩,⟨qz4 HB iL⟩⟩
  case rest=>as_aux_lemma=>
   clear amF
   try clear c1
   try clear c2
   try clear p2
   try clear c3
   try clear c4
   try clear c5
   try clear c6
   try clear c7
   try clear c8
   try clear c21
   try clear Ak
   try clear Sk
   try clear Sl
   try clear oo
   try clear oq
   try clear oK
   try clear oL
   try clear rG
   try clear rH
   try clear qG
   try clear qH
   obtain⟨kq,Vw,rfl,HA,HJ9,lu,aZ,aY,dz,HB⟩:=hcut
   cases kq with
   |zero=>exact absurd HA.out (by simp[ay.j0])
   |succ kj9=>
    have H:=HA.out
    clear HA
    simp only[ay.j0]at H
    by_cases c25:Vw=true
    ·subst c25
     rw[if_pos rfl]at H
     exact absurd (Option.some.inj (H.trans (congrArg some HRT.out))) (by decide)
    ·replace c25:=Bool.eq_false_iff.mpr c25
     subst c25
     rw[if_neg (show ¬(false=true) by decide)]at H
     obtain⟨⟨amG,ao0⟩,ao1,H⟩:=Option.bind_eq_some_iff.mp H
     try dsimp only at H
     have A26:=ah.mk ao1
     clear ao1
     obtain⟨⟨kW,ng,ao2⟩,ao3,H⟩:=Option.bind_eq_some_iff.mp H
     try dsimp only at H
     have A27:=ah.mk ao3
     clear ao3
     have amH:=ah.mk H
     clear H
     have Bh:wc.cell? ⟨gy,0,none⟩=some (.slice ji gT.length je):=(aj dz.out 0).trans rfl
     have Bj:wc.cell? ⟨gy,1,none⟩=some (.slice kV dD.length jM):=(aj dz.out 1).trans rfl
     have Bl:=ak dz.out 0
     have Bo:=ak dz.out 1
     go_upto_region 11 with(first|((with_reducible refine aK (f:=10) rfl ?_);refine dH (some 64) rfl rfl Tryz.func10 qz9 rfl #[.agg #[.slice ji gT.length je,.slice kV dD.length jM]] rfl jh ?_;(with_reducible refine(bE.calls kj9 _ _ gT _ _ dD amG ao0 _ ?bT ?bU ?eu ?eF A26.out (pq.out.below (qz4 HB iL))).mono ?_);(case bT=>exact qO aZ);(case bU=>exact qg aZ);(case eu=>exact qO aY);(case eF=>exact qg aY);rintro e w30 ⟨rfl,hb⟩;refine⟨_,rfl,?_⟩;replace lu:=ah.mk (Kd.aM (cK lu) hb);replace aZ:=ah.mk (Kd.aM (cK aZ) hb);replace aY:=ah.mk (Kd.aM (cK aY) hb);replace dz:=ah.mk (aA (g:=gy) (o:=.cells #[.slice ji gT.length je,.slice kV dD.length jM] 27 (0,0)) (dP dz) hb);replace HB:=ah.mk (av (qz4 HB iL) hb);(try clear hb);(try clear hb2);(try clear hk);(try clear hi))|((with_reducible refine aK (f:=11) rfl ?_);refine dH (some 69) rfl rfl Tryz.func11 qz9 rfl #[.string amG] rfl jh ?_;(with_reducible refine(bQ.calls kj9 amG kW ng ao2 _ A27.out (pq.out.below (qz4 HB iL))).mono ?_);rintro e w31 ⟨av5,av6,rfl,ho0,ho1,hb⟩;refine⟨_,rfl,?_⟩;have Vx:=ah.mk (Kd.dV (Kd.iU (Kd.iU ho0 (Kd.qo (cK lu))) (Kd.qo (cK aZ))) (aG (qz4 HB iL)));replace lu:=ah.mk (Kd.fK (cK lu) (Kd.iJ ho0) hb);replace aZ:=ah.mk (Kd.fK (cK aZ) (Kd.iJ ho0) hb);have Vy:=ah.mk (Kd.dV (Kd.iU ho1 (Kd.qo (cK aY))) (aG (qz4 HB iL)));replace aY:=ah.mk (Kd.fK (cK aY) (Kd.iJ ho1) hb);replace dz:=ah.mk (aA (g:=gy) (o:=.cells #[.slice ji gT.length je,.slice kV dD.length jM] 27 (0,0)) (dP dz) hb);replace HB:=ah.mk (av (qz4 HB iL) hb);(try clear hb);(try clear hb2);(try clear hk);(try clear hi);(try clear ho0);(try clear ho1))|((with_reducible refine aH (N:=13) rfl ?_);(try(refine iq (by rfl) ?_;dsimp only));refine qbx (N:=13) (cs:=#[.slice none 0 0,.slice none 0 0]) (t:=27) ?_;intro jD hg w32 bR hb;replace lu:=ah.mk (Kd.aM (cK lu) hb);replace aZ:=ah.mk (Kd.aM (cK aZ) hb);replace aY:=ah.mk (Kd.aM (cK aY) hb);replace Vx:=ah.mk (Kd.aM (cK Vx) hb);replace Vy:=ah.mk (Kd.aM (cK Vy) hb);have gH:=ah.mk (bR);have atq:=ah.mk ((wU HB iL:w.heap.size≤jD));have kG:=ah.mk ((wU HB iL:w.heap.size≤jD));replace HB:=ah.mk (av (qz4 HB iL) hb);have nO:=ah.mk ((amI:gy≠jD));have oH:=ah.mk ((amJ:jD≠gy));replace dz:=ah.mk (aA (g:=gy) (o:=.cells #[.slice ji gT.length je,.slice kV dD.length jM] 27 (0,0)) (dP dz) hb);clear hb bR hg;obtain⟨ni,nk,ajA⟩:=Kd.dW Vx.out;subst ajA;have ZN:=oH.out;have ZO:=nO.out;have sV:w32.cell? ⟨jD,0,none⟩=some (.slice none 0 0):=(aj gH.out 0).trans rfl;have sW:w32.cell? ⟨jD,1,none⟩=some (.slice none 0 0):=(aj gH.out 1).trans rfl;have xD:=ak gH.out 0;have xE:=ak gH.out 1;obtain⟨nR,nS,alF⟩:=Kd.dW Vy.out;subst alF))
     (try simp only[Act.put,List.setIfInBounds_toArray,List.set_cons_zero,List.set_cons_succ])
     go_cut [95] (fun v95 wc=>∃ (kq:Nat) (LC:Bool),v95= .bool LC∧ah (ay.j1 kq l1 (gT.length:Int) kF LB LC gT dD=some r)∧ah (kq≤kj9)∧ah (Kd.R (Kd.int .i64) 2 wc w.heap.size (fun k_=>some k_≠((.slice ji gT.length je):Value).ownBlock∧some k_≠((.slice ni kW.length nk):Value).ownBlock) afO kF)∧ah (Kd.R (Kd.int .i64) 2 wc w.heap.size (fun k_=>some k_≠(afO:Value).ownBlock∧some k_≠((.slice ni kW.length nk):Value).ownBlock) (.slice ji gT.length je) gT)∧ah (Kd.R k40 40 wc w.heap.size (fun k_=>some k_≠((.slice nR ng.length nS):Value).ownBlock) (.slice kV dD.length jM) dD)∧ah (Kd.R (Kd.int .i64) 2 wc w.heap.size (fun k_=>some k_≠(afO:Value).ownBlock∧some k_≠((.slice ji gT.length je):Value).ownBlock) (.slice ni kW.length nk) kW)∧ah (Kd.R k40 40 wc w.heap.size (fun k_=>some k_≠((.slice kV dD.length jM):Value).ownBlock) (.slice nR ng.length nS) ng)∧ah (wc.heap[gy]?=some (.cells #[(.slice ji gT.length je),(.slice kV dD.length jM)] 27 (0,0)))∧ah (wc.heap[jD]?=some (.cells #[(.slice ni kW.length nk),(.slice nR ng.length nS)] 27 (0,0)))∧ah (Below w.heap.size w wc))
     case first=>as_aux_lemma=>
      have H:=amH.out
      clear amH
      by_cases c37:ao0=true
      ·subst c37
       rw[if_pos rfl]at H
       by_cases c38:ao2=true
       ·subst c38
        rw[if_pos rfl]at H
        by_cases c39:(kW.length:Int)=(gT.length:Int)
        ·rw[if_pos c39]at H
         have Ig:((kW.length:Int)==(gT.length:Int))=true:=beq_iff_eq.mpr c39
         have Vz:((kW.length:Int)!=(gT.length:Int))=false:=bne_eq_false_iff_eq.mpr c39
         have VA:(kW.length==gT.length)=true:=by first|simpa using c39|(simp at c39 ⊢;omega)
         clear c39
         (first|rw[Ig]|(simp only[yD,yE];rw[Ig])|skip)
         have H':=ah.mk H
         clear H
         have alG:=oH.out
         have alH:=nO.out
         have Bp:w32.cell? ⟨jD,0,none⟩=some (.slice none 0 0):=(aj gH.out 0).trans rfl
         have Bq:w32.cell? ⟨jD,1,none⟩=some (.slice none 0 0):=(aj gH.out 1).trans rfl
         have Br:=ak gH.out 0
         have Bu:=ak gH.out 1
         have ER:w32.cell? ⟨gy,0,none⟩=some (.slice ji gT.length je):=(aj dz.out 0).trans rfl
         have ES:w32.cell? ⟨gy,1,none⟩=some (.slice kV dD.length jM):=(aj dz.out 1).trans rfl
         have KI:=ak dz.out 0
         have KJ:=ak dz.out 1
         go_wp2
         go_meet
         case rel=>exact⟨_,(((ng.length:Int)!=(dD.length:Int))),iY,H',⟨by have:=HJ9.out;first|omega|exact Nat.le_refl _⟩,⟨by refine qpr ?_;exact Kd.bS (Kd.bX (p:=⟨jD,1,none⟩) (Kd.bX (p:=⟨jD,0,none⟩) (Kd.cO lu.out gH.out (by decide)) (fun _ hk=>hk.2) (.slice ni kW.length nk)) (fun _ hk=>hk.2) (.slice nR ng.length nS)) (fun _ hk=>⟨hk.1.1,hk.1.2⟩)⟩,⟨by refine qpr ?_;exact Kd.bS (Kd.bX (p:=⟨jD,1,none⟩) (Kd.bX (p:=⟨jD,0,none⟩) (Kd.cO aZ.out gH.out (by decide)) (fun _ hk=>hk.2) (.slice ni kW.length nk)) (fun _ hk=>hk.2) (.slice nR ng.length nS)) (fun _ hk=>⟨hk.1.1,hk.1.2⟩)⟩,⟨by refine qpr ?_;exact Kd.bS (Kd.bX (p:=⟨jD,1,none⟩) (Kd.bX (p:=⟨jD,0,none⟩) (Kd.cO aY.out gH.out (by decide)) (fun _ hk=>hk.2) (.slice ni kW.length nk)) (fun _ hk=>hk.2) (.slice nR ng.length nS)) (fun _ hk=>hk.1.2)⟩,⟨by refine qpr ?_;exact Kd.bS (Kd.bX (p:=⟨jD,1,none⟩) (Kd.bX (p:=⟨jD,0,none⟩) (Kd.cO Vx.out gH.out (by decide)) (fun _ hk=>hk.2) (.slice ni kW.length nk)) (fun _ hk=>hk.2) (.slice nR ng.length nS)) (fun _ hk=>⟨hk.1.1.2,hk.1.2⟩)⟩,⟨by refine qpr ?_;exact Kd.bS (Kd.bX (p:=⟨jD,1,none⟩) (Kd.bX (p:=⟨jD,0,none⟩) (Kd.cO Vy.out gH.out (by decide)) (fun _ hk=>hk.2) (.slice ni kW.length nk)) (fun _ hk=>hk.2) (.slice nR ng.length nS)) (fun _ hk=>hk.1.2)⟩,⟨Tj nO dz⟩,⟨by refine qpb ?_;refine aW (cs:=#[.slice ni kW.length nk,.slice none 0 0]) ?_ 1 _ rfl;refine qpb ?_;refine aW (cs:=#[.slice none 0 0,.slice none 0 0]) ?_ 0 _ rfl;refine qpb ?_;exact gH.out⟩,⟨qz8 HB iL kG⟩⟩
        rw[if_neg c39]at H
        have Ig:((kW.length:Int)==(gT.length:Int))=false:=beq_eq_false_iff_ne.mpr c39
        have Vz:((kW.length:Int)!=(gT.length:Int))=true:=bne_iff_ne.mpr c39
        have VA:(kW.length==gT.length)=false:=by first|simpa using c39|(simp at c39 ⊢;omega)
        (first|rw[Ig]|(simp only[yD,yE];rw[Ig])|skip)
        exact absurd HRT.out (by rw[ay.abf _ _ _ _ _ _ _ _ H];decide)
       replace c38:=Bool.eq_false_iff.mpr c38
       subst c38
       have H1:(ay.j1 kj9 l1 (gT.length:Int) kF LB true gT dD)=some r:=by rw[if_neg (show ¬(false=true) by decide)]at H;exact H
       exact absurd HRT.out (by rw[ay.abf _ _ _ _ _ _ _ _ H1];decide)
      replace c37:=Bool.eq_false_iff.mpr c37
      subst c37
      have H1:(ay.j1 kj9 l1 (gT.length:Int) kF LB true gT dD)=some r:=by rw[if_neg (show ¬(false=true) by decide)]at H;exact H
      exact absurd HRT.out (by rw[ay.abf _ _ _ _ _ _ _ _ H1];decide)
     case rest=>as_aux_lemma=>
      clear amH
      try clear c1
      try clear c2
      try clear p2
      try clear c3
      try clear c4
      try clear c5
      try clear c6
      try clear c7
      try clear c8
      try clear c10
      try clear c11
      try clear c21
      try clear Ak
      try clear Sk
      try clear Sl
      try clear c25
      try clear c34
      try clear c37
      try clear c38
      try clear c39
      try clear Ig
      try clear Vz
      try clear VA
      try clear c40
      try clear c43
      try clear oo
      try clear oq
      try clear oK
      try clear oL
      try clear Bh
      try clear Bj
      try clear sV
      try clear sW
      try clear Bp
      try clear Bq
      try clear ER
      try clear ES
      try clear FD
      try clear FE
      try clear Sm
      try clear Sn
      try clear rG
      try clear rH
      try clear qG
      try clear qH
      try clear Bl
      try clear Bo
      try clear xD
      try clear xE
      try clear Br
      try clear Bu
      try clear KI
      try clear KJ
      try clear FH
      try clear FI
      try clear Sq
      try clear Sr
      try clear p2
      obtain⟨kq,LC,rfl,HA,Xp,lu,aZ,aY,bJ,bL,dz,gH,HB⟩:=hcut
      cases kq with
      |zero=>exact absurd HA.out (by simp[ay.j1])
      |succ abh=>
       have H:=HA.out
       clear HA
       simp only[ay.j1]at H
       by_cases c46:LC=true
       ·subst c46
        rw[if_pos rfl]at H
        exact absurd (Option.some.inj (H.trans (congrArg some HRT.out))) (by decide)
       ·replace c46:=Bool.eq_false_iff.mpr c46
        subst c46
        rw[if_neg (show ¬(false=true) by decide)]at H
        by_cases c47:LB=true
        ·subst c47
         rw[if_pos rfl]at H
         obtain⟨⟨jS,iH,ao4⟩,ao5,H⟩:=Option.bind_eq_some_iff.mp H
         try dsimp only at H
         have A48:=ah.mk ao5
         clear ao5
         have amK:=ah.mk H
         clear H
         have atr:=nO.out
         have atu:=oH.out
         have Sv:wc.cell? ⟨gy,0,none⟩=some (.slice ji gT.length je):=(aj dz.out 0).trans rfl
         have Sw:wc.cell? ⟨gy,1,none⟩=some (.slice kV dD.length jM):=(aj dz.out 1).trans rfl
         have Sy:=ak dz.out 0
         have Sz:=ak dz.out 1
         obtain⟨BM,zh,atv⟩:=Kd.dW lu.out
         subst atv
         go_upto_region 16 with(first|((with_reducible refine aK (f:=12) rfl ?_);refine dH (some 101) rfl rfl Tryz.func12 qz9 rfl #[.agg #[.slice ji gT.length je,.slice kV dD.length jM],.slice BM kF.length zh] rfl jh ?_;(with_reducible refine(jd.calls abh _ _ gT _ _ dD _ _ kF jS iH ao4 _ ?bT ?bU ?eu ?eF ?tK ?tL A48.out).mono ?_);(case bT=>exact qO aZ);(case bU=>exact qg aZ);(case eu=>exact qO aY);(case eF=>exact qg aY);(case tK=>exact qO lu);(case tL=>exact qg lu);rintro e w53 ⟨av7,av8,rfl,ho0,ho1,hb⟩;refine⟨_,rfl,?_⟩;have CP:=ah.mk (Kd.dV (Kd.iU (Kd.iU (Kd.iU ho0 (Kd.qo (cK lu))) (Kd.qo (cK aZ))) (Kd.qo (cK bJ))) (aG (qz8 HB iL kG)));replace lu:=ah.mk (Kd.fK (cK lu) (Kd.iJ ho0) hb);replace aZ:=ah.mk (Kd.fK (cK aZ) (Kd.iJ ho0) hb);replace bJ:=ah.mk (Kd.fK (cK bJ) (Kd.iJ ho0) hb);have CQ:=ah.mk (Kd.dV (Kd.iU (Kd.iU ho1 (Kd.qo (cK aY))) (Kd.qo (cK bL))) (aG (qz8 HB iL kG)));replace aY:=ah.mk (Kd.fK (cK aY) (Kd.iJ ho1) hb);replace bL:=ah.mk (Kd.fK (cK bL) (Kd.iJ ho1) hb);replace dz:=ah.mk (aA (g:=gy) (o:=.cells #[.slice ji gT.length je,.slice kV dD.length jM] 27 (0,0)) (dP dz) hb);replace gH:=ah.mk (aA (g:=jD) (o:=.cells #[.slice ni kW.length nk,.slice nR ng.length nS] 27 (0,0)) (dP gH) hb);replace HB:=ah.mk (av (qz8 HB iL kG) hb);(try clear hb);(try clear hb2);(try clear hk);(try clear hi);(try clear ho0);(try clear ho1))|((with_reducible refine aH (N:=15) rfl ?_);(try(refine iq (by rfl) ?_;dsimp only));refine qbx (N:=15) (cs:=#[.slice none 0 0,.slice none 0 0]) (t:=27) ?_;intro ig hg w54 bR hb;replace lu:=ah.mk (Kd.aM (cK lu) hb);replace aZ:=ah.mk (Kd.aM (cK aZ) hb);replace aY:=ah.mk (Kd.aM (cK aY) hb);replace bJ:=ah.mk (Kd.aM (cK bJ) hb);replace bL:=ah.mk (Kd.aM (cK bL) hb);replace CP:=ah.mk (Kd.aM (cK CP) hb);replace CQ:=ah.mk (Kd.aM (cK CQ) hb);have fG:=ah.mk (bR);have atw:=ah.mk ((by rw[hg];exact(aG (qz8 HB iL kG)):w.heap.size≤ig));have mJ:=ah.mk ((by rw[hg];exact(aG (qz8 HB iL kG)):w.heap.size≤ig));replace HB:=ah.mk (av (qz8 HB iL kG) hb);have qc:=ah.mk ((amI:gy≠ig));have qX:=ah.mk ((amJ:ig≠gy));replace dz:=ah.mk (aA (g:=gy) (o:=.cells #[.slice ji gT.length je,.slice kV dD.length jM] 27 (0,0)) (dP dz) hb);have wP:=ah.mk ((agP:jD≠ig));have BN:=ah.mk ((agQ:ig≠jD));replace gH:=ah.mk (aA (g:=jD) (o:=.cells #[.slice ni kW.length nk,.slice nR ng.length nS] 27 (0,0)) (dP gH) hb);clear hb bR hg;obtain⟨mq,mD,atx⟩:=Kd.dW CP.out;subst atx;have aty:=qX.out;have atz:=qc.out;have alN:=BN.out;have alO:=wP.out;have Ku:w54.cell? ⟨ig,0,none⟩=some (.slice none 0 0):=(aj fG.out 0).trans rfl;have Kv:w54.cell? ⟨ig,1,none⟩=some (.slice none 0 0):=(aj fG.out 1).trans rfl;have Kw:=ak fG.out 0;have Ky:=ak fG.out 1;obtain⟨nZ,ny,atA⟩:=Kd.dW CQ.out;subst atA))
         (try simp only[Act.put,List.setIfInBounds_toArray,List.set_cons_zero,List.set_cons_succ])
         go_cut [125] (fun anA wc=>∃ (kq:Nat) (FM:Bool),anA= .bool FM∧ah (ay.j2 kq l1 (gT.length:Int) kF FM gT dD jS iH=some r)∧ah (kq≤abh)∧ah (Kd.R (Kd.int .i64) 2 wc w.heap.size (fun k_=>some k_≠((.slice ji gT.length je):Value).ownBlock∧some k_≠((.slice ni kW.length nk):Value).ownBlock∧some k_≠((.slice mq jS.length mD):Value).ownBlock) (.slice BM kF.length zh) kF)∧ah (Kd.R (Kd.int .i64) 2 wc w.heap.size (fun k_=>some k_≠((.slice BM kF.length zh):Value).ownBlock∧some k_≠((.slice ni kW.length nk):Value).ownBlock∧some k_≠((.slice mq jS.length mD):Value).ownBlock) (.slice ji gT.length je) gT)∧ah (Kd.R k40 40 wc w.heap.size (fun k_=>some k_≠((.slice nR ng.length nS):Value).ownBlock∧some k_≠((.slice nZ iH.length ny):Value).ownBlock) (.slice kV dD.length jM) dD)∧ah (Kd.R (Kd.int .i64) 2 wc w.heap.size (fun k_=>some k_≠((.slice BM kF.length zh):Value).ownBlock∧some k_≠((.slice ji gT.length je):Value).ownBlock∧some k_≠((.slice mq jS.length mD):Value).ownBlock) (.slice ni kW.length nk) kW)∧ah (Kd.R k40 40 wc w.heap.size (fun k_=>some k_≠((.slice kV dD.length jM):Value).ownBlock∧some k_≠((.slice nZ iH.length ny):Value).ownBlock) (.slice nR ng.length nS) ng)∧ah (Kd.R (Kd.int .i64) 2 wc w.heap.size (fun k_=>some k_≠((.slice BM kF.length zh):Value).ownBlock∧some k_≠((.slice ji gT.length je):Value).ownBlock∧some k_≠((.slice ni kW.length nk):Value).ownBlock) (.slice mq jS.length mD) jS)∧ah (Kd.R k40 40 wc w.heap.size (fun k_=>some k_≠((.slice kV dD.length jM):Value).ownBlock∧some k_≠((.slice nR ng.length nS):Value).ownBlock) (.slice nZ iH.length ny) iH)∧ah (wc.heap[gy]?=some (.cells #[(.slice ji gT.length je),(.slice kV dD.length jM)] 27 (0,0)))∧ah (wc.heap[jD]?=some (.cells #[(.slice ni kW.length nk),(.slice nR ng.length nS)] 27 (0,0)))∧ah (wc.heap[ig]?=some (.cells #[(.slice mq jS.length mD),(.slice nZ iH.length ny)] 27 (0,0)))∧ah (Below w.heap.size w wc))
         case first=>as_aux_lemma=>
          have H:=amK.out
          clear amK
          by_cases c60:ao4=true
          ·subst c60
           rw[if_pos rfl]at H
           obtain⟨amB,ao6,H⟩:=Option.bind_eq_some_iff.mp H
           have A61:=ah.mk ao6
           clear ao6
           by_cases c62:amB=true
           ·subst c62
            rw[if_pos rfl]at H
            obtain⟨amC,ao7,H⟩:=Option.bind_eq_some_iff.mp H
            have A63:=ah.mk ao7
            clear ao7
            by_cases c64:amC=true
            ·subst c64
             rw[if_pos rfl]at H
             have H':=ah.mk H
             clear H
             have atB:=nO.out
             have atC:=oH.out
             have atD:=qc.out
             have atE:=qX.out
             have SA:w54.cell? ⟨gy,0,none⟩=some (.slice ji gT.length je):=(aj dz.out 0).trans rfl
             have SB:w54.cell? ⟨gy,1,none⟩=some (.slice kV dD.length jM):=(aj dz.out 1).trans rfl
             have SC:=ak dz.out 0
             have SE:=ak dz.out 1
             go_wp2_with (first|(go_at_call 13;(with_reducible refine(iE.calls abh _ _ gT _ _ dD _ _ kF true _ ?bT ?bU ?eu ?eF ?tK ?tL A61.out).mono ?_);(case bT=>refine(Kd.dF (e:=2) (base:=w.heap.size) (ok:=fun k_=>((some k_≠(.slice BM kF.length zh:Value).ownBlock∧some k_≠(.slice ni kW.length nk:Value).ownBlock)∧some k_≠(.slice mq jS.length mD:Value).ownBlock)) (n:=gT.length) (c:=je) ?_).2.2;exact(by refine qpr ?_;exact(Kd.bS (Kd.bX (p:=⟨ig,1,none⟩) (Kd.bX (p:=⟨ig,0,none⟩) (Kd.cO aZ.out fG.out (by decide)) (fun _ hk=>hk.2) (.slice mq jS.length mD)) (fun _ hk=>hk.2) (.slice nZ iH.length ny)) (fun _ h_=>h_.1))));(case bU=>exact qg aZ);(case eu=>refine(Kd.dF (e:=40) (base:=w.heap.size) (ok:=fun k_=>(some k_≠(.slice nR ng.length nS:Value).ownBlock∧some k_≠(.slice nZ iH.length ny:Value).ownBlock)) (n:=dD.length) (c:=jM) ?_).2.2;exact(by refine qpr ?_;exact(Kd.bS (Kd.bX (p:=⟨ig,1,none⟩) (Kd.bX (p:=⟨ig,0,none⟩) (Kd.cO aY.out fG.out (by decide)) (fun _ hk=>hk.2) (.slice mq jS.length mD)) (fun _ hk=>hk.2) (.slice nZ iH.length ny)) (fun _ h_=>h_.1))));(case eF=>exact qg aY);(case tK=>refine(Kd.dF (e:=2) (base:=w.heap.size) (ok:=fun k_=>((some k_≠(.slice ji gT.length je:Value).ownBlock∧some k_≠(.slice ni kW.length nk:Value).ownBlock)∧some k_≠(.slice mq jS.length mD:Value).ownBlock)) (n:=kF.length) (c:=zh) ?_).2.2;exact(by refine qpr ?_;exact(Kd.bS (Kd.bX (p:=⟨ig,1,none⟩) (Kd.bX (p:=⟨ig,0,none⟩) (Kd.cO lu.out fG.out (by decide)) (fun _ hk=>hk.2) (.slice mq jS.length mD)) (fun _ hk=>hk.2) (.slice nZ iH.length ny)) (fun _ h_=>h_.1))));(case tL=>exact qg lu);rintro e w68 ⟨rfl,hb⟩;replace lu:=ah.mk (Kd.aM (by refine qpr ?_;exact(Kd.bS (Kd.bX (p:=⟨ig,1,none⟩) (Kd.bX (p:=⟨ig,0,none⟩) (Kd.cO lu.out fG.out (by decide)) (fun _ hk=>hk.2) (.slice mq jS.length mD)) (fun _ hk=>hk.2) (.slice nZ iH.length ny)) (fun _ h_=>h_.1))) hb);replace aZ:=ah.mk (Kd.aM (by refine qpr ?_;exact(Kd.bS (Kd.bX (p:=⟨ig,1,none⟩) (Kd.bX (p:=⟨ig,0,none⟩) (Kd.cO aZ.out fG.out (by decide)) (fun _ hk=>hk.2) (.slice mq jS.length mD)) (fun _ hk=>hk.2) (.slice nZ iH.length ny)) (fun _ h_=>h_.1))) hb);replace aY:=ah.mk (Kd.aM (by refine qpr ?_;exact(Kd.bS (Kd.bX (p:=⟨ig,1,none⟩) (Kd.bX (p:=⟨ig,0,none⟩) (Kd.cO aY.out fG.out (by decide)) (fun _ hk=>hk.2) (.slice mq jS.length mD)) (fun _ hk=>hk.2) (.slice nZ iH.length ny)) (fun _ h_=>h_.1))) hb);replace bJ:=ah.mk (Kd.aM (by refine qpr ?_;exact(Kd.bS (Kd.bX (p:=⟨ig,1,none⟩) (Kd.bX (p:=⟨ig,0,none⟩) (Kd.cO bJ.out fG.out (by decide)) (fun _ hk=>hk.2) (.slice mq jS.length mD)) (fun _ hk=>hk.2) (.slice nZ iH.length ny)) (fun _ h_=>h_.1))) hb);replace bL:=ah.mk (Kd.aM (by refine qpr ?_;exact(Kd.bS (Kd.bX (p:=⟨ig,1,none⟩) (Kd.bX (p:=⟨ig,0,none⟩) (Kd.cO bL.out fG.out (by decide)) (fun _ hk=>hk.2) (.slice mq jS.length mD)) (fun _ hk=>hk.2) (.slice nZ iH.length ny)) (fun _ h_=>h_.1))) hb);replace CP:=ah.mk (Kd.aM (by refine qpr ?_;exact(Kd.bS (Kd.bX (p:=⟨ig,1,none⟩) (Kd.bX (p:=⟨ig,0,none⟩) (Kd.cO CP.out fG.out (by decide)) (fun _ hk=>hk.2) (.slice mq jS.length mD)) (fun _ hk=>hk.2) (.slice nZ iH.length ny)) (fun _ h_=>h_.1))) hb);replace CQ:=ah.mk (Kd.aM (by refine qpr ?_;exact(Kd.bS (Kd.bX (p:=⟨ig,1,none⟩) (Kd.bX (p:=⟨ig,0,none⟩) (Kd.cO CQ.out fG.out (by decide)) (fun _ hk=>hk.2) (.slice mq jS.length mD)) (fun _ hk=>hk.2) (.slice nZ iH.length ny)) (fun _ h_=>h_.1))) hb);replace dz:=ah.mk (aA (g:=gy) (o:=.cells #[.slice ji gT.length je,.slice kV dD.length jM] 27 (0,0)) (Tj qc dz) hb);replace gH:=ah.mk (aA (g:=jD) (o:=.cells #[.slice ni kW.length nk,.slice nR ng.length nS] 27 (0,0)) (Tj wP gH) hb);replace fG:=ah.mk (aA (g:=ig) (o:=.cells #[.slice mq jS.length mD,.slice nZ iH.length ny] 27 (0,0)) (by refine qpb ?_;refine aW (cs:=#[.slice mq jS.length mD,.slice none 0 0]) ?_ 1 _ rfl;refine qpb ?_;refine aW (cs:=#[.slice none 0 0,.slice none 0 0]) ?_ 0 _ rfl;refine qpb ?_;exact fG.out) hb);replace HB:=ah.mk (av (wV HB iL kG mJ) hb);(try clear hb);(try clear hb2);(try clear hk);(try clear hi);have atF:=BN.out;have atG:=wP.out;have SF:w68.cell? ⟨ig,0,none⟩=some (.slice mq jS.length mD):=(aj fG.out 0).trans rfl;have SG:w68.cell? ⟨ig,1,none⟩=some (.slice nZ iH.length ny):=(aj fG.out 1).trans rfl;have SH:=ak fG.out 0;have SI:=ak fG.out 1)|(go_at_call 9;(with_reducible refine(aX.calls abh _ _ jS _ _ iH true _ ?bT ?bU ?eu ?eF A63.out).mono ?_);(case bT=>exact qO CP);(case bU=>exact qg CP);(case eu=>exact qO CQ);(case eF=>exact qg CQ);rintro e w71 ⟨rfl,hb⟩;replace lu:=ah.mk (Kd.aM (cK lu) hb);replace aZ:=ah.mk (Kd.aM (cK aZ) hb);replace aY:=ah.mk (Kd.aM (cK aY) hb);replace bJ:=ah.mk (Kd.aM (cK bJ) hb);replace bL:=ah.mk (Kd.aM (cK bL) hb);replace CP:=ah.mk (Kd.aM (cK CP) hb);replace CQ:=ah.mk (Kd.aM (cK CQ) hb);replace dz:=ah.mk (aA (g:=gy) (o:=.cells #[.slice ji gT.length je,.slice kV dD.length jM] 27 (0,0)) (dP dz) hb);replace gH:=ah.mk (aA (g:=jD) (o:=.cells #[.slice ni kW.length nk,.slice nR ng.length nS] 27 (0,0)) (dP gH) hb);replace fG:=ah.mk (aA (g:=ig) (o:=.cells #[.slice mq jS.length mD,.slice nZ iH.length ny] 27 (0,0)) (dP fG) hb);replace HB:=ah.mk (av (wV HB iL kG mJ) hb);(try clear hb);(try clear hb2);(try clear hk);(try clear hi);have SK:w71.cell? ⟨ig,0,none⟩=some (.slice mq jS.length mD):=(aj fG.out 0).trans rfl;have SL:w71.cell? ⟨ig,1,none⟩=some (.slice nZ iH.length ny):=(aj fG.out 1).trans rfl;have SN:=ak fG.out 0;have SQ:=ak fG.out 1;have Kz:w71.cell? ⟨gy,0,none⟩=some (.slice ji gT.length je):=(aj dz.out 0).trans rfl;have KA:w71.cell? ⟨gy,1,none⟩=some (.slice kV dD.length jM):=(aj dz.out 1).trans rfl;have KC:=ak dz.out 0;have KD:=ak dz.out 1))
             go_meet
             case rel=>exact⟨_,(((iH.length:Int)!=(dD.length:Int))),iY,H',⟨by have:=HJ9.out;have:=Xp.out;first|omega|exact Nat.le_refl _⟩,⟨by refine qpr ?_;exact Kd.bS lu.out (fun _ hk=>⟨hk.1.1,⟨hk.1.2,hk.2⟩⟩)⟩,⟨by refine qpr ?_;exact Kd.bS aZ.out (fun _ hk=>⟨hk.1.1,⟨hk.1.2,hk.2⟩⟩)⟩,⟨cK aY⟩,⟨by refine qpr ?_;exact Kd.bS bJ.out (fun _ hk=>⟨hk.1.1,⟨hk.1.2,hk.2⟩⟩)⟩,⟨cK bL⟩,⟨by refine qpr ?_;exact Kd.bS CP.out (fun _ hk=>⟨hk.1.1.2,⟨hk.1.2,hk.2⟩⟩)⟩,⟨agp CQ⟩,⟨dP dz⟩,⟨dP gH⟩,⟨dP fG⟩,⟨wV HB iL kG mJ⟩⟩
            replace c64:=Bool.eq_false_iff.mpr c64
            subst c64
            have H1:(ay.j2 abh l1 (gT.length:Int) kF true gT dD jS iH)=some r:=by rw[if_neg (show ¬(false=true) by decide)]at H;exact H
            exact absurd HRT.out (by rw[ay.abg _ _ _ _ _ _ _ _ _ H1];decide)
           replace c62:=Bool.eq_false_iff.mpr c62
           subst c62
           have H1:(ay.j2 abh l1 (gT.length:Int) kF true gT dD jS iH)=some r:=by rw[if_neg (show ¬(false=true) by decide)]at H;exact H
           exact absurd HRT.out (by rw[ay.abg _ _ _ _ _ _ _ _ _ H1];decide)
          replace c60:=Bool.eq_false_iff.mpr c60
          subst c60
          have H1:(ay.j2 abh l1 (gT.length:Int) kF true gT dD jS iH)=some r:=by rw[if_neg (show ¬(false=true) by decide)]at H;exact H
          exact absurd HRT.out (by rw[ay.abg _ _ _ _ _ _ _ _ _ H1];decide)
         case rest=>as_aux_lemma=>
          clear amK
          try clear c1
          try clear c2
          try clear p2
          try clear c3
          try clear c4
          try clear c5
          try clear c6
          try clear c7
          try clear c8
          try clear c10
          try clear c11
          try clear c12
          try clear c21
          try clear Ak
          try clear Sk
          try clear Sl
          try clear c25
          try clear c34
          try clear c37
          try clear c38
          try clear c39
          try clear Ig
          try clear Vz
          try clear VA
          try clear c40
          try clear c43
          try clear c46
          try clear c47
          try clear c50
          try clear c56
          try clear c57
          try clear c60
          try clear c62
          try clear c64
          try clear c65
          try clear c66
          try clear c69
          try clear c74
          try clear c75
          try clear c78
          try clear c81
          try clear c82
          try clear oo
          try clear oq
          try clear oK
          try clear oL
          try clear Bh
          try clear Bj
          try clear sV
          try clear sW
          try clear Bp
          try clear Bq
          try clear ER
          try clear ES
          try clear FD
          try clear FE
          try clear Sm
          try clear Sn
          try clear Sv
          try clear Sw
          try clear Ku
          try clear Kv
          try clear SA
          try clear SB
          try clear SF
          try clear SG
          try clear SK
          try clear SL
          try clear Kz
          try clear KA
          try clear abj
          try clear abk
          try clear abl
          try clear abm
          try clear abn
          try clear abo
          try clear rG
          try clear rH
          try clear qG
          try clear qH
          try clear Bl
          try clear Bo
          try clear xD
          try clear xE
          try clear Br
          try clear Bu
          try clear KI
          try clear KJ
          try clear FH
          try clear FI
          try clear Sq
          try clear Sr
          try clear Sy
          try clear Sz
          try clear Kw
          try clear Ky
          try clear SC
          try clear SE
          try clear SH
          try clear SI
          try clear SN
          try clear SQ
          try clear KC
          try clear KD
          try clear abp
          try clear abq
          try clear abr
          try clear abt
          try clear abu
          try clear abv
          try clear p2
          obtain⟨kq,FM,rfl,HA,abw,lu,aZ,aY,bJ,bL,cu,bW,dz,gH,fG,HB⟩:=hcut
          cases kq with
          |zero=>exact absurd HA.out (by simp[ay.j2])
          |succ ao8=>
           have H:=HA.out
           clear HA
           simp only[ay.j2]at H
           by_cases c85:FM=true
           ·subst c85
            rw[if_pos rfl]at H
            exact absurd (Option.some.inj (H.trans (congrArg some HRT.out))) (by decide)
           ·replace c85:=Bool.eq_false_iff.mpr c85
            subst c85
            rw[if_neg (show ¬(false=true) by decide)]at H
            have H':=ah.mk H
            clear H
            go_wp2
            go_loopg [17] ao8 (fun kq v17 w'=>∃ (bC:Int),v17= .int .i64 bC∧ah (ay.l0 kq l1 (gT.length:Int) kF bC gT dD jS iH=some r)∧ah (kq≤ao8)∧ah (Kd.R (Kd.int .i64) 2 w' w.heap.size (fun k_=>some k_≠((.slice ji gT.length je):Value).ownBlock∧some k_≠((.slice ni kW.length nk):Value).ownBlock∧some k_≠((.slice mq jS.length mD):Value).ownBlock) (.slice BM kF.length zh) kF)∧ah (Kd.R (Kd.int .i64) 2 w' w.heap.size (fun k_=>some k_≠((.slice BM kF.length zh):Value).ownBlock∧some k_≠((.slice ni kW.length nk):Value).ownBlock∧some k_≠((.slice mq jS.length mD):Value).ownBlock) (.slice ji gT.length je) gT)∧ah (Kd.R k40 40 w' w.heap.size (fun k_=>some k_≠((.slice nR ng.length nS):Value).ownBlock∧some k_≠((.slice nZ iH.length ny):Value).ownBlock) (.slice kV dD.length jM) dD)∧ah (Kd.R (Kd.int .i64) 2 w' w.heap.size (fun k_=>some k_≠((.slice BM kF.length zh):Value).ownBlock∧some k_≠((.slice ji gT.length je):Value).ownBlock∧some k_≠((.slice mq jS.length mD):Value).ownBlock) (.slice ni kW.length nk) kW)∧ah (Kd.R k40 40 w' w.heap.size (fun k_=>some k_≠((.slice kV dD.length jM):Value).ownBlock∧some k_≠((.slice nZ iH.length ny):Value).ownBlock) (.slice nR ng.length nS) ng)∧ah (Kd.R (Kd.int .i64) 2 w' w.heap.size (fun k_=>some k_≠((.slice BM kF.length zh):Value).ownBlock∧some k_≠((.slice ji gT.length je):Value).ownBlock∧some k_≠((.slice ni kW.length nk):Value).ownBlock) (.slice mq jS.length mD) jS)∧ah (Kd.R k40 40 w' w.heap.size (fun k_=>some k_≠((.slice kV dD.length jM):Value).ownBlock∧some k_≠((.slice nR ng.length nS):Value).ownBlock) (.slice nZ iH.length ny) iH)∧ah (w'.heap[gy]?=some (.cells #[(.slice ji gT.length je),(.slice kV dD.length jM)] 27 (0,0)))∧ah (w'.heap[jD]?=some (.cells #[(.slice ni kW.length nk),(.slice nR ng.length nS)] 27 (0,0)))∧ah (w'.heap[ig]?=some (.cells #[(.slice mq jS.length mD),(.slice nZ iH.length ny)] 27 (0,0)))∧ah (Below w.heap.size w w'))
            case atStart=>exact⟨(0),iY,H',⟨Nat.le_refl _⟩,⟨cK lu⟩,⟨cK aZ⟩,⟨cK aY⟩,⟨cK bJ⟩,⟨cK bL⟩,⟨cK cu⟩,⟨cK bW⟩,⟨dP dz⟩,⟨dP gH⟩,⟨dP fG⟩,⟨wV HB iL kG mJ⟩⟩
            case round=>as_aux_lemma=>
             clear H'
             try clear c1
             try clear c2
             try clear p2
             try clear c3
             try clear c4
             try clear c5
             try clear c6
             try clear c7
             try clear c8
             try clear c10
             try clear c11
             try clear c12
             try clear c21
             try clear Ak
             try clear Sk
             try clear Sl
             try clear c25
             try clear c34
             try clear c37
             try clear c38
             try clear c39
             try clear Ig
             try clear Vz
             try clear VA
             try clear c40
             try clear c43
             try clear c46
             try clear c47
             try clear c50
             try clear c56
             try clear c57
             try clear c60
             try clear c62
             try clear c64
             try clear c65
             try clear c66
             try clear c69
             try clear c74
             try clear c75
             try clear c78
             try clear c81
             try clear c82
             try clear c85
             try clear oo
             try clear oq
             try clear oK
             try clear oL
             try clear Bh
             try clear Bj
             try clear sV
             try clear sW
             try clear Bp
             try clear Bq
             try clear ER
             try clear ES
             try clear FD
             try clear FE
             try clear Sm
             try clear Sn
             try clear Sv
             try clear Sw
             try clear Ku
             try clear Kv
             try clear SA
             try clear SB
             try clear SF
             try clear SG
             try clear SK
             try clear SL
             try clear Kz
             try clear KA
             try clear abj
             try clear abk
             try clear abl
             try clear abm
             try clear abn
             try clear abo
             try clear rG
             try clear rH
             try clear qG
             try clear qH
             try clear Bl
             try clear Bo
             try clear xD
             try clear xE
             try clear Br
             try clear Bu
             try clear KI
             try clear KJ
             try clear FH
             try clear FI
             try clear Sq
             try clear Sr
             try clear Sy
             try clear Sz
             try clear Kw
             try clear Ky
             try clear SC
             try clear SE
             try clear SH
             try clear SI
             try clear SN
             try clear SQ
             try clear KC
             try clear KD
             try clear abp
             try clear abq
             try clear abr
             try clear abt
             try clear abu
             try clear abv
             try clear p2
             obtain⟨bC,rfl,HA,HK4,lu,aZ,aY,bJ,bL,cu,bW,dz,gH,fG,HB⟩:=hrel
             cases gk with
             |zero=>exact absurd HA.out (by simp[ay.l0])
             |succ k4=>
              have H:=HA.out
              clear HA
              simp only[ay.l0]at H
              by_cases c86:bC<(dD.length:Int)
              ·rw[if_pos c86]at H
               have amL:decide (bC<(dD.length:Int))=true:=decide_eq_true c86
               clear c86
               by_cases c87:0≤bC
               ·rw[if_pos c87]at H
                have atH:decide (0≤bC)=true:=decide_eq_true c87
                clear c87
                by_cases c88:bC<(iH.length:Int)
                ·rw[if_pos c88]at H
                 have atI:decide (bC<(iH.length:Int))=true:=decide_eq_true c88
                 clear c88
                 by_cases c89:0≤((au dD bC).f1)
                 ·rw[if_pos c89]at H
                  have atJ:decide (0≤((au dD bC).f1))=true:=decide_eq_true c89
                  clear c89
                  by_cases c90:((au dD bC).f1)<(kF.length:Int)
                  ·rw[if_pos c90]at H
                   have atK:decide (((au dD bC).f1)<(kF.length:Int))=true:=decide_eq_true c90
                   clear c90
                   by_cases c91:0≤((au dD bC).f0)
                   ·rw[if_pos c91]at H
                    have atL:decide (0≤((au dD bC).f0))=true:=decide_eq_true c91
                    clear c91
                    by_cases c92:((au dD bC).f0)<(kF.length:Int)
                    ·rw[if_pos c92]at H
                     have atM:decide (((au dD bC).f0)<(kF.length:Int))=true:=decide_eq_true c92
                     clear c92
                     by_cases c93:(!(((au iH bC).f0)==((au dD bC).f0))||(!(((au iH bC).f1)==((au dD bC).f1))||(!(((au iH bC).f2)==(wrap64 ((wrap64 (((au dD bC).f2)+(rd kF ((au dD bC).f1)))) - (rd kF ((au dD bC).f0))))))))=true
                     ·rw[if_pos c93]at H
                      have amM:(!(((au iH bC).f0)==((au dD bC).f0))||(!(((au iH bC).f1)==((au dD bC).f1))||(!(((au iH bC).f2)==(wrap64 ((wrap64 (((au dD bC).f2)+(rd kF ((au dD bC).f1)))) - (rd kF ((au dD bC).f0))))))))=true:=c93
                      clear c93
                      obtain rfl:=Option.some.inj H
                      have atN:=nO.out
                      have atO:=oH.out
                      have atP:=qc.out
                      have atQ:=qX.out
                      have amN:wr.cell? ⟨gy,0,none⟩=some (.slice ji gT.length je):=(aj dz.out 0).trans rfl
                      have amO:wr.cell? ⟨gy,1,none⟩=some (.slice kV dD.length jM):=(aj dz.out 1).trans rfl
                      have amP:=ak dz.out 0
                      have amQ:=ak dz.out 1
                      have abx:0≤(bC:Int):=of_decide_eq_true gN
                      have aby:bC<(dD.length:Int):=of_decide_eq_true gN
                      obtain⟨xS,amR,abz,abA,abB⟩:=kH (Kd.dF aY.out).2.2 bC abx aby
                      cases amR
                      replace abx:=eq_true abx
                      replace aby:=eq_true aby
                      try go_wp2_with (first|((with_reducible refine aH (N:=18) rfl ?_);(try(refine iq (by rfl) ?_;dsimp only));refine qbx (N:=18) (cs:=#[.int .i64 0,.int .i64 0,.int .i64 0]) (t:=40) ?_;intro dx hg w97 bR hb;replace lu:=ah.mk (Kd.aM (cK lu) hb);replace aZ:=ah.mk (Kd.aM (cK aZ) hb);replace aY:=ah.mk (Kd.aM (Kd.nD (cK aY) dx (Nat.le_of_eq hg.symm)) hb);replace bJ:=ah.mk (Kd.aM (cK bJ) hb);replace bL:=ah.mk (Kd.aM (Kd.nD (cK bL) dx (Nat.le_of_eq hg.symm)) hb);replace cu:=ah.mk (Kd.aM (cK cu) hb);replace bW:=ah.mk (Kd.aM (Kd.nD (cK bW) dx (Nat.le_of_eq hg.symm)) hb);have kM:=ah.mk (bR);have amS:=ah.mk ((by rw[hg];exact(aG (wV HB iL kG mJ)):w.heap.size≤dx));have SS:=ah.mk ((by rw[hg];exact(aG (wV HB iL kG mJ)):w.heap.size≤dx));replace HB:=ah.mk (av (wV HB iL kG mJ) hb);have uz:=ah.mk ((ao9:gy≠dx));have BO:=ah.mk ((apa:dx≠gy));replace dz:=ah.mk (aA (g:=gy) (o:=.cells #[.slice ji gT.length je,.slice (some xS) dD.length jM] 27 (0,0)) (dP dz) hb);have uD:=ah.mk ((agP:jD≠dx));have BP:=ah.mk ((agQ:dx≠jD));replace gH:=ah.mk (aA (g:=jD) (o:=.cells #[.slice ni kW.length nk,.slice nR ng.length nS] 27 (0,0)) (dP gH) hb);have uE:=ah.mk ((amT:ig≠dx));have BQ:=ah.mk ((amU:dx≠ig));replace fG:=ah.mk (aA (g:=ig) (o:=.cells #[.slice mq jS.length mD,.slice nZ iH.length ny] 27 (0,0)) (dP fG) hb);clear hb bR hg;have atS:=BO.out;have atT:=uz.out;have atU:=BP.out;have atV:=uD.out;have apb:=BQ.out;have apc:=uE.out;have agR:w97.cell? ⟨dx,0,none⟩=some (.int .i64 0):=(aj kM.out 0).trans rfl;have agS:w97.cell? ⟨dx,1,none⟩=some (.int .i64 0):=(aj kM.out 1).trans rfl;have agT:w97.cell? ⟨dx,2,none⟩=some (.int .i64 0):=(aj kM.out 2).trans rfl;have agU:=ak kM.out 0;have agV:=ak kM.out 1;have agW:=ak kM.out 2))
                      have n0_:ah (Kd.R (Kd.int .i64) 2 (((w97.setCell ⟨dx,0,none⟩ (.int .i64 ((au dD bC).f0))).setCell ⟨dx,1,none⟩ (.int .i64 ((au dD bC).f1))).setCell ⟨dx,2,none⟩ (.int .i64 ((au dD bC).f2))) w.heap.size (fun k_=>some k_≠(.slice ji gT.length je:Value).ownBlock∧some k_≠(.slice ni kW.length nk:Value).ownBlock∧some k_≠(.slice mq jS.length mD:Value).ownBlock) (.slice BM kF.length zh) kF):=⟨by refine qpr ?_;exact Kd.bS (Kd.bX (p:=⟨dx,2,none⟩) (Kd.bX (p:=⟨dx,1,none⟩) (Kd.bX (p:=⟨dx,0,none⟩) (Kd.cO lu.out kM.out (by decide)) (fun _ hk=>hk.2) (.int .i64 ((au dD bC).f0))) (fun _ hk=>hk.2) (.int .i64 ((au dD bC).f1))) (fun _ hk=>hk.2) (.int .i64 ((au dD bC).f2))) (fun _ hk=>⟨hk.1.1,⟨hk.1.2.1,hk.1.2.2⟩⟩)⟩
                      have n1_:ah (Kd.R (Kd.int .i64) 2 (((w97.setCell ⟨dx,0,none⟩ (.int .i64 ((au dD bC).f0))).setCell ⟨dx,1,none⟩ (.int .i64 ((au dD bC).f1))).setCell ⟨dx,2,none⟩ (.int .i64 ((au dD bC).f2))) w.heap.size (fun k_=>some k_≠(.slice BM kF.length zh:Value).ownBlock∧some k_≠(.slice ni kW.length nk:Value).ownBlock∧some k_≠(.slice mq jS.length mD:Value).ownBlock) (.slice ji gT.length je) gT):=⟨by refine qpr ?_;exact Kd.bS (Kd.bX (p:=⟨dx,2,none⟩) (Kd.bX (p:=⟨dx,1,none⟩) (Kd.bX (p:=⟨dx,0,none⟩) (Kd.cO aZ.out kM.out (by decide)) (fun _ hk=>hk.2) (.int .i64 ((au dD bC).f0))) (fun _ hk=>hk.2) (.int .i64 ((au dD bC).f1))) (fun _ hk=>hk.2) (.int .i64 ((au dD bC).f2))) (fun _ hk=>⟨hk.1.1,⟨hk.1.2.1,hk.1.2.2⟩⟩)⟩
                      have n2_:ah (Kd.R k40 40 (((w97.setCell ⟨dx,0,none⟩ (.int .i64 ((au dD bC).f0))).setCell ⟨dx,1,none⟩ (.int .i64 ((au dD bC).f1))).setCell ⟨dx,2,none⟩ (.int .i64 ((au dD bC).f2))) w.heap.size (fun k_=>some k_≠(.slice nR ng.length nS:Value).ownBlock∧some k_≠(.slice nZ iH.length ny:Value).ownBlock∧k_≠dx) (.slice (some xS) dD.length jM) dD):=⟨acs aY⟩
                      have n3_:ah (Kd.R (Kd.int .i64) 2 (((w97.setCell ⟨dx,0,none⟩ (.int .i64 ((au dD bC).f0))).setCell ⟨dx,1,none⟩ (.int .i64 ((au dD bC).f1))).setCell ⟨dx,2,none⟩ (.int .i64 ((au dD bC).f2))) w.heap.size (fun k_=>some k_≠(.slice BM kF.length zh:Value).ownBlock∧some k_≠(.slice ji gT.length je:Value).ownBlock∧some k_≠(.slice mq jS.length mD:Value).ownBlock) (.slice ni kW.length nk) kW):=⟨by refine qpr ?_;exact Kd.bS (Kd.bX (p:=⟨dx,2,none⟩) (Kd.bX (p:=⟨dx,1,none⟩) (Kd.bX (p:=⟨dx,0,none⟩) (Kd.cO bJ.out kM.out (by decide)) (fun _ hk=>hk.2) (.int .i64 ((au dD bC).f0))) (fun _ hk=>hk.2) (.int .i64 ((au dD bC).f1))) (fun _ hk=>hk.2) (.int .i64 ((au dD bC).f2))) (fun _ hk=>⟨hk.1.1,⟨hk.1.2.1,hk.1.2.2⟩⟩)⟩
                      have n4_:ah (Kd.R k40 40 (((w97.setCell ⟨dx,0,none⟩ (.int .i64 ((au dD bC).f0))).setCell ⟨dx,1,none⟩ (.int .i64 ((au dD bC).f1))).setCell ⟨dx,2,none⟩ (.int .i64 ((au dD bC).f2))) w.heap.size (fun k_=>some k_≠(.slice (some xS) dD.length jM:Value).ownBlock∧some k_≠(.slice nZ iH.length ny:Value).ownBlock∧k_≠dx) (.slice nR ng.length nS) ng):=⟨acs bL⟩
                      have n5_:ah (Kd.R (Kd.int .i64) 2 (((w97.setCell ⟨dx,0,none⟩ (.int .i64 ((au dD bC).f0))).setCell ⟨dx,1,none⟩ (.int .i64 ((au dD bC).f1))).setCell ⟨dx,2,none⟩ (.int .i64 ((au dD bC).f2))) w.heap.size (fun k_=>some k_≠(.slice BM kF.length zh:Value).ownBlock∧some k_≠(.slice ji gT.length je:Value).ownBlock∧some k_≠(.slice ni kW.length nk:Value).ownBlock) (.slice mq jS.length mD) jS):=⟨by refine qpr ?_;exact Kd.bS (Kd.bX (p:=⟨dx,2,none⟩) (Kd.bX (p:=⟨dx,1,none⟩) (Kd.bX (p:=⟨dx,0,none⟩) (Kd.cO cu.out kM.out (by decide)) (fun _ hk=>hk.2) (.int .i64 ((au dD bC).f0))) (fun _ hk=>hk.2) (.int .i64 ((au dD bC).f1))) (fun _ hk=>hk.2) (.int .i64 ((au dD bC).f2))) (fun _ hk=>⟨hk.1.1,⟨hk.1.2.1,hk.1.2.2⟩⟩)⟩
                      have n6_:ah (Kd.R k40 40 (((w97.setCell ⟨dx,0,none⟩ (.int .i64 ((au dD bC).f0))).setCell ⟨dx,1,none⟩ (.int .i64 ((au dD bC).f1))).setCell ⟨dx,2,none⟩ (.int .i64 ((au dD bC).f2))) w.heap.size (fun k_=>some k_≠(.slice (some xS) dD.length jM:Value).ownBlock∧some k_≠(.slice nR ng.length nS:Value).ownBlock∧k_≠dx) (.slice nZ iH.length ny) iH):=⟨acs bW⟩
                      have n7_:ah ((((w97.setCell ⟨dx,0,none⟩ (.int .i64 ((au dD bC).f0))).setCell ⟨dx,1,none⟩ (.int .i64 ((au dD bC).f1))).setCell ⟨dx,2,none⟩ (.int .i64 ((au dD bC).f2))).heap[gy]?=some (.cells #[.slice ji gT.length je,.slice (some xS) dD.length jM] 27 (0,0))):=⟨Nb uz dz⟩
                      have n8_:ah ((((w97.setCell ⟨dx,0,none⟩ (.int .i64 ((au dD bC).f0))).setCell ⟨dx,1,none⟩ (.int .i64 ((au dD bC).f1))).setCell ⟨dx,2,none⟩ (.int .i64 ((au dD bC).f2))).heap[jD]?=some (.cells #[.slice ni kW.length nk,.slice nR ng.length nS] 27 (0,0))):=⟨Nb uD gH⟩
                      have n9_:ah ((((w97.setCell ⟨dx,0,none⟩ (.int .i64 ((au dD bC).f0))).setCell ⟨dx,1,none⟩ (.int .i64 ((au dD bC).f1))).setCell ⟨dx,2,none⟩ (.int .i64 ((au dD bC).f2))).heap[ig]?=some (.cells #[.slice mq jS.length mD,.slice nZ iH.length ny] 27 (0,0))):=⟨Nb uE fG⟩
                      have abC:ah ((((w97.setCell ⟨dx,0,none⟩ (.int .i64 ((au dD bC).f0))).setCell ⟨dx,1,none⟩ (.int .i64 ((au dD bC).f1))).setCell ⟨dx,2,none⟩ (.int .i64 ((au dD bC).f2))).heap[dx]?=some (.cells #[.int .i64 ((au dD bC).f0),.int .i64 ((au dD bC).f1),.int .i64 ((au dD bC).f2)] 40 (0,0))):=⟨apd kM⟩
                      have abD:ah (Below w.heap.size w (((w97.setCell ⟨dx,0,none⟩ (.int .i64 ((au dD bC).f0))).setCell ⟨dx,1,none⟩ (.int .i64 ((au dD bC).f1))).setCell ⟨dx,2,none⟩ (.int .i64 ((au dD bC).f2)))):=⟨Ms HB iL kG mJ SS⟩
                      (try clear lu)
                      (try clear aZ)
                      (try clear aY)
                      (try clear bJ)
                      (try clear bL)
                      (try clear cu)
                      (try clear bW)
                      (try clear dz)
                      (try clear gH)
                      (try clear fG)
                      (try clear kM)
                      (try clear HB)
                      generalize (((w97.setCell ⟨dx,0,none⟩ (.int .i64 ((au dD bC).f0))).setCell ⟨dx,1,none⟩ (.int .i64 ((au dD bC).f1))).setCell ⟨dx,2,none⟩ (.int .i64 ((au dD bC).f2)))=atW at n0_ n1_ n2_ n3_ n4_ n5_ n6_ n7_ n8_ n9_ abC abD ⊢
                      have lu:=n0_
                      have aZ:=n1_
                      have aY:=n2_
                      have bJ:=n3_
                      have bL:=n4_
                      have cu:=n5_
                      have bW:=n6_
                      have dz:=n7_
                      have gH:=n8_
                      have fG:=n9_
                      have kM:=abC
                      have HB:=abD
                      clear n0_ n1_ n2_ n3_ n4_ n5_ n6_ n7_ n8_ n9_ abC abD
                      replace lu:=ah.mk (Kd.fO lu.out)
                      replace aZ:=ah.mk (Kd.fO aZ.out)
                      replace aY:=ah.mk (Kd.fO aY.out)
                      replace bJ:=ah.mk (Kd.fO bJ.out)
                      replace bL:=ah.mk (Kd.fO bL.out)
                      replace cu:=ah.mk (Kd.fO cu.out)
                      replace bW:=ah.mk (Kd.fO bW.out)
                      replace dz:=ah.mk (dS dz.out)
                      replace gH:=ah.mk (dS gH.out)
                      replace fG:=ah.mk (dS fG.out)
                      replace kM:=ah.mk (dS kM.out)
                      replace HB:=ah.mk (bG HB.out)
                      have abE:0≤(bC:Int):=of_decide_eq_true gN
                      have abF:bC<(iH.length:Int):=of_decide_eq_true gN
                      obtain⟨xU,amV,BR,BS,BU⟩:=kH (Kd.dF bW.out).2.2 bC abE abF
                      cases amV
                      replace abE:=eq_true abE
                      replace abF:=eq_true abF
                      have abG:0≤(((au dD bC).f1):Int):=of_decide_eq_true gN
                      have abH:((au dD bC).f1)<(kF.length:Int):=of_decide_eq_true gN
                      obtain⟨KL,amW,BZ⟩:=Kd.iC (Kd.dF lu.out).2.2 ((au dD bC).f1) abG abH
                      cases amW
                      replace abG:=eq_true abG
                      replace abH:=eq_true abH
                      have abI:0≤(((au dD bC).f0):Int):=of_decide_eq_true gN
                      have abJ:((au dD bC).f0)<(kF.length:Int):=of_decide_eq_true gN
                      obtain⟨abK,amX,Ca⟩:=Kd.iC (Kd.dF lu.out).2.2 ((au dD bC).f0) abI abJ
                      obtain rfl:KL=abK:=(by injection amX)
                      replace abI:=eq_true abI
                      replace abJ:=eq_true abJ
                      refine qP (n:=25) (S:=fun w'=>w'.cell? ⟨ig,0,none⟩=some (.slice mq jS.length mD)∧w'.cell? ⟨ig,1,none⟩=some (.slice (some xU) iH.length ny)∧w'.cell? ⟨dx,0,none⟩=some (.int .i64 ((au dD bC).f0))∧w'.cell? ⟨dx,1,none⟩=some (.int .i64 ((au dD bC).f1))∧w'.cell? ⟨dx,2,none⟩=some (.int .i64 ((au dD bC).f2))∧w'.cell? (xU.add ((bC).toNat*3))=some (.int .i64 ((au iH bC).f0))∧w'.cell? ⟨(xU.add ((bC).toNat*3)).block,(xU.add ((bC).toNat*3)).off+1,none⟩=some (.int .i64 ((au iH bC).f1))∧w'.cell? ⟨(xU.add ((bC).toNat*3)).block,(xU.add ((bC).toNat*3)).off+2,none⟩=some (.int .i64 ((au iH bC).f2))∧w'.cell? (KL.add (((au dD bC).f1)).toNat)=some (.int .i64 (rd kF ((au dD bC).f1)))∧w'.cell? (KL.add (((au dD bC).f0)).toNat)=some (.int .i64 (rd kF ((au dD bC).f0)))) (ds:=[]) #[false,false,false,false,false,false,false,false,false,false,false,false,false,false,false,false,false,false,false,false,false,false,false,false,false] qz9 rfl rfl ⟨(aj fG.out 0).trans rfl,(aj fG.out 1).trans rfl,(aj kM.out 0).trans rfl,(aj kM.out 1).trans rfl,(aj kM.out 2).trans rfl,BR,BS,BU,BZ,Ca⟩ (fun hHeld=>?_);refine jZ ay.afK ay.Xm (fun HT_ HW_=>?_)
                      generalize atW.drew=av9 at lu aZ aY bJ bL cu bW dz gH fG kM HB BR BS BU BZ Ca hHeld ⊢
                      refine qpu HT_ 0 138 #[true,false,false,false,false,false,false,false,false,false,false,false,false,false,false,false,false,false,false,false,false,false,false,false,false] rfl rfl ?_
                      refine qpu HT_ 2 140 #[true,false,true,false,false,false,false,false,false,false,false,false,false,false,false,false,false,false,false,false,false,false,false,false,false] rfl rfl ?_
                      refine qpu HT_ 5 143 #[true,false,true,false,false,true,false,false,false,false,false,false,false,false,false,false,false,false,false,false,false,false,false,false,false] rfl rfl ?_
                      refine qpu HT_ 7 145 #[true,false,true,false,false,true,false,true,false,false,false,false,false,false,false,false,false,false,false,false,false,false,false,false,false] rfl rfl ?_
                      refine qpu HT_ 9 147 #[true,false,true,false,false,true,false,true,false,true,false,false,false,false,false,false,false,false,false,false,false,false,false,false,false] rfl rfl ?_
                      refine qpu HT_ 11 149 #[true,false,true,false,false,true,false,true,false,true,false,true,false,false,false,false,false,false,false,false,false,false,false,false,false] rfl rfl ?_
                      refine qpu HT_ 12 150 #[true,false,true,false,false,true,false,true,false,true,false,true,true,false,false,false,false,false,false,false,false,false,false,false,false] rfl rfl ?_
                      refine qpu HT_ 17 155 #[true,false,true,false,false,true,false,true,false,true,false,true,true,false,false,false,false,true,false,false,false,false,false,false,false] rfl rfl ?_
                      refine qpu HT_ 18 156 #[true,false,true,false,false,true,false,true,false,true,false,true,true,false,false,false,false,true,true,false,false,false,false,false,false] rfl rfl ?_
                      refine qtk HT_ HW_ 1 139 #[true,true,true,false,false,true,false,true,false,true,false,true,true,false,false,false,false,true,true,false,false,false,false,false,false] rfl rfl hHeld ?_
                      refine qpu HT_ 3 141 #[true,true,true,true,false,true,false,true,false,true,false,true,true,false,false,false,false,true,true,false,false,false,false,false,false] rfl rfl ?_
                      refine qtk HT_ HW_ 4 142 #[true,true,true,true,true,true,false,true,false,true,false,true,true,false,false,false,false,true,true,false,false,false,false,false,false] rfl rfl hHeld ?_
                      refine qtk HT_ HW_ 6 144 #[true,true,true,true,true,true,true,true,false,true,false,true,true,false,false,false,false,true,true,false,false,false,false,false,false] rfl rfl hHeld ?_
                      refine qtk HT_ HW_ 8 146 #[true,true,true,true,true,true,true,true,true,true,false,true,true,false,false,false,false,true,true,false,false,false,false,false,false] rfl rfl hHeld ?_
                      refine qtk HT_ HW_ 10 148 #[true,true,true,true,true,true,true,true,true,true,true,true,true,false,false,false,false,true,true,false,false,false,false,false,false] rfl rfl hHeld ?_
                      refine qtk HT_ HW_ 13 151 #[true,true,true,true,true,true,true,true,true,true,true,true,true,true,false,false,false,true,true,false,false,false,false,false,false] rfl rfl hHeld ?_
                      refine qpu HT_ 14 152 #[true,true,true,true,true,true,true,true,true,true,true,true,true,true,true,false,false,true,true,false,false,false,false,false,false] rfl rfl ?_
                      refine qtk HT_ HW_ 15 153 #[true,true,true,true,true,true,true,true,true,true,true,true,true,true,true,true,false,true,true,false,false,false,false,false,false] rfl rfl hHeld ?_
                      refine qpu HT_ 16 154 #[true,true,true,true,true,true,true,true,true,true,true,true,true,true,true,true,true,true,true,false,false,false,false,false,false] rfl rfl ?_
                      refine qtk HT_ HW_ 19 157 #[true,true,true,true,true,true,true,true,true,true,true,true,true,true,true,true,true,true,true,true,false,false,false,false,false] rfl rfl hHeld ?_
                      refine qpu HT_ 20 158 #[true,true,true,true,true,true,true,true,true,true,true,true,true,true,true,true,true,true,true,true,true,false,false,false,false] rfl rfl ?_
                      refine qtk HT_ HW_ 21 159 #[true,true,true,true,true,true,true,true,true,true,true,true,true,true,true,true,true,true,true,true,true,true,false,false,false] rfl rfl hHeld ?_
                      refine qpu HT_ 22 160 #[true,true,true,true,true,true,true,true,true,true,true,true,true,true,true,true,true,true,true,true,true,true,true,false,false] rfl rfl ?_
                      refine qpu HT_ 23 161 #[true,true,true,true,true,true,true,true,true,true,true,true,true,true,true,true,true,true,true,true,true,true,true,true,false] rfl rfl ?_
                      refine qpu HT_ 24 162 #[true,true,true,true,true,true,true,true,true,true,true,true,true,true,true,true,true,true,true,true,true,true,true,true,true] rfl rfl ?_
                      refine xk (oh HT_.out qz9) ?_
                      try go_wp2
                      go_ret
                      exact⟨qz7,Ms HB iL kG mJ SS⟩
                     rw[if_neg c93]at H
                     have amM:(!(((au iH bC).f0)==((au dD bC).f0))||(!(((au iH bC).f1)==((au dD bC).f1))||(!(((au iH bC).f2)==(wrap64 ((wrap64 (((au dD bC).f2)+(rd kF ((au dD bC).f1)))) - (rd kF ((au dD bC).f0))))))))=false:=by simpa using c93
                     clear c93
                     have H':=ah.mk H
                     clear H
                     have ape:=nO.out
                     have apf:=oH.out
                     have apg:=qc.out
                     have aph:=qX.out
                     have agX:wr.cell? ⟨gy,0,none⟩=some (.slice ji gT.length je):=(aj dz.out 0).trans rfl
                     have agY:wr.cell? ⟨gy,1,none⟩=some (.slice kV dD.length jM):=(aj dz.out 1).trans rfl
                     have agZ:=ak dz.out 0
                     have ag0:=ak dz.out 1
                     have abx:0≤(bC:Int):=of_decide_eq_true gN
                     have aby:bC<(dD.length:Int):=of_decide_eq_true gN
                     obtain⟨xS,amR,abz,abA,abB⟩:=kH (Kd.dF aY.out).2.2 bC abx aby
                     cases amR
                     replace abx:=eq_true abx
                     replace aby:=eq_true aby
                     try go_wp2_with (first|((with_reducible refine aH (N:=18) rfl ?_);(try(refine iq (by rfl) ?_;dsimp only));refine qbx (N:=18) (cs:=#[.int .i64 0,.int .i64 0,.int .i64 0]) (t:=40) ?_;intro dx hg Iq bR hb;replace lu:=ah.mk (Kd.aM (cK lu) hb);replace aZ:=ah.mk (Kd.aM (cK aZ) hb);replace aY:=ah.mk (Kd.aM (Kd.nD (cK aY) dx (Nat.le_of_eq hg.symm)) hb);replace bJ:=ah.mk (Kd.aM (cK bJ) hb);replace bL:=ah.mk (Kd.aM (Kd.nD (cK bL) dx (Nat.le_of_eq hg.symm)) hb);replace cu:=ah.mk (Kd.aM (cK cu) hb);replace bW:=ah.mk (Kd.aM (Kd.nD (cK bW) dx (Nat.le_of_eq hg.symm)) hb);have kM:=ah.mk (bR);have amS:=ah.mk ((by rw[hg];exact(aG (wV HB iL kG mJ)):w.heap.size≤dx));have SS:=ah.mk ((by rw[hg];exact(aG (wV HB iL kG mJ)):w.heap.size≤dx));replace HB:=ah.mk (av (wV HB iL kG mJ) hb);have uz:=ah.mk ((ao9:gy≠dx));have BO:=ah.mk ((apa:dx≠gy));replace dz:=ah.mk (aA (g:=gy) (o:=.cells #[.slice ji gT.length je,.slice (some xS) dD.length jM] 27 (0,0)) (dP dz) hb);have uD:=ah.mk ((agP:jD≠dx));have BP:=ah.mk ((agQ:dx≠jD));replace gH:=ah.mk (aA (g:=jD) (o:=.cells #[.slice ni kW.length nk,.slice nR ng.length nS] 27 (0,0)) (dP gH) hb);have uE:=ah.mk ((amT:ig≠dx));have BQ:=ah.mk ((amU:dx≠ig));replace fG:=ah.mk (aA (g:=ig) (o:=.cells #[.slice mq jS.length mD,.slice nZ iH.length ny] 27 (0,0)) (dP fG) hb);clear hb bR hg;have apj:=BO.out;have apk:=uz.out;have apl:=BP.out;have apm:=uD.out;have apn:=BQ.out;have apo:=uE.out;have ag1:Iq.cell? ⟨dx,0,none⟩=some (.int .i64 0):=(aj kM.out 0).trans rfl;have ag2:Iq.cell? ⟨dx,1,none⟩=some (.int .i64 0):=(aj kM.out 1).trans rfl;have ag3:Iq.cell? ⟨dx,2,none⟩=some (.int .i64 0):=(aj kM.out 2).trans rfl;have ag4:=ak kM.out 0;have ag5:=ak kM.out 1;have ag6:=ak kM.out 2))
                     have n0_:ah (Kd.R (Kd.int .i64) 2 (((Iq.setCell ⟨dx,0,none⟩ (.int .i64 ((au dD bC).f0))).setCell ⟨dx,1,none⟩ (.int .i64 ((au dD bC).f1))).setCell ⟨dx,2,none⟩ (.int .i64 ((au dD bC).f2))) w.heap.size (fun k_=>some k_≠(.slice ji gT.length je:Value).ownBlock∧some k_≠(.slice ni kW.length nk:Value).ownBlock∧some k_≠(.slice mq jS.length mD:Value).ownBlock) (.slice BM kF.length zh) kF):=⟨by refine qpr ?_;exact Kd.bS (Kd.bX (p:=⟨dx,2,none⟩) (Kd.bX (p:=⟨dx,1,none⟩) (Kd.bX (p:=⟨dx,0,none⟩) (Kd.cO lu.out kM.out (by decide)) (fun _ hk=>hk.2) (.int .i64 ((au dD bC).f0))) (fun _ hk=>hk.2) (.int .i64 ((au dD bC).f1))) (fun _ hk=>hk.2) (.int .i64 ((au dD bC).f2))) (fun _ hk=>⟨hk.1.1,⟨hk.1.2.1,hk.1.2.2⟩⟩)⟩
                     have n1_:ah (Kd.R (Kd.int .i64) 2 (((Iq.setCell ⟨dx,0,none⟩ (.int .i64 ((au dD bC).f0))).setCell ⟨dx,1,none⟩ (.int .i64 ((au dD bC).f1))).setCell ⟨dx,2,none⟩ (.int .i64 ((au dD bC).f2))) w.heap.size (fun k_=>some k_≠(.slice BM kF.length zh:Value).ownBlock∧some k_≠(.slice ni kW.length nk:Value).ownBlock∧some k_≠(.slice mq jS.length mD:Value).ownBlock) (.slice ji gT.length je) gT):=⟨by refine qpr ?_;exact Kd.bS (Kd.bX (p:=⟨dx,2,none⟩) (Kd.bX (p:=⟨dx,1,none⟩) (Kd.bX (p:=⟨dx,0,none⟩) (Kd.cO aZ.out kM.out (by decide)) (fun _ hk=>hk.2) (.int .i64 ((au dD bC).f0))) (fun _ hk=>hk.2) (.int .i64 ((au dD bC).f1))) (fun _ hk=>hk.2) (.int .i64 ((au dD bC).f2))) (fun _ hk=>⟨hk.1.1,⟨hk.1.2.1,hk.1.2.2⟩⟩)⟩
                     have n2_:ah (Kd.R k40 40 (((Iq.setCell ⟨dx,0,none⟩ (.int .i64 ((au dD bC).f0))).setCell ⟨dx,1,none⟩ (.int .i64 ((au dD bC).f1))).setCell ⟨dx,2,none⟩ (.int .i64 ((au dD bC).f2))) w.heap.size (fun k_=>some k_≠(.slice nR ng.length nS:Value).ownBlock∧some k_≠(.slice nZ iH.length ny:Value).ownBlock∧k_≠dx) (.slice (some xS) dD.length jM) dD):=⟨acs aY⟩
                     have n3_:ah (Kd.R (Kd.int .i64) 2 (((Iq.setCell ⟨dx,0,none⟩ (.int .i64 ((au dD bC).f0))).setCell ⟨dx,1,none⟩ (.int .i64 ((au dD bC).f1))).setCell ⟨dx,2,none⟩ (.int .i64 ((au dD bC).f2))) w.heap.size (fun k_=>some k_≠(.slice BM kF.length zh:Value).ownBlock∧some k_≠(.slice ji gT.length je:Value).ownBlock∧some k_≠(.slice mq jS.length mD:Value).ownBlock) (.slice ni kW.length nk) kW):=⟨by refine qpr ?_;exact Kd.bS (Kd.bX (p:=⟨dx,2,none⟩) (Kd.bX (p:=⟨dx,1,none⟩) (Kd.bX (p:=⟨dx,0,none⟩) (Kd.cO bJ.out kM.out (by decide)) (fun _ hk=>hk.2) (.int .i64 ((au dD bC).f0))) (fun _ hk=>hk.2) (.int .i64 ((au dD bC).f1))) (fun _ hk=>hk.2) (.int .i64 ((au dD bC).f2))) (fun _ hk=>⟨hk.1.1,⟨hk.1.2.1,hk.1.2.2⟩⟩)⟩
                     have n4_:ah (Kd.R k40 40 (((Iq.setCell ⟨dx,0,none⟩ (.int .i64 ((au dD bC).f0))).setCell ⟨dx,1,none⟩ (.int .i64 ((au dD bC).f1))).setCell ⟨dx,2,none⟩ (.int .i64 ((au dD bC).f2))) w.heap.size (fun k_=>some k_≠(.slice (some xS) dD.length jM:Value).ownBlock∧some k_≠(.slice nZ iH.length ny:Value).ownBlock∧k_≠dx) (.slice nR ng.length nS) ng):=⟨acs bL⟩
                     have n5_:ah (Kd.R (Kd.int .i64) 2 (((Iq.setCell ⟨dx,0,none⟩ (.int .i64 ((au dD bC).f0))).setCell ⟨dx,1,none⟩ (.int .i64 ((au dD bC).f1))).setCell ⟨dx,2,none⟩ (.int .i64 ((au dD bC).f2))) w.heap.size (fun k_=>some k_≠(.slice BM kF.length zh:Value).ownBlock∧some k_≠(.slice ji gT.length je:Value).ownBlock∧some k_≠(.slice ni kW.length nk:Value).ownBlock) (.slice mq jS.length mD) jS):=⟨by refine qpr ?_;exact Kd.bS (Kd.bX (p:=⟨dx,2,none⟩) (Kd.bX (p:=⟨dx,1,none⟩) (Kd.bX (p:=⟨dx,0,none⟩) (Kd.cO cu.out kM.out (by decide)) (fun _ hk=>hk.2) (.int .i64 ((au dD bC).f0))) (fun _ hk=>hk.2) (.int .i64 ((au dD bC).f1))) (fun _ hk=>hk.2) (.int .i64 ((au dD bC).f2))) (fun _ hk=>⟨hk.1.1,⟨hk.1.2.1,hk.1.2.2⟩⟩)⟩
                     have n6_:ah (Kd.R k40 40 (((Iq.setCell ⟨dx,0,none⟩ (.int .i64 ((au dD bC).f0))).setCell ⟨dx,1,none⟩ (.int .i64 ((au dD bC).f1))).setCell ⟨dx,2,none⟩ (.int .i64 ((au dD bC).f2))) w.heap.size (fun k_=>some k_≠(.slice (some xS) dD.length jM:Value).ownBlock∧some k_≠(.slice nR ng.length nS:Value).ownBlock∧k_≠dx) (.slice nZ iH.length ny) iH):=⟨acs bW⟩
                     have n7_:ah ((((Iq.setCell ⟨dx,0,none⟩ (.int .i64 ((au dD bC).f0))).setCell ⟨dx,1,none⟩ (.int .i64 ((au dD bC).f1))).setCell ⟨dx,2,none⟩ (.int .i64 ((au dD bC).f2))).heap[gy]?=some (.cells #[.slice ji gT.length je,.slice (some xS) dD.length jM] 27 (0,0))):=⟨Nb uz dz⟩
                     have n8_:ah ((((Iq.setCell ⟨dx,0,none⟩ (.int .i64 ((au dD bC).f0))).setCell ⟨dx,1,none⟩ (.int .i64 ((au dD bC).f1))).setCell ⟨dx,2,none⟩ (.int .i64 ((au dD bC).f2))).heap[jD]?=some (.cells #[.slice ni kW.length nk,.slice nR ng.length nS] 27 (0,0))):=⟨Nb uD gH⟩
                     have n9_:ah ((((Iq.setCell ⟨dx,0,none⟩ (.int .i64 ((au dD bC).f0))).setCell ⟨dx,1,none⟩ (.int .i64 ((au dD bC).f1))).setCell ⟨dx,2,none⟩ (.int .i64 ((au dD bC).f2))).heap[ig]?=some (.cells #[.slice mq jS.length mD,.slice nZ iH.length ny] 27 (0,0))):=⟨Nb uE fG⟩
                     have abC:ah ((((Iq.setCell ⟨dx,0,none⟩ (.int .i64 ((au dD bC).f0))).setCell ⟨dx,1,none⟩ (.int .i64 ((au dD bC).f1))).setCell ⟨dx,2,none⟩ (.int .i64 ((au dD bC).f2))).heap[dx]?=some (.cells #[.int .i64 ((au dD bC).f0),.int .i64 ((au dD bC).f1),.int .i64 ((au dD bC).f2)] 40 (0,0))):=⟨apd kM⟩
                     have abD:ah (Below w.heap.size w (((Iq.setCell ⟨dx,0,none⟩ (.int .i64 ((au dD bC).f0))).setCell ⟨dx,1,none⟩ (.int .i64 ((au dD bC).f1))).setCell ⟨dx,2,none⟩ (.int .i64 ((au dD bC).f2)))):=⟨Ms HB iL kG mJ SS⟩
                     (try clear lu)
                     (try clear aZ)
                     (try clear aY)
                     (try clear bJ)
                     (try clear bL)
                     (try clear cu)
                     (try clear bW)
                     (try clear dz)
                     (try clear gH)
                     (try clear fG)
                     (try clear kM)
                     (try clear HB)
                     generalize (((Iq.setCell ⟨dx,0,none⟩ (.int .i64 ((au dD bC).f0))).setCell ⟨dx,1,none⟩ (.int .i64 ((au dD bC).f1))).setCell ⟨dx,2,none⟩ (.int .i64 ((au dD bC).f2)))=atX at n0_ n1_ n2_ n3_ n4_ n5_ n6_ n7_ n8_ n9_ abC abD ⊢
                     have lu:=n0_
                     have aZ:=n1_
                     have aY:=n2_
                     have bJ:=n3_
                     have bL:=n4_
                     have cu:=n5_
                     have bW:=n6_
                     have dz:=n7_
                     have gH:=n8_
                     have fG:=n9_
                     have kM:=abC
                     have HB:=abD
                     clear n0_ n1_ n2_ n3_ n4_ n5_ n6_ n7_ n8_ n9_ abC abD
                     replace lu:=ah.mk (Kd.fO lu.out)
                     replace aZ:=ah.mk (Kd.fO aZ.out)
                     replace aY:=ah.mk (Kd.fO aY.out)
                     replace bJ:=ah.mk (Kd.fO bJ.out)
                     replace bL:=ah.mk (Kd.fO bL.out)
                     replace cu:=ah.mk (Kd.fO cu.out)
                     replace bW:=ah.mk (Kd.fO bW.out)
                     replace dz:=ah.mk (dS dz.out)
                     replace gH:=ah.mk (dS gH.out)
                     replace fG:=ah.mk (dS fG.out)
                     replace kM:=ah.mk (dS kM.out)
                     replace HB:=ah.mk (bG HB.out)
                     have abE:0≤(bC:Int):=of_decide_eq_true gN
                     have abF:bC<(iH.length:Int):=of_decide_eq_true gN
                     obtain⟨xU,amV,BR,BS,BU⟩:=kH (Kd.dF bW.out).2.2 bC abE abF
                     cases amV
                     replace abE:=eq_true abE
                     replace abF:=eq_true abF
                     have abG:0≤(((au dD bC).f1):Int):=of_decide_eq_true gN
                     have abH:((au dD bC).f1)<(kF.length:Int):=of_decide_eq_true gN
                     obtain⟨KL,amW,BZ⟩:=Kd.iC (Kd.dF lu.out).2.2 ((au dD bC).f1) abG abH
                     cases amW
                     replace abG:=eq_true abG
                     replace abH:=eq_true abH
                     have abI:0≤(((au dD bC).f0):Int):=of_decide_eq_true gN
                     have abJ:((au dD bC).f0)<(kF.length:Int):=of_decide_eq_true gN
                     obtain⟨abK,amX,Ca⟩:=Kd.iC (Kd.dF lu.out).2.2 ((au dD bC).f0) abI abJ
                     obtain rfl:KL=abK:=(by injection amX)
                     replace abI:=eq_true abI
                     replace abJ:=eq_true abJ
                     refine qP (n:=25) (S:=fun w'=>w'.cell? ⟨ig,0,none⟩=some (.slice mq jS.length mD)∧w'.cell? ⟨ig,1,none⟩=some (.slice (some xU) iH.length ny)∧w'.cell? ⟨dx,0,none⟩=some (.int .i64 ((au dD bC).f0))∧w'.cell? ⟨dx,1,none⟩=some (.int .i64 ((au dD bC).f1))∧w'.cell? ⟨dx,2,none⟩=some (.int .i64 ((au dD bC).f2))∧w'.cell? (xU.add ((bC).toNat*3))=some (.int .i64 ((au iH bC).f0))∧w'.cell? ⟨(xU.add ((bC).toNat*3)).block,(xU.add ((bC).toNat*3)).off+1,none⟩=some (.int .i64 ((au iH bC).f1))∧w'.cell? ⟨(xU.add ((bC).toNat*3)).block,(xU.add ((bC).toNat*3)).off+2,none⟩=some (.int .i64 ((au iH bC).f2))∧w'.cell? (KL.add (((au dD bC).f1)).toNat)=some (.int .i64 (rd kF ((au dD bC).f1)))∧w'.cell? (KL.add (((au dD bC).f0)).toNat)=some (.int .i64 (rd kF ((au dD bC).f0)))) (ds:=[]) #[false,false,false,false,false,false,false,false,false,false,false,false,false,false,false,false,false,false,false,false,false,false,false,false,false] qz9 rfl rfl ⟨(aj fG.out 0).trans rfl,(aj fG.out 1).trans rfl,(aj kM.out 0).trans rfl,(aj kM.out 1).trans rfl,(aj kM.out 2).trans rfl,BR,BS,BU,BZ,Ca⟩ (fun hHeld=>?_);refine jZ ay.afK ay.Xm (fun HT_ HW_=>?_)
                     generalize atX.drew=awc at lu aZ aY bJ bL cu bW dz gH fG kM HB BR BS BU BZ Ca hHeld ⊢
                     refine qpu HT_ 0 138 #[true,false,false,false,false,false,false,false,false,false,false,false,false,false,false,false,false,false,false,false,false,false,false,false,false] rfl rfl ?_
                     refine qpu HT_ 2 140 #[true,false,true,false,false,false,false,false,false,false,false,false,false,false,false,false,false,false,false,false,false,false,false,false,false] rfl rfl ?_
                     refine qpu HT_ 5 143 #[true,false,true,false,false,true,false,false,false,false,false,false,false,false,false,false,false,false,false,false,false,false,false,false,false] rfl rfl ?_
                     refine qpu HT_ 7 145 #[true,false,true,false,false,true,false,true,false,false,false,false,false,false,false,false,false,false,false,false,false,false,false,false,false] rfl rfl ?_
                     refine qpu HT_ 9 147 #[true,false,true,false,false,true,false,true,false,true,false,false,false,false,false,false,false,false,false,false,false,false,false,false,false] rfl rfl ?_
                     refine qpu HT_ 11 149 #[true,false,true,false,false,true,false,true,false,true,false,true,false,false,false,false,false,false,false,false,false,false,false,false,false] rfl rfl ?_
                     refine qpu HT_ 12 150 #[true,false,true,false,false,true,false,true,false,true,false,true,true,false,false,false,false,false,false,false,false,false,false,false,false] rfl rfl ?_
                     refine qpu HT_ 17 155 #[true,false,true,false,false,true,false,true,false,true,false,true,true,false,false,false,false,true,false,false,false,false,false,false,false] rfl rfl ?_
                     refine qpu HT_ 18 156 #[true,false,true,false,false,true,false,true,false,true,false,true,true,false,false,false,false,true,true,false,false,false,false,false,false] rfl rfl ?_
                     refine qtk HT_ HW_ 1 139 #[true,true,true,false,false,true,false,true,false,true,false,true,true,false,false,false,false,true,true,false,false,false,false,false,false] rfl rfl hHeld ?_
                     refine qpu HT_ 3 141 #[true,true,true,true,false,true,false,true,false,true,false,true,true,false,false,false,false,true,true,false,false,false,false,false,false] rfl rfl ?_
                     refine qtk HT_ HW_ 4 142 #[true,true,true,true,true,true,false,true,false,true,false,true,true,false,false,false,false,true,true,false,false,false,false,false,false] rfl rfl hHeld ?_
                     refine qtk HT_ HW_ 6 144 #[true,true,true,true,true,true,true,true,false,true,false,true,true,false,false,false,false,true,true,false,false,false,false,false,false] rfl rfl hHeld ?_
                     refine qtk HT_ HW_ 8 146 #[true,true,true,true,true,true,true,true,true,true,false,true,true,false,false,false,false,true,true,false,false,false,false,false,false] rfl rfl hHeld ?_
                     refine qtk HT_ HW_ 10 148 #[true,true,true,true,true,true,true,true,true,true,true,true,true,false,false,false,false,true,true,false,false,false,false,false,false] rfl rfl hHeld ?_
                     refine qtk HT_ HW_ 13 151 #[true,true,true,true,true,true,true,true,true,true,true,true,true,true,false,false,false,true,true,false,false,false,false,false,false] rfl rfl hHeld ?_
                     refine qpu HT_ 14 152 #[true,true,true,true,true,true,true,true,true,true,true,true,true,true,true,false,false,true,true,false,false,false,false,false,false] rfl rfl ?_
                     refine qtk HT_ HW_ 15 153 #[true,true,true,true,true,true,true,true,true,true,true,true,true,true,true,true,false,true,true,false,false,false,false,false,false] rfl rfl hHeld ?_
                     refine qpu HT_ 16 154 #[true,true,true,true,true,true,true,true,true,true,true,true,true,true,true,true,true,true,true,false,false,false,false,false,false] rfl rfl ?_
                     refine qtk HT_ HW_ 19 157 #[true,true,true,true,true,true,true,true,true,true,true,true,true,true,true,true,true,true,true,true,false,false,false,false,false] rfl rfl hHeld ?_
                     refine qpu HT_ 20 158 #[true,true,true,true,true,true,true,true,true,true,true,true,true,true,true,true,true,true,true,true,true,false,false,false,false] rfl rfl ?_
                     refine qtk HT_ HW_ 21 159 #[true,true,true,true,true,true,true,true,true,true,true,true,true,true,true,true,true,true,true,true,true,true,false,false,false] rfl rfl hHeld ?_
                     refine qpu HT_ 22 160 #[true,true,true,true,true,true,true,true,true,true,true,true,true,true,true,true,true,true,true,true,true,true,true,false,false] rfl rfl ?_
                     refine qpu HT_ 23 161 #[true,true,true,true,true,true,true,true,true,true,true,true,true,true,true,true,true,true,true,true,true,true,true,true,false] rfl rfl ?_
                     refine qpu HT_ 24 162 #[true,true,true,true,true,true,true,true,true,true,true,true,true,true,true,true,true,true,true,true,true,true,true,true,true] rfl rfl ?_
                     refine xk (oh HT_.out qz9) ?_
                     try go_wp2
                     go_roundg k4
                     case measure=>have:=HJ9.out;have:=Xp.out;have:=abw.out;have:=HK4.out;omega
                     case rel=>exact⟨(wrap64 (bC+1)),iY,H',⟨by have:=HJ9.out;have:=Xp.out;have:=abw.out;have:=HK4.out;omega⟩,⟨cK lu⟩,⟨cK aZ⟩,⟨by refine qpr ?_;exact Kd.bS aY.out (fun _ hk=>⟨hk.1,hk.2.1⟩)⟩,⟨cK bJ⟩,⟨by refine qpr ?_;exact Kd.bS bL.out (fun _ hk=>⟨hk.1,hk.2.1⟩)⟩,⟨cK cu⟩,⟨by refine qpr ?_;exact Kd.bS bW.out (fun _ hk=>⟨hk.1,hk.2.1⟩)⟩,⟨dP dz⟩,⟨dP gH⟩,⟨dP fG⟩,⟨Ms HB iL kG mJ SS⟩⟩
                    rw[if_neg c92]at H
                    exact absurd H (by simp)
                   rw[if_neg c91]at H
                   exact absurd H (by simp)
                  rw[if_neg c90]at H
                  exact absurd H (by simp)
                 rw[if_neg c89]at H
                 exact absurd H (by simp)
                rw[if_neg c88]at H
                exact absurd H (by simp)
               rw[if_neg c87]at H
               exact absurd H (by simp)
              ·rw[if_neg c86]at H
               have amL:decide (bC<(dD.length:Int))=false:=decide_eq_false c86
               clear c86
               obtain⟨yL,afQ,H⟩:=Option.bind_eq_some_iff.mp H
               have atY:=ah.mk afQ
               clear afQ
               obtain⟨yM,afR,H⟩:=Option.bind_eq_some_iff.mp H
               have atZ:=ah.mk afR
               clear afR
               obtain⟨⟨acu,apq,Tv⟩,afS,H⟩:=Option.bind_eq_some_iff.mp H
               try dsimp only at H
               have at0:=ah.mk afS
               clear afS
               obtain⟨⟨acv,apr,VB⟩,afT,H⟩:=Option.bind_eq_some_iff.mp H
               try dsimp only at H
               have at1:=ah.mk afT
               clear afT
               have abL:=ah.mk H
               clear H
               have aps:=nO.out
               have apt:=oH.out
               have apu:=qc.out
               have apv:=qX.out
               have ag7:wr.cell? ⟨gy,0,none⟩=some (.slice ji gT.length je):=(aj dz.out 0).trans rfl
               have ag8:wr.cell? ⟨gy,1,none⟩=some (.slice kV dD.length jM):=(aj dz.out 1).trans rfl
               have ag9:=ak dz.out 0
               have aha:=ak dz.out 1
               go_upto_region 28 with(first|((with_reducible refine aK (f:=7) rfl ?_);refine dH (some 165) rfl rfl Tryz.func7 qz9 rfl #[.slice A1 l1.length c1,.int .i64 1,.int .i64 (gT.length:Int)] rfl jh ?_;(with_reducible refine(jB.calls _ _ l1 1 (gT.length:Int) yL _ ?bT ?bU atY.out).mono ?_);(case bT=>exact qz2 HR1 HB);(case bU=>exact jL HC1);rintro e w' ⟨rfl,⟨nd,rfl⟩⟩;refine⟨_,rfl,?_⟩)|((with_reducible refine aK (f:=7) rfl ?_);refine dH (some 168) rfl rfl Tryz.func7 qz9 rfl #[.slice A1 l1.length c1,.int .i64 2,.int .i64 (gT.length:Int)] rfl jh ?_;(with_reducible refine(jB.calls _ _ l1 2 (gT.length:Int) yM _ ?bT ?bU atZ.out).mono ?_);(case bT=>repeat(first|exact(Kd.gX HR1.out (wV HB iL kG mJ))|(with_reducible refine Kd.oJ ?_ _)|(with_reducible refine Kd.qE ?_ _)|(with_reducible refine Kd.uT ?_)));(case bU=>exact jL HC1);rintro e w' ⟨rfl,⟨nd,rfl⟩⟩;refine⟨_,rfl,?_⟩)|((with_reducible refine aK (f:=14) rfl ?_);refine dH (some 173) rfl rfl Tryz.func14 qz9 rfl #[.agg #[.slice ji gT.length je,.slice kV dD.length jM],.int .i64 yL,.int .i64 yM] rfl jh ?_;(with_reducible refine(eX.calls k4 _ _ gT _ _ dD yL yM acu apq Tv _ ?bT ?bU ?eu ?eF at0.out).mono ?_);(case bT=>exact qO aZ);(case bU=>exact qg aZ);(case eu=>exact qO aY);(case eF=>exact qg aY);rintro e apw ⟨rfl,hb⟩;refine⟨_,rfl,?_⟩;replace lu:=ah.mk (Kd.aM (cK lu) hb);replace aZ:=ah.mk (Kd.aM (cK aZ) hb);replace aY:=ah.mk (Kd.aM (cK aY) hb);replace bJ:=ah.mk (Kd.aM (cK bJ) hb);replace bL:=ah.mk (Kd.aM (cK bL) hb);replace cu:=ah.mk (Kd.aM (cK cu) hb);replace bW:=ah.mk (Kd.aM (cK bW) hb);replace dz:=ah.mk (aA (g:=gy) (o:=.cells #[.slice ji gT.length je,.slice kV dD.length jM] 27 (0,0)) (dP dz) hb);replace gH:=ah.mk (aA (g:=jD) (o:=.cells #[.slice ni kW.length nk,.slice nR ng.length nS] 27 (0,0)) (dP gH) hb);replace fG:=ah.mk (aA (g:=ig) (o:=.cells #[.slice mq jS.length mD,.slice nZ iH.length ny] 27 (0,0)) (dP fG) hb);replace HB:=ah.mk (av (wV HB iL kG mJ) hb);(try clear hb);(try clear hb2);(try clear hk);(try clear hi);have apx:=BN.out;have apy:=wP.out;have ahb:apw.cell? ⟨ig,0,none⟩=some (.slice mq jS.length mD):=(aj fG.out 0).trans rfl;have ahc:apw.cell? ⟨ig,1,none⟩=some (.slice nZ iH.length ny):=(aj fG.out 1).trans rfl;have ahd:=ak fG.out 0;have ahe:=ak fG.out 1)|((with_reducible refine aK (f:=14) rfl ?_);refine dH (some 181) rfl rfl Tryz.func14 qz9 rfl #[.agg #[.slice mq jS.length mD,.slice nZ iH.length ny],.int .i64 yL,.int .i64 yM] rfl jh ?_;(with_reducible refine(eX.calls k4 _ _ jS _ _ iH yL yM acv apr VB _ ?bT ?bU ?eu ?eF at1.out).mono ?_);(case bT=>exact qO cu);(case bU=>exact qg cu);(case eu=>exact qO bW);(case eF=>exact qg bW);rintro e apz ⟨rfl,hb⟩;refine⟨_,rfl,?_⟩;replace lu:=ah.mk (Kd.aM (cK lu) hb);replace aZ:=ah.mk (Kd.aM (cK aZ) hb);replace aY:=ah.mk (Kd.aM (cK aY) hb);replace bJ:=ah.mk (Kd.aM (cK bJ) hb);replace bL:=ah.mk (Kd.aM (cK bL) hb);replace cu:=ah.mk (Kd.aM (cK cu) hb);replace bW:=ah.mk (Kd.aM (cK bW) hb);replace dz:=ah.mk (aA (g:=gy) (o:=.cells #[.slice ji gT.length je,.slice kV dD.length jM] 27 (0,0)) (dP dz) hb);replace gH:=ah.mk (aA (g:=jD) (o:=.cells #[.slice ni kW.length nk,.slice nR ng.length nS] 27 (0,0)) (dP gH) hb);replace fG:=ah.mk (aA (g:=ig) (o:=.cells #[.slice mq jS.length mD,.slice nZ iH.length ny] 27 (0,0)) (dP fG) hb);replace HB:=ah.mk (av (wV HB iL kG mJ) hb);(try clear hb);(try clear hb2);(try clear hk);(try clear hi)))
               (try simp only[Act.put,List.setIfInBounds_toArray,List.set_cons_zero,List.set_cons_succ])
               go_cut [210] (fun v210 wc=>∃ (kq:Nat) (zi:Bool),v210= .bool zi∧ah (ay.j4 kq kF zi gT dD jS iH=some r)∧ah (kq≤k4)∧ah (Kd.R (Kd.int .i64) 2 wc w.heap.size (fun k_=>some k_≠((.slice ji gT.length je):Value).ownBlock∧some k_≠((.slice ni kW.length nk):Value).ownBlock∧some k_≠((.slice mq jS.length mD):Value).ownBlock) (.slice BM kF.length zh) kF)∧ah (Kd.R (Kd.int .i64) 2 wc w.heap.size (fun k_=>some k_≠((.slice BM kF.length zh):Value).ownBlock∧some k_≠((.slice ni kW.length nk):Value).ownBlock∧some k_≠((.slice mq jS.length mD):Value).ownBlock) (.slice ji gT.length je) gT)∧ah (Kd.R k40 40 wc w.heap.size (fun k_=>some k_≠((.slice nR ng.length nS):Value).ownBlock∧some k_≠((.slice nZ iH.length ny):Value).ownBlock) (.slice kV dD.length jM) dD)∧ah (Kd.R (Kd.int .i64) 2 wc w.heap.size (fun k_=>some k_≠((.slice BM kF.length zh):Value).ownBlock∧some k_≠((.slice ji gT.length je):Value).ownBlock∧some k_≠((.slice mq jS.length mD):Value).ownBlock) (.slice ni kW.length nk) kW)∧ah (Kd.R k40 40 wc w.heap.size (fun k_=>some k_≠((.slice kV dD.length jM):Value).ownBlock∧some k_≠((.slice nZ iH.length ny):Value).ownBlock) (.slice nR ng.length nS) ng)∧ah (Kd.R (Kd.int .i64) 2 wc w.heap.size (fun k_=>some k_≠((.slice BM kF.length zh):Value).ownBlock∧some k_≠((.slice ji gT.length je):Value).ownBlock∧some k_≠((.slice ni kW.length nk):Value).ownBlock) (.slice mq jS.length mD) jS)∧ah (Kd.R k40 40 wc w.heap.size (fun k_=>some k_≠((.slice kV dD.length jM):Value).ownBlock∧some k_≠((.slice nR ng.length nS):Value).ownBlock) (.slice nZ iH.length ny) iH)∧ah (wc.heap[gy]?=some (.cells #[(.slice ji gT.length je),(.slice kV dD.length jM)] 27 (0,0)))∧ah (wc.heap[jD]?=some (.cells #[(.slice ni kW.length nk),(.slice nR ng.length nS)] 27 (0,0)))∧ah (wc.heap[ig]?=some (.cells #[(.slice mq jS.length mD),(.slice nZ iH.length ny)] 27 (0,0)))∧ah (Below w.heap.size w wc))
               case first=>as_aux_lemma=>
                have H:=abL.out
                clear abL
                by_cases SV:(Tv !=VB)=true
                ·rw[if_pos SV]at H
                 have Ih:(Tv !=VB)=true:=SV
                 (try(have afU:decide (Tv=VB)=false:=by simpa using SV))
                 (try(have afV:(Tv==VB)=false:=by simpa using SV))
                 (try(have apA:¬(Tv=VB):=by simpa using SV))
                 clear SV
                 (first|rw[Ih]|(simp only[yD,yE];rw[Ih])|skip)
                 exact absurd HRT.out (by rw[ay.afN _ _ _ _ _ _ _ H];decide)
                rw[if_neg SV]at H
                have Ih:(Tv !=VB)=false:=by simpa using SV
                (try(have afU:decide (Tv=VB)=true:=by simpa using SV))
                (try(have afV:(Tv==VB)=true:=by simpa using SV))
                clear SV
                (first|rw[Ih]|(simp only[yD,yE];rw[Ih])|skip)
                by_cases abM:Tv=true
                ·subst abM
                 rw[if_pos rfl]at H
                 by_cases abN:0≤yM
                 ·rw[if_pos abN]at H
                  have apB:decide (0≤yM)=true:=decide_eq_true abN
                  clear abN
                  by_cases c130:yM<(kF.length:Int)
                  ·rw[if_pos c130]at H
                   have apC:decide (yM<(kF.length:Int))=true:=decide_eq_true c130
                   clear c130
                   by_cases c131:0≤yL
                   ·rw[if_pos c131]at H
                    have apD:decide (0≤yL)=true:=decide_eq_true c131
                    clear c131
                    by_cases abO:yL<(kF.length:Int)
                    ·rw[if_pos abO]at H
                     have apE:decide (yL<(kF.length:Int))=true:=decide_eq_true abO
                     clear abO
                     by_cases Tw:acv=(wrap64 ((wrap64 (acu+(rd kF yM))) - (rd kF yL)))
                     ·rw[if_pos Tw]at H
                      have LD:(acv==(wrap64 ((wrap64 (acu+(rd kF yM))) - (rd kF yL))))=true:=beq_iff_eq.mpr Tw
                      have LG:(acv !=(wrap64 ((wrap64 (acu+(rd kF yM))) - (rd kF yL))))=false:=bne_eq_false_iff_eq.mpr Tw
                      clear Tw
                      have H':=ah.mk H
                      clear H
                      try go_wp2
                      replace lu:=ah.mk (Kd.fO lu.out)
                      replace aZ:=ah.mk (Kd.fO aZ.out)
                      replace aY:=ah.mk (Kd.fO aY.out)
                      replace bJ:=ah.mk (Kd.fO bJ.out)
                      replace bL:=ah.mk (Kd.fO bL.out)
                      replace cu:=ah.mk (Kd.fO cu.out)
                      replace bW:=ah.mk (Kd.fO bW.out)
                      replace dz:=ah.mk (dS dz.out)
                      replace gH:=ah.mk (dS gH.out)
                      replace fG:=ah.mk (dS fG.out)
                      replace HB:=ah.mk (bG HB.out)
                      have acw:0≤(yM:Int):=of_decide_eq_true gN
                      have acy:yM<(kF.length:Int):=of_decide_eq_true gN
                      obtain⟨abP,at5,Cb⟩:=Kd.iC (Kd.dF lu.out).2.2 yM acw acy
                      cases at5
                      replace acw:=eq_true acw
                      replace acy:=eq_true acy
                      have acz:0≤(yL:Int):=of_decide_eq_true gN
                      have acA:yL<(kF.length:Int):=of_decide_eq_true gN
                      obtain⟨amY,at6,Cc⟩:=Kd.iC (Kd.dF lu.out).2.2 yL acz acA
                      obtain rfl:abP=amY:=(by injection at6)
                      replace acz:=eq_true acz
                      replace acA:=eq_true acA
                      refine qP (n:=26) (S:=fun w'=>w'.cell? (abP.add (yM).toNat)=some (.int .i64 (rd kF yM))∧w'.cell? (abP.add (yL).toNat)=some (.int .i64 (rd kF yL))) (ds:=[]) #[false,false,false,false,false,false,false,false,false,false,false,false,false,false,false,false,false,false,false,false,false,false,false,false,false,false] qz9 rfl rfl ⟨Cb,Cc⟩ (fun hHeld=>?_);refine jZ ay.afL ay.Xn (fun HT_ HW_=>?_)
                      generalize apz.drew=awd at lu aZ aY bJ bL cu bW dz gH fG HB Cb Cc hHeld ⊢
                      refine qpu HT_ 0 185 #[true,false,false,false,false,false,false,false,false,false,false,false,false,false,false,false,false,false,false,false,false,false,false,false,false,false] rfl rfl ?_
                      refine qpu HT_ 1 186 #[true,true,false,false,false,false,false,false,false,false,false,false,false,false,false,false,false,false,false,false,false,false,false,false,false,false] rfl rfl ?_
                      refine qpu HT_ 2 187 #[true,true,true,false,false,false,false,false,false,false,false,false,false,false,false,false,false,false,false,false,false,false,false,false,false,false] rfl rfl ?_
                      refine qpu HT_ 3 188 #[true,true,true,true,false,false,false,false,false,false,false,false,false,false,false,false,false,false,false,false,false,false,false,false,false,false] rfl rfl ?_
                      refine qpu HT_ 4 189 #[true,true,true,true,true,false,false,false,false,false,false,false,false,false,false,false,false,false,false,false,false,false,false,false,false,false] rfl rfl ?_
                      refine qpu HT_ 5 190 #[true,true,true,true,true,true,false,false,false,false,false,false,false,false,false,false,false,false,false,false,false,false,false,false,false,false] rfl rfl ?_
                      refine qpu HT_ 6 191 #[true,true,true,true,true,true,true,false,false,false,false,false,false,false,false,false,false,false,false,false,false,false,false,false,false,false] rfl rfl ?_
                      refine qpu HT_ 7 192 #[true,true,true,true,true,true,true,true,false,false,false,false,false,false,false,false,false,false,false,false,false,false,false,false,false,false] rfl rfl ?_
                      refine qpu HT_ 8 193 #[true,true,true,true,true,true,true,true,true,false,false,false,false,false,false,false,false,false,false,false,false,false,false,false,false,false] rfl rfl ?_
                      refine qpu HT_ 9 194 #[true,true,true,true,true,true,true,true,true,true,false,false,false,false,false,false,false,false,false,false,false,false,false,false,false,false] rfl rfl ?_
                      refine qpu HT_ 10 195 #[true,true,true,true,true,true,true,true,true,true,true,false,false,false,false,false,false,false,false,false,false,false,false,false,false,false] rfl rfl ?_
                      refine qpu HT_ 13 198 #[true,true,true,true,true,true,true,true,true,true,true,false,false,true,false,false,false,false,false,false,false,false,false,false,false,false] rfl rfl ?_
                      refine qpu HT_ 14 199 #[true,true,true,true,true,true,true,true,true,true,true,false,false,true,true,false,false,false,false,false,false,false,false,false,false,false] rfl rfl ?_
                      refine qpu HT_ 15 200 #[true,true,true,true,true,true,true,true,true,true,true,false,false,true,true,true,false,false,false,false,false,false,false,false,false,false] rfl rfl ?_
                      refine qtk HT_ HW_ 11 196 #[true,true,true,true,true,true,true,true,true,true,true,true,false,true,true,true,false,false,false,false,false,false,false,false,false,false] rfl rfl hHeld ?_
                      refine qpu HT_ 12 197 #[true,true,true,true,true,true,true,true,true,true,true,true,true,true,true,true,false,false,false,false,false,false,false,false,false,false] rfl rfl ?_
                      refine qtk HT_ HW_ 16 201 #[true,true,true,true,true,true,true,true,true,true,true,true,true,true,true,true,true,false,false,false,false,false,false,false,false,false] rfl rfl hHeld ?_
                      refine qpu HT_ 17 202 #[true,true,true,true,true,true,true,true,true,true,true,true,true,true,true,true,true,true,false,false,false,false,false,false,false,false] rfl rfl ?_
                      refine qpu HT_ 18 203 #[true,true,true,true,true,true,true,true,true,true,true,true,true,true,true,true,true,true,true,false,false,false,false,false,false,false] rfl rfl ?_
                      refine qpu HT_ 19 204 #[true,true,true,true,true,true,true,true,true,true,true,true,true,true,true,true,true,true,true,true,false,false,false,false,false,false] rfl rfl ?_
                      refine qpu HT_ 20 205 #[true,true,true,true,true,true,true,true,true,true,true,true,true,true,true,true,true,true,true,true,true,false,false,false,false,false] rfl rfl ?_
                      refine qpu HT_ 21 206 #[true,true,true,true,true,true,true,true,true,true,true,true,true,true,true,true,true,true,true,true,true,true,false,false,false,false] rfl rfl ?_
                      refine qpu HT_ 22 207 #[true,true,true,true,true,true,true,true,true,true,true,true,true,true,true,true,true,true,true,true,true,true,true,false,false,false] rfl rfl ?_
                      refine qpu HT_ 23 208 #[true,true,true,true,true,true,true,true,true,true,true,true,true,true,true,true,true,true,true,true,true,true,true,true,false,false] rfl rfl ?_
                      refine qpu HT_ 24 209 #[true,true,true,true,true,true,true,true,true,true,true,true,true,true,true,true,true,true,true,true,true,true,true,true,true,false] rfl rfl ?_
                      refine qpu HT_ 25 210 #[true,true,true,true,true,true,true,true,true,true,true,true,true,true,true,true,true,true,true,true,true,true,true,true,true,true] rfl rfl ?_
                      refine xk (oh HT_.out qz9) ?_
                      try go_wp2
                      go_meet
                      case rel=>exact⟨_,((apq !=apr)),iY,H',⟨by have:=HJ9.out;have:=Xp.out;have:=abw.out;have:=HK4.out;first|omega|exact Nat.le_refl _⟩,⟨cK lu⟩,⟨cK aZ⟩,⟨cK aY⟩,⟨cK bJ⟩,⟨cK bL⟩,⟨cK cu⟩,⟨cK bW⟩,⟨dP dz⟩,⟨dP gH⟩,⟨dP fG⟩,⟨wV HB iL kG mJ⟩⟩
                     rw[if_neg Tw]at H
                     have LD:(acv==(wrap64 ((wrap64 (acu+(rd kF yM))) - (rd kF yL))))=false:=beq_eq_false_iff_ne.mpr Tw
                     have LG:(acv !=(wrap64 ((wrap64 (acu+(rd kF yM))) - (rd kF yL))))=true:=bne_iff_ne.mpr Tw
                     exact absurd HRT.out (by rw[ay.afN _ _ _ _ _ _ _ H];decide)
                    rw[if_neg abO]at H
                    exact absurd H (by simp)
                   rw[if_neg c131]at H
                   exact absurd H (by simp)
                  rw[if_neg c130]at H
                  exact absurd H (by simp)
                 rw[if_neg abN]at H
                 exact absurd H (by simp)
                replace abM:=Bool.eq_false_iff.mpr abM
                subst abM
                rw[if_neg (show ¬(false=true) by decide)]at H
                have H':=ah.mk H
                clear H
                try go_wp2
                replace lu:=ah.mk (Kd.fO lu.out)
                replace aZ:=ah.mk (Kd.fO aZ.out)
                replace aY:=ah.mk (Kd.fO aY.out)
                replace bJ:=ah.mk (Kd.fO bJ.out)
                replace bL:=ah.mk (Kd.fO bL.out)
                replace cu:=ah.mk (Kd.fO cu.out)
                replace bW:=ah.mk (Kd.fO bW.out)
                replace dz:=ah.mk (dS dz.out)
                replace gH:=ah.mk (dS gH.out)
                replace fG:=ah.mk (dS fG.out)
                replace HB:=ah.mk (bG HB.out)
                refine qP (n:=26) (S:=fun w'=>True) (ds:=[]) #[false,false,false,false,false,false,false,false,false,false,false,false,false,false,false,false,false,false,false,false,false,false,false,false,false,false] qz9 rfl rfl trivial (fun hHeld=>?_);refine jZ ay.afL ay.Xn (fun HT_ HW_=>?_)
                generalize apz.drew=awe at lu aZ aY bJ bL cu bW dz gH fG HB hHeld ⊢
                refine qpu HT_ 0 185 #[true,false,false,false,false,false,false,false,false,false,false,false,false,false,false,false,false,false,false,false,false,false,false,false,false,false] rfl rfl ?_
                refine qpu HT_ 1 186 #[true,true,false,false,false,false,false,false,false,false,false,false,false,false,false,false,false,false,false,false,false,false,false,false,false,false] rfl rfl ?_
                refine qpu HT_ 2 187 #[true,true,true,false,false,false,false,false,false,false,false,false,false,false,false,false,false,false,false,false,false,false,false,false,false,false] rfl rfl ?_
                refine qpu HT_ 3 188 #[true,true,true,true,false,false,false,false,false,false,false,false,false,false,false,false,false,false,false,false,false,false,false,false,false,false] rfl rfl ?_
                refine qpu HT_ 4 189 #[true,true,true,true,true,false,false,false,false,false,false,false,false,false,false,false,false,false,false,false,false,false,false,false,false,false] rfl rfl ?_
                refine qpu HT_ 5 190 #[true,true,true,true,true,true,false,false,false,false,false,false,false,false,false,false,false,false,false,false,false,false,false,false,false,false] rfl rfl ?_
                refine qpn HT_ 6 191 #[true,true,true,true,true,true,true,false,false,false,false,false,false,false,false,false,false,false,false,false,false,false,false,false,false,false] rfl rfl ?_
                refine qpn HT_ 7 192 #[true,true,true,true,true,true,true,true,false,false,false,false,false,false,false,false,false,false,false,false,false,false,false,false,false,false] rfl rfl ?_
                refine qpn HT_ 8 193 #[true,true,true,true,true,true,true,true,true,false,false,false,false,false,false,false,false,false,false,false,false,false,false,false,false,false] rfl rfl ?_
                refine qpn HT_ 9 194 #[true,true,true,true,true,true,true,true,true,true,false,false,false,false,false,false,false,false,false,false,false,false,false,false,false,false] rfl rfl ?_
                refine qpn HT_ 10 195 #[true,true,true,true,true,true,true,true,true,true,true,false,false,false,false,false,false,false,false,false,false,false,false,false,false,false] rfl rfl ?_
                refine qpn HT_ 11 196 #[true,true,true,true,true,true,true,true,true,true,true,true,false,false,false,false,false,false,false,false,false,false,false,false,false,false] rfl rfl ?_
                refine qpn HT_ 12 197 #[true,true,true,true,true,true,true,true,true,true,true,true,true,false,false,false,false,false,false,false,false,false,false,false,false,false] rfl rfl ?_
                refine qpn HT_ 13 198 #[true,true,true,true,true,true,true,true,true,true,true,true,true,true,false,false,false,false,false,false,false,false,false,false,false,false] rfl rfl ?_
                refine qpn HT_ 14 199 #[true,true,true,true,true,true,true,true,true,true,true,true,true,true,true,false,false,false,false,false,false,false,false,false,false,false] rfl rfl ?_
                refine qpn HT_ 15 200 #[true,true,true,true,true,true,true,true,true,true,true,true,true,true,true,true,false,false,false,false,false,false,false,false,false,false] rfl rfl ?_
                refine qpn HT_ 16 201 #[true,true,true,true,true,true,true,true,true,true,true,true,true,true,true,true,true,false,false,false,false,false,false,false,false,false] rfl rfl ?_
                refine qpn HT_ 17 202 #[true,true,true,true,true,true,true,true,true,true,true,true,true,true,true,true,true,true,false,false,false,false,false,false,false,false] rfl rfl ?_
                refine qpn HT_ 18 203 #[true,true,true,true,true,true,true,true,true,true,true,true,true,true,true,true,true,true,true,false,false,false,false,false,false,false] rfl rfl ?_
                refine qpn HT_ 19 204 #[true,true,true,true,true,true,true,true,true,true,true,true,true,true,true,true,true,true,true,true,false,false,false,false,false,false] rfl rfl ?_
                refine qpn HT_ 20 205 #[true,true,true,true,true,true,true,true,true,true,true,true,true,true,true,true,true,true,true,true,true,false,false,false,false,false] rfl rfl ?_
                refine qpn HT_ 21 206 #[true,true,true,true,true,true,true,true,true,true,true,true,true,true,true,true,true,true,true,true,true,true,false,false,false,false] rfl rfl ?_
                refine qpn HT_ 22 207 #[true,true,true,true,true,true,true,true,true,true,true,true,true,true,true,true,true,true,true,true,true,true,true,false,false,false] rfl rfl ?_
                refine qpn HT_ 23 208 #[true,true,true,true,true,true,true,true,true,true,true,true,true,true,true,true,true,true,true,true,true,true,true,true,false,false] rfl rfl ?_
                refine qpu HT_ 24 209 #[true,true,true,true,true,true,true,true,true,true,true,true,true,true,true,true,true,true,true,true,true,true,true,true,true,false] rfl rfl ?_
                refine qpu HT_ 25 210 #[true,true,true,true,true,true,true,true,true,true,true,true,true,true,true,true,true,true,true,true,true,true,true,true,true,true] rfl rfl ?_
                refine xk (oh HT_.out qz9) ?_
                try go_wp2
                go_meet
                case rel=>exact⟨_,(false),iY,H',⟨by have:=HJ9.out;have:=Xp.out;have:=abw.out;have:=HK4.out;first|omega|exact Nat.le_refl _⟩,⟨cK lu⟩,⟨cK aZ⟩,⟨cK aY⟩,⟨cK bJ⟩,⟨cK bL⟩,⟨cK cu⟩,⟨cK bW⟩,⟨dP dz⟩,⟨dP gH⟩,⟨dP fG⟩,⟨wV HB iL kG mJ⟩⟩
               case rest=>as_aux_lemma=>
                clear abL
                try clear c1
                try clear p2
                try clear p4
                try clear q4
                try clear hx4
                try clear p6
                try clear c12
                try clear c13
                try clear p46
                try clear q46
                try clear apF
                try clear p64
                try clear abM
                try clear abN
                try clear c130
                try clear c131
                try clear abO
                try clear Tw
                try clear LD
                try clear LG
                try clear Cb
                try clear Cc
                try clear acw
                try clear acz
                try clear acy
                try clear acA
                obtain⟨kq,zi,rfl,HA,abQ,lu,aZ,aY,bJ,bL,cu,bW,dz,gH,fG,HB⟩:=hcut
                cases kq with
                |zero=>exact absurd HA.out (by simp[ay.j4])
                |succ VD=>
                 have H:=HA.out
                 clear HA
                 simp only[ay.j4]at H
                 by_cases acB:zi=true
                 ·subst acB
                  rw[if_pos rfl]at H
                  exact absurd (Option.some.inj (H.trans (congrArg some HRT.out))) (by decide)
                 ·replace acB:=Bool.eq_false_iff.mpr acB
                  subst acB
                  rw[if_neg (show ¬(false=true) by decide)]at H
                  obtain⟨⟨amZ,apG⟩,afW,H⟩:=Option.bind_eq_some_iff.mp H
                  try dsimp only at H
                  have at7:=ah.mk afW
                  clear afW
                  obtain⟨⟨vN,pF,apH⟩,afX,H⟩:=Option.bind_eq_some_iff.mp H
                  try dsimp only at H
                  have aua:=ah.mk afX
                  clear afX
                  have abR:=ah.mk H
                  clear H
                  go_upto_region 32 with(first|((with_reducible refine aK (f:=15) rfl ?_);refine dH (some 213) rfl rfl Tryz.func15 qz9 rfl #[.slice BM kF.length zh,.int .i64 (-1)] rfl jh ?_;(with_reducible refine(dL.calls VD _ _ kF (-1) amZ apG _ ?bT ?bU at7.out).mono ?_);(case bT=>exact qO lu);(case bU=>exact qg lu);rintro e apI ⟨awf,rfl,ho0,hb⟩;refine⟨_,rfl,?_⟩;replace aY:=ah.mk (Kd.aM (cK aY) hb);replace bL:=ah.mk (Kd.aM (cK bL) hb);replace bW:=ah.mk (Kd.aM (cK bW) hb);have Ii:=ah.mk (Kd.dV (Kd.iU (Kd.iU (Kd.iU (Kd.iU ho0 (Kd.qo (cK lu))) (Kd.qo (cK aZ))) (Kd.qo (cK bJ))) (Kd.qo (cK cu))) (aG (wV HB iL kG mJ)));replace lu:=ah.mk (Kd.fK (cK lu) (Kd.iJ ho0) hb);replace aZ:=ah.mk (Kd.fK (cK aZ) (Kd.iJ ho0) hb);replace bJ:=ah.mk (Kd.fK (cK bJ) (Kd.iJ ho0) hb);replace cu:=ah.mk (Kd.fK (cK cu) (Kd.iJ ho0) hb);replace dz:=ah.mk (aA (g:=gy) (o:=.cells #[.slice ji gT.length je,.slice kV dD.length jM] 27 (0,0)) (dP dz) hb);replace gH:=ah.mk (aA (g:=jD) (o:=.cells #[.slice ni kW.length nk,.slice nR ng.length nS] 27 (0,0)) (dP gH) hb);replace fG:=ah.mk (aA (g:=ig) (o:=.cells #[.slice mq jS.length mD,.slice nZ iH.length ny] 27 (0,0)) (dP fG) hb);replace HB:=ah.mk (av (wV HB iL kG mJ) hb);(try clear hb);(try clear hb2);(try clear hk);(try clear hi);(try clear ho0);have apJ:=nO.out;have apK:=oH.out;have apL:=qc.out;have apM:=qX.out;have LH:apI.cell? ⟨gy,0,none⟩=some (.slice ji gT.length je):=(aj dz.out 0).trans rfl;have LJ:apI.cell? ⟨gy,1,none⟩=some (.slice kV dD.length jM):=(aj dz.out 1).trans rfl;have LK:=ak dz.out 0;have LM:=ak dz.out 1;obtain⟨am0,am1,am2⟩:=Kd.dW Ii.out;subst am2)|((with_reducible refine aK (f:=12) rfl ?_);refine dH (some 219) rfl rfl Tryz.func12 qz9 rfl #[.agg #[.slice ji gT.length je,.slice kV dD.length jM],.slice am0 amZ.length am1] rfl jh ?_;(with_reducible refine(jd.calls VD _ _ gT _ _ dD _ _ amZ vN pF apH _ ?bT ?bU ?eu ?eF ?tK ?tL aua.out).mono ?_);(case bT=>exact qO aZ);(case bU=>exact qg aZ);(case eu=>exact qO aY);(case eF=>exact qg aY);(case tK=>exact qO Ii);(case tL=>exact qg Ii);rintro e awg ⟨awh,awi,rfl,ho0,ho1,hb⟩;refine⟨_,rfl,?_⟩;have VE:=ah.mk (Kd.dV (Kd.iU (Kd.iU (Kd.iU (Kd.iU (Kd.iU ho0 (Kd.qo (cK lu))) (Kd.qo (cK aZ))) (Kd.qo (cK bJ))) (Kd.qo (cK cu))) (Kd.qo (cK Ii))) (aG (wV HB iL kG mJ)));replace lu:=ah.mk (Kd.fK (cK lu) (Kd.iJ ho0) hb);replace aZ:=ah.mk (Kd.fK (cK aZ) (Kd.iJ ho0) hb);replace bJ:=ah.mk (Kd.fK (cK bJ) (Kd.iJ ho0) hb);replace cu:=ah.mk (Kd.fK (cK cu) (Kd.iJ ho0) hb);replace Ii:=ah.mk (Kd.fK (cK Ii) (Kd.iJ ho0) hb);have VF:=ah.mk (Kd.dV (Kd.iU (Kd.iU (Kd.iU ho1 (Kd.qo (cK aY))) (Kd.qo (cK bL))) (Kd.qo (cK bW))) (aG (wV HB iL kG mJ)));replace aY:=ah.mk (Kd.fK (cK aY) (Kd.iJ ho1) hb);replace bL:=ah.mk (Kd.fK (cK bL) (Kd.iJ ho1) hb);replace bW:=ah.mk (Kd.fK (cK bW) (Kd.iJ ho1) hb);replace dz:=ah.mk (aA (g:=gy) (o:=.cells #[.slice ji gT.length je,.slice kV dD.length jM] 27 (0,0)) (dP dz) hb);replace gH:=ah.mk (aA (g:=jD) (o:=.cells #[.slice ni kW.length nk,.slice nR ng.length nS] 27 (0,0)) (dP gH) hb);replace fG:=ah.mk (aA (g:=ig) (o:=.cells #[.slice mq jS.length mD,.slice nZ iH.length ny] 27 (0,0)) (dP fG) hb);replace HB:=ah.mk (av (wV HB iL kG mJ) hb);(try clear hb);(try clear hb2);(try clear hk);(try clear hi);(try clear ho0);(try clear ho1))|((with_reducible refine aH (N:=29) rfl ?_);(try(refine iq (by rfl) ?_;dsimp only));refine qbx (N:=29) (cs:=#[.slice none 0 0,.slice none 0 0]) (t:=27) ?_;intro kU hg apN bR hb;replace lu:=ah.mk (Kd.aM (cK lu) hb);replace aZ:=ah.mk (Kd.aM (cK aZ) hb);replace aY:=ah.mk (Kd.aM (cK aY) hb);replace bJ:=ah.mk (Kd.aM (cK bJ) hb);replace bL:=ah.mk (Kd.aM (cK bL) hb);replace cu:=ah.mk (Kd.aM (cK cu) hb);replace bW:=ah.mk (Kd.aM (cK bW) hb);replace Ii:=ah.mk (Kd.aM (cK Ii) hb);replace VE:=ah.mk (Kd.aM (cK VE) hb);replace VF:=ah.mk (Kd.aM (cK VF) hb);have kN:=ah.mk (bR);have aub:=ah.mk ((by rw[hg];exact(aG (wV HB iL kG mJ)):w.heap.size≤kU));have SX:=ah.mk ((by rw[hg];exact(aG (wV HB iL kG mJ)):w.heap.size≤kU));replace HB:=ah.mk (av (wV HB iL kG mJ) hb);have uF:=ah.mk ((amI:gy≠kU));have wQ:=ah.mk ((amJ:kU≠gy));replace dz:=ah.mk (aA (g:=gy) (o:=.cells #[.slice ji gT.length je,.slice kV dD.length jM] 27 (0,0)) (dP dz) hb);have uG:=ah.mk ((agP:jD≠kU));have wR:=ah.mk ((agQ:kU≠jD));replace gH:=ah.mk (aA (g:=jD) (o:=.cells #[.slice ni kW.length nk,.slice nR ng.length nS] 27 (0,0)) (dP gH) hb);have uH:=ah.mk ((amT:ig≠kU));have wS:=ah.mk ((amU:kU≠ig));replace fG:=ah.mk (aA (g:=ig) (o:=.cells #[.slice mq jS.length mD,.slice nZ iH.length ny] 27 (0,0)) (dP fG) hb);clear hb bR hg;obtain⟨pG,pI,am3⟩:=Kd.dW VE.out;subst am3;have apO:=wQ.out;have apP:=uF.out;have apQ:=wR.out;have apR:=uG.out;have apS:=wS.out;have apT:=uH.out;have LP:apN.cell? ⟨kU,0,none⟩=some (.slice none 0 0):=(aj kN.out 0).trans rfl;have LQ:apN.cell? ⟨kU,1,none⟩=some (.slice none 0 0):=(aj kN.out 1).trans rfl;have LU:=ak kN.out 0;have LV:=ak kN.out 1;obtain⟨qN,qd,am4⟩:=Kd.dW VF.out;subst am4))
                  (try simp only[Act.put,List.setIfInBounds_toArray,List.set_cons_zero,List.set_cons_succ])
                  go_cut [227] (fun v227 wc=>∃ (kq:Nat) (zk:Bool),v227= .bool zk∧ah (ay.j5 kq zk jS iH vN pF=some r)∧ah (kq≤VD)∧ah (Kd.R (Kd.int .i64) 2 wc w.heap.size (fun k_=>some k_≠((.slice ni kW.length nk):Value).ownBlock∧some k_≠((.slice mq jS.length mD):Value).ownBlock∧some k_≠((.slice pG vN.length pI):Value).ownBlock) (.slice ji gT.length je) gT)∧ah (Kd.R k40 40 wc w.heap.size (fun k_=>some k_≠((.slice nR ng.length nS):Value).ownBlock∧some k_≠((.slice nZ iH.length ny):Value).ownBlock∧some k_≠((.slice qN pF.length qd):Value).ownBlock) (.slice kV dD.length jM) dD)∧ah (Kd.R (Kd.int .i64) 2 wc w.heap.size (fun k_=>some k_≠((.slice ji gT.length je):Value).ownBlock∧some k_≠((.slice mq jS.length mD):Value).ownBlock∧some k_≠((.slice pG vN.length pI):Value).ownBlock) (.slice ni kW.length nk) kW)∧ah (Kd.R k40 40 wc w.heap.size (fun k_=>some k_≠((.slice kV dD.length jM):Value).ownBlock∧some k_≠((.slice nZ iH.length ny):Value).ownBlock∧some k_≠((.slice qN pF.length qd):Value).ownBlock) (.slice nR ng.length nS) ng)∧ah (Kd.R (Kd.int .i64) 2 wc w.heap.size (fun k_=>some k_≠((.slice ji gT.length je):Value).ownBlock∧some k_≠((.slice ni kW.length nk):Value).ownBlock∧some k_≠((.slice pG vN.length pI):Value).ownBlock) (.slice mq jS.length mD) jS)∧ah (Kd.R k40 40 wc w.heap.size (fun k_=>some k_≠((.slice kV dD.length jM):Value).ownBlock∧some k_≠((.slice nR ng.length nS):Value).ownBlock∧some k_≠((.slice qN pF.length qd):Value).ownBlock) (.slice nZ iH.length ny) iH)∧ah (Kd.R (Kd.int .i64) 2 wc w.heap.size (fun k_=>some k_≠((.slice ji gT.length je):Value).ownBlock∧some k_≠((.slice ni kW.length nk):Value).ownBlock∧some k_≠((.slice mq jS.length mD):Value).ownBlock) (.slice pG vN.length pI) vN)∧ah (Kd.R k40 40 wc w.heap.size (fun k_=>some k_≠((.slice kV dD.length jM):Value).ownBlock∧some k_≠((.slice nR ng.length nS):Value).ownBlock∧some k_≠((.slice nZ iH.length ny):Value).ownBlock) (.slice qN pF.length qd) pF)∧ah (wc.heap[gy]?=some (.cells #[(.slice ji gT.length je),(.slice kV dD.length jM)] 27 (0,0)))∧ah (wc.heap[jD]?=some (.cells #[(.slice ni kW.length nk),(.slice nR ng.length nS)] 27 (0,0)))∧ah (wc.heap[ig]?=some (.cells #[(.slice mq jS.length mD),(.slice nZ iH.length ny)] 27 (0,0)))∧ah (wc.heap[kU]?=some (.cells #[(.slice pG vN.length pI),(.slice qN pF.length qd)] 27 (0,0)))∧ah (Below w.heap.size w wc))
                  case first=>as_aux_lemma=>
                   have H:=abR.out
                   clear abR
                   by_cases c154:apG=true
                   ·subst c154
                    rw[if_pos rfl]at H
                    have H':=ah.mk H
                    clear H
                    go_wp2
                    go_meet
                    case rel=>exact⟨_,(!apH),iY,H',⟨by have:=HJ9.out;have:=Xp.out;have:=abw.out;have:=HK4.out;have:=abQ.out;first|omega|exact Nat.le_refl _⟩,⟨by refine qpr ?_;exact Kd.bS (Kd.bX (p:=⟨kU,1,none⟩) (Kd.bX (p:=⟨kU,0,none⟩) (Kd.cO aZ.out kN.out (by decide)) (fun _ hk=>hk.2) (.slice pG vN.length pI)) (fun _ hk=>hk.2) (.slice qN pF.length qd)) (fun _ hk=>⟨hk.1.1.1.2.1,⟨hk.1.1.1.2.2,hk.1.2⟩⟩)⟩,⟨by refine qpr ?_;exact Kd.bS (Kd.bX (p:=⟨kU,1,none⟩) (Kd.bX (p:=⟨kU,0,none⟩) (Kd.cO aY.out kN.out (by decide)) (fun _ hk=>hk.2) (.slice pG vN.length pI)) (fun _ hk=>hk.2) (.slice qN pF.length qd)) (fun _ hk=>⟨hk.1.1.1,⟨hk.1.1.2,hk.1.2⟩⟩)⟩,⟨by refine qpr ?_;exact Kd.bS (Kd.bX (p:=⟨kU,1,none⟩) (Kd.bX (p:=⟨kU,0,none⟩) (Kd.cO bJ.out kN.out (by decide)) (fun _ hk=>hk.2) (.slice pG vN.length pI)) (fun _ hk=>hk.2) (.slice qN pF.length qd)) (fun _ hk=>⟨hk.1.1.1.2.1,⟨hk.1.1.1.2.2,hk.1.2⟩⟩)⟩,⟨by refine qpr ?_;exact Kd.bS (Kd.bX (p:=⟨kU,1,none⟩) (Kd.bX (p:=⟨kU,0,none⟩) (Kd.cO bL.out kN.out (by decide)) (fun _ hk=>hk.2) (.slice pG vN.length pI)) (fun _ hk=>hk.2) (.slice qN pF.length qd)) (fun _ hk=>⟨hk.1.1.1,⟨hk.1.1.2,hk.1.2⟩⟩)⟩,⟨by refine qpr ?_;exact Kd.bS (Kd.bX (p:=⟨kU,1,none⟩) (Kd.bX (p:=⟨kU,0,none⟩) (Kd.cO cu.out kN.out (by decide)) (fun _ hk=>hk.2) (.slice pG vN.length pI)) (fun _ hk=>hk.2) (.slice qN pF.length qd)) (fun _ hk=>⟨hk.1.1.1.2.1,⟨hk.1.1.1.2.2,hk.1.2⟩⟩)⟩,⟨by refine qpr ?_;exact Kd.bS (Kd.bX (p:=⟨kU,1,none⟩) (Kd.bX (p:=⟨kU,0,none⟩) (Kd.cO bW.out kN.out (by decide)) (fun _ hk=>hk.2) (.slice pG vN.length pI)) (fun _ hk=>hk.2) (.slice qN pF.length qd)) (fun _ hk=>⟨hk.1.1.1,⟨hk.1.1.2,hk.1.2⟩⟩)⟩,⟨by refine qpr ?_;exact Kd.bS (Kd.bX (p:=⟨kU,1,none⟩) (Kd.bX (p:=⟨kU,0,none⟩) (Kd.cO VE.out kN.out (by decide)) (fun _ hk=>hk.2) (.slice pG vN.length pI)) (fun _ hk=>hk.2) (.slice qN pF.length qd)) (fun _ hk=>⟨hk.1.1.1.1.2,⟨hk.1.1.1.2,hk.1.1.2⟩⟩)⟩,⟨by refine qpr ?_;exact Kd.bS (Kd.bX (p:=⟨kU,1,none⟩) (Kd.bX (p:=⟨kU,0,none⟩) (Kd.cO VF.out kN.out (by decide)) (fun _ hk=>hk.2) (.slice pG vN.length pI)) (fun _ hk=>hk.2) (.slice qN pF.length qd)) (fun _ hk=>⟨hk.1.1.1.2,⟨hk.1.1.2,hk.1.2⟩⟩)⟩,⟨Tj uF dz⟩,⟨Tj uG gH⟩,⟨Tj uH fG⟩,⟨by refine qpb ?_;refine aW (cs:=#[.slice pG vN.length pI,.slice none 0 0]) ?_ 1 _ rfl;refine qpb ?_;refine aW (cs:=#[.slice none 0 0,.slice none 0 0]) ?_ 0 _ rfl;refine qpb ?_;exact kN.out⟩,⟨Ms HB iL kG mJ SX⟩⟩
                   replace c154:=Bool.eq_false_iff.mpr c154
                   subst c154
                   have H1:(ay.j5 VD true jS iH vN pF)=some r:=by rw[if_neg (show ¬(false=true) by decide)]at H;exact H
                   exact absurd HRT.out (by rw[ay.amE _ _ _ _ _ _ H1];decide)
                  case rest=>as_aux_lemma=>
                   clear abR
                   try clear c1
                   try clear p2
                   try clear p4
                   try clear q4
                   try clear hx4
                   try clear p6
                   try clear c12
                   try clear c13
                   try clear c14
                   try clear c15
                   try clear p46
                   try clear q46
                   try clear apF
                   try clear p64
                   try clear abM
                   try clear abN
                   try clear c130
                   try clear c131
                   try clear abO
                   try clear Tw
                   try clear LD
                   try clear LG
                   try clear acB
                   try clear auc
                   try clear c143
                   try clear aud
                   try clear aue
                   try clear auf
                   try clear c154
                   try clear LH
                   try clear LJ
                   try clear LP
                   try clear LQ
                   try clear LK
                   try clear LM
                   try clear LU
                   try clear LV
                   try clear Cb
                   try clear Cc
                   try clear p2
                   try clear p4
                   try clear p46
                   try clear acw
                   try clear acz
                   try clear p6
                   try clear p64
                   try clear q4
                   try clear q46
                   try clear acy
                   try clear acA
                   obtain⟨kq,zk,rfl,HA,afY,aZ,aY,bJ,bL,cu,bW,nP,lQ,dz,gH,fG,kN,HB⟩:=hcut
                   cases kq with
                   |zero=>exact absurd HA.out (by simp[ay.j5])
                   |succ afZ=>
                    have H:=HA.out
                    clear HA
                    simp only[ay.j5]at H
                    by_cases af0:zk=true
                    ·subst af0
                     rw[if_pos rfl]at H
                     exact absurd (Option.some.inj (H.trans (congrArg some HRT.out))) (by decide)
                    ·replace af0:=Bool.eq_false_iff.mpr af0
                     subst af0
                     rw[if_neg (show ¬(false=true) by decide)]at H
                     have H':=ah.mk H
                     clear H
                     go_wp2
                     go_loopg [31] afZ (fun kq v31 w'=>∃ (gP:Int),v31= .int .i64 gP∧ah (ay.l1 kq gP jS iH vN pF=some r)∧ah (kq≤afZ)∧ah (Kd.R (Kd.int .i64) 2 w' w.heap.size (fun k_=>some k_≠((.slice ni kW.length nk):Value).ownBlock∧some k_≠((.slice mq jS.length mD):Value).ownBlock∧some k_≠((.slice pG vN.length pI):Value).ownBlock) (.slice ji gT.length je) gT)∧ah (Kd.R k40 40 w' w.heap.size (fun k_=>some k_≠((.slice nR ng.length nS):Value).ownBlock∧some k_≠((.slice nZ iH.length ny):Value).ownBlock∧some k_≠((.slice qN pF.length qd):Value).ownBlock) (.slice kV dD.length jM) dD)∧ah (Kd.R (Kd.int .i64) 2 w' w.heap.size (fun k_=>some k_≠((.slice ji gT.length je):Value).ownBlock∧some k_≠((.slice mq jS.length mD):Value).ownBlock∧some k_≠((.slice pG vN.length pI):Value).ownBlock) (.slice ni kW.length nk) kW)∧ah (Kd.R k40 40 w' w.heap.size (fun k_=>some k_≠((.slice kV dD.length jM):Value).ownBlock∧some k_≠((.slice nZ iH.length ny):Value).ownBlock∧some k_≠((.slice qN pF.length qd):Value).ownBlock) (.slice nR ng.length nS) ng)∧ah (Kd.R (Kd.int .i64) 2 w' w.heap.size (fun k_=>some k_≠((.slice ji gT.length je):Value).ownBlock∧some k_≠((.slice ni kW.length nk):Value).ownBlock∧some k_≠((.slice pG vN.length pI):Value).ownBlock) (.slice mq jS.length mD) jS)∧ah (Kd.R k40 40 w' w.heap.size (fun k_=>some k_≠((.slice kV dD.length jM):Value).ownBlock∧some k_≠((.slice nR ng.length nS):Value).ownBlock∧some k_≠((.slice qN pF.length qd):Value).ownBlock) (.slice nZ iH.length ny) iH)∧ah (Kd.R (Kd.int .i64) 2 w' w.heap.size (fun k_=>some k_≠((.slice ji gT.length je):Value).ownBlock∧some k_≠((.slice ni kW.length nk):Value).ownBlock∧some k_≠((.slice mq jS.length mD):Value).ownBlock) (.slice pG vN.length pI) vN)∧ah (Kd.R k40 40 w' w.heap.size (fun k_=>some k_≠((.slice kV dD.length jM):Value).ownBlock∧some k_≠((.slice nR ng.length nS):Value).ownBlock∧some k_≠((.slice nZ iH.length ny):Value).ownBlock) (.slice qN pF.length qd) pF)∧ah (w'.heap[gy]?=some (.cells #[(.slice ji gT.length je),(.slice kV dD.length jM)] 27 (0,0)))∧ah (w'.heap[jD]?=some (.cells #[(.slice ni kW.length nk),(.slice nR ng.length nS)] 27 (0,0)))∧ah (w'.heap[ig]?=some (.cells #[(.slice mq jS.length mD),(.slice nZ iH.length ny)] 27 (0,0)))∧ah (w'.heap[kU]?=some (.cells #[(.slice pG vN.length pI),(.slice qN pF.length qd)] 27 (0,0)))∧ah (Below w.heap.size w w'))
                     case atStart=>exact⟨(0),iY,H',⟨Nat.le_refl _⟩,⟨cK aZ⟩,⟨cK aY⟩,⟨cK bJ⟩,⟨cK bL⟩,⟨cK cu⟩,⟨cK bW⟩,⟨cK nP⟩,⟨cK lQ⟩,⟨dP dz⟩,⟨dP gH⟩,⟨dP fG⟩,⟨dP kN⟩,⟨Ms HB iL kG mJ SX⟩⟩
                     case round=>as_aux_lemma=>
                      clear H'
                      try clear c1
                      try clear p2
                      try clear p4
                      try clear q4
                      try clear hx4
                      try clear p6
                      try clear c12
                      try clear c13
                      try clear c14
                      try clear c15
                      try clear p46
                      try clear q46
                      try clear apF
                      try clear p64
                      try clear abM
                      try clear abN
                      try clear c130
                      try clear c131
                      try clear abO
                      try clear Tw
                      try clear LD
                      try clear LG
                      try clear acB
                      try clear auc
                      try clear c143
                      try clear aud
                      try clear aue
                      try clear auf
                      try clear c154
                      try clear af0
                      try clear LH
                      try clear LJ
                      try clear LP
                      try clear LQ
                      try clear LK
                      try clear LM
                      try clear LU
                      try clear LV
                      try clear Cb
                      try clear Cc
                      try clear p2
                      try clear p4
                      try clear p46
                      try clear acw
                      try clear acz
                      try clear p6
                      try clear p64
                      try clear q4
                      try clear q46
                      try clear acy
                      try clear acA
                      obtain⟨gP,rfl,HA,HK7,aZ,aY,bJ,bL,cu,bW,nP,lQ,dz,gH,fG,kN,HB⟩:=hrel
                      cases gk with
                      |zero=>exact absurd HA.out (by simp[ay.l1])
                      |succ k7=>
                       have H:=HA.out
                       clear HA
                       simp only[ay.l1]at H
                       by_cases c156:gP<(pF.length:Int)
                       ·rw[if_pos c156]at H
                        have af2:decide (gP<(pF.length:Int))=true:=decide_eq_true c156
                        clear c156
                        by_cases c157:0≤gP
                        ·rw[if_pos c157]at H
                         have apU:decide (0≤gP)=true:=decide_eq_true c157
                         clear c157
                         by_cases ahf:gP<(iH.length:Int)
                         ·rw[if_pos ahf]at H
                          have apV:decide (gP<(iH.length:Int))=true:=decide_eq_true ahf
                          clear ahf
                          by_cases c159:(!(((au pF gP).f0)==((au iH gP).f0))||(!(((au pF gP).f1)==((au iH gP).f1))||(!(((au pF gP).f2)==((au iH gP).f2)))))=true
                          ·rw[if_pos c159]at H
                           have af3:(!(((au pF gP).f0)==((au iH gP).f0))||(!(((au pF gP).f1)==((au iH gP).f1))||(!(((au pF gP).f2)==((au iH gP).f2)))))=true:=c159
                           clear c159
                           obtain rfl:=Option.some.inj H
                           have apW:=wQ.out
                           have apX:=uF.out
                           have apY:=wR.out
                           have apZ:=uG.out
                           have ap0:=wS.out
                           have ap1:=uH.out
                           have ahg:wr.cell? ⟨kU,0,none⟩=some (.slice pG vN.length pI):=(aj kN.out 0).trans rfl
                           have ahh:wr.cell? ⟨kU,1,none⟩=some (.slice qN pF.length qd):=(aj kN.out 1).trans rfl
                           have ahi:=ak kN.out 0
                           have ahj:=ak kN.out 1
                           try go_wp2
                           replace aZ:=ah.mk (Kd.fO aZ.out)
                           replace aY:=ah.mk (Kd.fO aY.out)
                           replace bJ:=ah.mk (Kd.fO bJ.out)
                           replace bL:=ah.mk (Kd.fO bL.out)
                           replace cu:=ah.mk (Kd.fO cu.out)
                           replace bW:=ah.mk (Kd.fO bW.out)
                           replace nP:=ah.mk (Kd.fO nP.out)
                           replace lQ:=ah.mk (Kd.fO lQ.out)
                           replace dz:=ah.mk (dS dz.out)
                           replace gH:=ah.mk (dS gH.out)
                           replace fG:=ah.mk (dS fG.out)
                           replace kN:=ah.mk (dS kN.out)
                           replace HB:=ah.mk (bG HB.out)
                           have abS:0≤(gP:Int):=of_decide_eq_true gN
                           have abT:gP<(pF.length:Int):=of_decide_eq_true gN
                           obtain⟨xV,am5,Ce,Cg,Ch⟩:=kH (Kd.dF lQ.out).2.2 gP abS abT
                           cases am5
                           replace abS:=eq_true abS
                           replace abT:=eq_true abT
                           have abU:0≤(gP:Int):=of_decide_eq_true gN
                           have abV:gP<(iH.length:Int):=of_decide_eq_true gN
                           obtain⟨xW,am6,Ci,Cj,Ck⟩:=kH (Kd.dF bW.out).2.2 gP abU abV
                           cases am6
                           replace abU:=eq_true abU
                           replace abV:=eq_true abV
                           refine qP (n:=11) (S:=fun w'=>w'.cell? ⟨kU,0,none⟩=some (.slice pG vN.length pI)∧w'.cell? ⟨kU,1,none⟩=some (.slice (some xV) pF.length qd)∧w'.cell? ⟨ig,0,none⟩=some (.slice mq jS.length mD)∧w'.cell? ⟨ig,1,none⟩=some (.slice (some xW) iH.length ny)∧w'.cell? (xV.add ((gP).toNat*3))=some (.int .i64 ((au pF gP).f0))∧w'.cell? ⟨(xV.add ((gP).toNat*3)).block,(xV.add ((gP).toNat*3)).off+1,none⟩=some (.int .i64 ((au pF gP).f1))∧w'.cell? ⟨(xV.add ((gP).toNat*3)).block,(xV.add ((gP).toNat*3)).off+2,none⟩=some (.int .i64 ((au pF gP).f2))∧w'.cell? (xW.add ((gP).toNat*3))=some (.int .i64 ((au iH gP).f0))∧w'.cell? ⟨(xW.add ((gP).toNat*3)).block,(xW.add ((gP).toNat*3)).off+1,none⟩=some (.int .i64 ((au iH gP).f1))∧w'.cell? ⟨(xW.add ((gP).toNat*3)).block,(xW.add ((gP).toNat*3)).off+2,none⟩=some (.int .i64 ((au iH gP).f2))) (ds:=[]) #[false,false,false,false,false,false,false,false,false,false,false] qz9 rfl rfl ⟨(aj kN.out 0).trans rfl,(aj kN.out 1).trans rfl,(aj fG.out 0).trans rfl,(aj fG.out 1).trans rfl,Ce,Cg,Ch,Ci,Cj,Ck⟩ (fun hHeld=>?_);refine jZ ay.afM ay.Xo (fun HT_ HW_=>?_)
                           generalize wr.drew=awj at aZ aY bJ bL cu bW nP lQ dz gH fG kN HB Ce Cg Ch Ci Cj Ck hHeld ⊢
                           refine qpu HT_ 0 235 #[true,false,false,false,false,false,false,false,false,false,false] rfl rfl ?_
                           refine qpu HT_ 2 237 #[true,false,true,false,false,false,false,false,false,false,false] rfl rfl ?_
                           refine qpu HT_ 5 240 #[true,false,true,false,false,true,false,false,false,false,false] rfl rfl ?_
                           refine qpu HT_ 7 242 #[true,false,true,false,false,true,false,true,false,false,false] rfl rfl ?_
                           refine qtk HT_ HW_ 1 236 #[true,true,true,false,false,true,false,true,false,false,false] rfl rfl hHeld ?_
                           refine qpu HT_ 3 238 #[true,true,true,true,false,true,false,true,false,false,false] rfl rfl ?_
                           refine qtk HT_ HW_ 4 239 #[true,true,true,true,true,true,false,true,false,false,false] rfl rfl hHeld ?_
                           refine qtk HT_ HW_ 6 241 #[true,true,true,true,true,true,true,true,false,false,false] rfl rfl hHeld ?_
                           refine qpu HT_ 8 243 #[true,true,true,true,true,true,true,true,true,false,false] rfl rfl ?_
                           refine qtk HT_ HW_ 9 244 #[true,true,true,true,true,true,true,true,true,true,false] rfl rfl hHeld ?_
                           refine qpu HT_ 10 245 #[true,true,true,true,true,true,true,true,true,true,true] rfl rfl ?_
                           refine xk (oh HT_.out qz9) ?_
                           try go_wp2
                           go_ret
                           exact⟨qz7,Ms HB iL kG mJ SX⟩
                          rw[if_neg c159]at H
                          have af3:(!(((au pF gP).f0)==((au iH gP).f0))||(!(((au pF gP).f1)==((au iH gP).f1))||(!(((au pF gP).f2)==((au iH gP).f2)))))=false:=by simpa using c159
                          clear c159
                          have H':=ah.mk H
                          clear H
                          have ap2:=wQ.out
                          have ap3:=uF.out
                          have ap4:=wR.out
                          have ap5:=uG.out
                          have ap6:=wS.out
                          have ap7:=uH.out
                          have ahk:wr.cell? ⟨kU,0,none⟩=some (.slice pG vN.length pI):=(aj kN.out 0).trans rfl
                          have ahl:wr.cell? ⟨kU,1,none⟩=some (.slice qN pF.length qd):=(aj kN.out 1).trans rfl
                          have ahm:=ak kN.out 0
                          have ahn:=ak kN.out 1
                          try go_wp2
                          replace aZ:=ah.mk (Kd.fO aZ.out)
                          replace aY:=ah.mk (Kd.fO aY.out)
                          replace bJ:=ah.mk (Kd.fO bJ.out)
                          replace bL:=ah.mk (Kd.fO bL.out)
                          replace cu:=ah.mk (Kd.fO cu.out)
                          replace bW:=ah.mk (Kd.fO bW.out)
                          replace nP:=ah.mk (Kd.fO nP.out)
                          replace lQ:=ah.mk (Kd.fO lQ.out)
                          replace dz:=ah.mk (dS dz.out)
                          replace gH:=ah.mk (dS gH.out)
                          replace fG:=ah.mk (dS fG.out)
                          replace kN:=ah.mk (dS kN.out)
                          replace HB:=ah.mk (bG HB.out)
                          have abS:0≤(gP:Int):=of_decide_eq_true gN
                          have abT:gP<(pF.length:Int):=of_decide_eq_true gN
                          obtain⟨xV,am5,Ce,Cg,Ch⟩:=kH (Kd.dF lQ.out).2.2 gP abS abT
                          cases am5
                          replace abS:=eq_true abS
                          replace abT:=eq_true abT
                          have abU:0≤(gP:Int):=of_decide_eq_true gN
                          have abV:gP<(iH.length:Int):=of_decide_eq_true gN
                          obtain⟨xW,am6,Ci,Cj,Ck⟩:=kH (Kd.dF bW.out).2.2 gP abU abV
                          cases am6
                          replace abU:=eq_true abU
                          replace abV:=eq_true abV
                          refine qP (n:=11) (S:=fun w'=>w'.cell? ⟨kU,0,none⟩=some (.slice pG vN.length pI)∧w'.cell? ⟨kU,1,none⟩=some (.slice (some xV) pF.length qd)∧w'.cell? ⟨ig,0,none⟩=some (.slice mq jS.length mD)∧w'.cell? ⟨ig,1,none⟩=some (.slice (some xW) iH.length ny)∧w'.cell? (xV.add ((gP).toNat*3))=some (.int .i64 ((au pF gP).f0))∧w'.cell? ⟨(xV.add ((gP).toNat*3)).block,(xV.add ((gP).toNat*3)).off+1,none⟩=some (.int .i64 ((au pF gP).f1))∧w'.cell? ⟨(xV.add ((gP).toNat*3)).block,(xV.add ((gP).toNat*3)).off+2,none⟩=some (.int .i64 ((au pF gP).f2))∧w'.cell? (xW.add ((gP).toNat*3))=some (.int .i64 ((au iH gP).f0))∧w'.cell? ⟨(xW.add ((gP).toNat*3)).block,(xW.add ((gP).toNat*3)).off+1,none⟩=some (.int .i64 ((au iH gP).f1))∧w'.cell? ⟨(xW.add ((gP).toNat*3)).block,(xW.add ((gP).toNat*3)).off+2,none⟩=some (.int .i64 ((au iH gP).f2))) (ds:=[]) #[false,false,false,false,false,false,false,false,false,false,false] qz9 rfl rfl ⟨(aj kN.out 0).trans rfl,(aj kN.out 1).trans rfl,(aj fG.out 0).trans rfl,(aj fG.out 1).trans rfl,Ce,Cg,Ch,Ci,Cj,Ck⟩ (fun hHeld=>?_);refine jZ ay.afM ay.Xo (fun HT_ HW_=>?_)
                          generalize wr.drew=awk at aZ aY bJ bL cu bW nP lQ dz gH fG kN HB Ce Cg Ch Ci Cj Ck hHeld ⊢
                          refine qpu HT_ 0 235 #[true,false,false,false,false,false,false,false,false,false,false] rfl rfl ?_
                          refine qpu HT_ 2 237 #[true,false,true,false,false,false,false,false,false,false,false] rfl rfl ?_
                          refine qpu HT_ 5 240 #[true,false,true,false,false,true,false,false,false,false,false] rfl rfl ?_
                          refine qpu HT_ 7 242 #[true,false,true,false,false,true,false,true,false,false,false] rfl rfl ?_
                          refine qtk HT_ HW_ 1 236 #[true,true,true,false,false,true,false,true,false,false,false] rfl rfl hHeld ?_
                          refine qpu HT_ 3 238 #[true,true,true,true,false,true,false,true,false,false,false] rfl rfl ?_
                          refine qtk HT_ HW_ 4 239 #[true,true,true,true,true,true,false,true,false,false,false] rfl rfl hHeld ?_
                          refine qtk HT_ HW_ 6 241 #[true,true,true,true,true,true,true,true,false,false,false] rfl rfl hHeld ?_
                          refine qpu HT_ 8 243 #[true,true,true,true,true,true,true,true,true,false,false] rfl rfl ?_
                          refine qtk HT_ HW_ 9 244 #[true,true,true,true,true,true,true,true,true,true,false] rfl rfl hHeld ?_
                          refine qpu HT_ 10 245 #[true,true,true,true,true,true,true,true,true,true,true] rfl rfl ?_
                          refine xk (oh HT_.out qz9) ?_
                          try go_wp2
                          go_roundg k7
                          case measure=>have:=HJ9.out;have:=Xp.out;have:=abw.out;have:=HK4.out;have:=abQ.out;have:=afY.out;have:=HK7.out;omega
                          case rel=>exact⟨(wrap64 (gP+1)),iY,H',⟨by have:=HJ9.out;have:=Xp.out;have:=abw.out;have:=HK4.out;have:=abQ.out;have:=afY.out;have:=HK7.out;omega⟩,⟨cK aZ⟩,⟨cK aY⟩,⟨cK bJ⟩,⟨cK bL⟩,⟨cK cu⟩,⟨cK bW⟩,⟨cK nP⟩,⟨cK lQ⟩,⟨dP dz⟩,⟨dP gH⟩,⟨dP fG⟩,⟨dP kN⟩,⟨Ms HB iL kG mJ SX⟩⟩
                         rw[if_neg ahf]at H
                         exact absurd H (by simp)
                        rw[if_neg c157]at H
                        exact absurd H (by simp)
                       ·rw[if_neg c156]at H
                        have af2:decide (gP<(pF.length:Int))=false:=decide_eq_false c156
                        clear c156
                        obtain rfl:=Option.some.inj H
                        have ap8:=wQ.out
                        have ap9:=uF.out
                        have aqa:=wR.out
                        have aqb:=uG.out
                        have aqc:=wS.out
                        have aqd:=uH.out
                        have aho:wr.cell? ⟨kU,0,none⟩=some (.slice pG vN.length pI):=(aj kN.out 0).trans rfl
                        have ahp:wr.cell? ⟨kU,1,none⟩=some (.slice qN pF.length qd):=(aj kN.out 1).trans rfl
                        have ahq:=ak kN.out 0
                        have ahr:=ak kN.out 1
                        go_wp2
                        go_ret
                        exact⟨qz7,Ms HB iL kG mJ SX⟩
        replace c47:=Bool.eq_false_iff.mpr c47
        subst c47
        rw[if_neg (show ¬(false=true) by decide)]at H
        obtain rfl:=Option.some.inj H
        go_wp2
        go_ret
        exact⟨qz7,qz8 HB iL kG⟩
/-- THE ONE PURE STATEMENT of laws_FnMoved: yours. -/
def ay.Pure:Prop:=∀ (l0:List Int) (l1:List Int),l0.length≤maxLen→l0.length*1≤140737488351232→(∀ x∈l0,(Lit.int .u8 x).wf=true)→l1.length≤maxLen→l1.length*1≤140737488351232→(∀ x∈l1,(Lit.int .u8 x).wf=true)→∃ k,ay.f k l0 l1=some true
theorem ay.walk (P:ay.Pure) (a0:Option Addr) (Xq cap0:Nat) (z0:List Int) (a1:Option Addr) (len1 Xr:Nat) (z1:List Int) (w:World) (hE:Dr w) (w0:(a0=none∧Xq=0∧cap0=0∧z0=[])∨∃ x,a0=some x∧Xq≤cap0∧cap0≤maxLen∧z0.length=cap0∧(∀ i,i<z0.length→w.cell? (x.add i)=some (.int .u8 (z0.getD i 0)))∧∀ n∈z0,(Lit.int .u8 n).wf=true) (y0:Xq*1≤140737488351232) (w1:(a1=none∧len1=0∧Xr=0∧z1=[])∨∃ x,a1=some x∧len1≤Xr∧Xr≤maxLen∧z1.length=Xr∧(∀ i,i<z1.length→w.cell? (x.add i)=some (.int .u8 (z1.getD i 0)))∧∀ n∈z1,(Lit.int .u8 n).wf=true) (y1:len1*1≤140737488351232):
  Calls Tryz.prog 3 #[.slice a0 Xq cap0,.slice a1 len1 Xr] w fun e w'=>e= .returned (.bool true)∧Below w.heap.size w w':=by
 obtain⟨l0,rfl,hr0,hm0,hw0,hc0⟩:=iB.VK w0
 obtain⟨l1,rfl,hr1,hm1,hw1,hc1⟩:=iB.VK w1
 obtain⟨k,h⟩:=P l0 l1 hm0 y0 hw0 hm1 y1 hw1
 refine(ay.calls k _ _ l0 _ _ l1 true w (Kd.xg (d:=(0:Int)) (h1:=fun _=>rfl) hr0) hc0 (Kd.xg (d:=(0:Int)) (h1:=fun _=>rfl) hr1) hc1 h rfl hE).mono ?_
 rintro e w' ⟨rfl,hd⟩
 exact⟨rfl,hd⟩
end Go.Proofs.YtalkmhnlgfncmaaGreatDoor.X
end
