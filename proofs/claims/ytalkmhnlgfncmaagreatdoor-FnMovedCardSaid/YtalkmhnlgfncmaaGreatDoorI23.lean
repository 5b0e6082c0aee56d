/- My own texts of this seat and its words, merged: Xp66, Xp18, Xp46, Xp67, XIsFlow, Xp68, Xp50, XOpenClo, XIsOpen, Xp9. Conditions: as each lemma says. -/
import Derived.Test.YtalkmhnlgfncmaaGreatDoorI21
import Derived.RegionTactic
import Derived.BigRegion
import Derived.Test.YtalkmhnlgfncmaaGreatDoorXSlim
set_option linter.unusedVariables false
set_option linter.unusedSimpArgs false
section
namespace Go.Proofs.YtalkmhnlgfncmaaGreatDoor.X
open Go.RowKit Go.Proofs.YtalkmhnlgfncmaaGreatDoorW.aC Go.Proofs.YtalkmhnlgfncmaaGreatDoorW.aN Go.Proofs.YtalkmhnlgfncmaaGreatDoorW.aT
attribute [local go_sem] fq fu gJ gK dN dO fA fB
class dG where
 f:Int→Option Bool
section
variable [dG]
/-! ### slices_IndexFunc_int64_int64: function 66 -/
def aJ.l0:Nat→List Int→Int→Int→Option (Int)
 |0,_,_,_=>none
 |k+1,x0,x7,x8=>if x8<x7 then(if 0≤x8 then(if x8<(x0.length:Int)then((dG.f (rd x0 x8)).bind fun aiH=>(if aiH=true then(some x8)else(aJ.l0 k x0 x7 (wrap64 (x8+1)))))else(none))else(none))else(some (-1))
def aJ.f (k:Nat) (l0:List Int) (a1:Int):Option (Int):=aJ.l0 k l0 (l0.length:Int) 0
set_option maxHeartbeats 8000000 in
set_option maxRecDepth 100000 in
theorem aJ.calls (k:Nat) (A0:Option Addr) (c0:Nat) (l0:List Int) (a1:Int) (r:Int) (cf:Nat) (cfn:Func) (caps:Array Value) (hcf:TJ Tryz.prog cf cfn) (w:World) (hcl:∀ x r W,dG.f x=some r→Below w.heap.size w W→Calls Tryz.prog cf (#[.int .i64 x]++caps) W fun e w'=>e= .returned (.bool r)∧gQ W w') (hr0:Kd.C (Kd.int .i64) w A0 l0.length l0) (hc0:l0.length≤c0) (h:aJ.f k l0 a1=some r):
  Calls Tryz.prog 66 #[.slice A0 l0.length c0,.func (.func cf) #[] caps] w fun e w'=>e= .returned (.int .i64 r)∧gQ w w':=by
 have HCF:=ah.mk hcf
 have HCL:=ah.mk hcl
 clear hcf hcl
 have HR0:=ah.mk hr0
 have HC0:=ah.mk hc0
 clear hr0 hc0
 have H:(aJ.l0 k l0 (l0.length:Int) 0)=some r:=h
 clear h
 have H':=ah.mk H
 clear H
 go_enter Tryz.func66,Tryz.ntmps66
 go_wp2
 go_loopg [8] k (fun kq v8 w'=>∃ (kR:Int),v8= .int .i64 kR∧ah (aJ.l0 kq l0 (l0.length:Int) kR=some r)∧ah (kq≤k)∧gQ w w')
 case atStart=>exact⟨(0),iY,H',⟨Nat.le_refl _⟩,vM⟩
 case round=>
  clear H'
  try clear p2
  obtain⟨kR,rfl,HA,HK1,⟨m1,rfl⟩⟩:=hrel
  cases gk with
  |zero=>exact absurd HA.out (by simp[aJ.l0])
  |succ k1=>
   have H:=HA.out
   clear HA
   simp only[aJ.l0]at H
   by_cases c3:kR<(l0.length:Int)
   ·rw[if_pos c3]at H
    have Cy:decide (kR<(l0.length:Int))=true:=decide_eq_true c3
    clear c3
    by_cases c4:0≤kR
    ·rw[if_pos c4]at H
     have Il:decide (0≤kR)=true:=decide_eq_true c4
     clear c4
     by_cases c5:kR<(l0.length:Int)
     ·rw[if_pos c5]at H
      have Cx:decide (kR<(l0.length:Int))=true:=decide_eq_true c5
      clear c5
      obtain⟨aiH,A60,H⟩:=Option.bind_eq_some_iff.mp H
      have A6:=ah.mk A60
      clear A60
      by_cases c7:aiH=true
      ·subst c7
       rw[if_pos rfl]at H
       obtain rfl:=Option.some.inj H
       have Zp:0≤(kR:Int):=of_decide_eq_true gN
       have Zq:kR<(l0.length:Int):=of_decide_eq_true gN
       obtain⟨aiI,e206,Zt⟩:=Kd.iC HR0.out kR Zp Zq
       cases e206
       replace Zp:=eq_true Zp
       replace Zq:=eq_true Zq
       go_wp2_with (first|((with_reducible refine aH (N:=16) rfl ?_);refine xY (some 16) rfl rfl HCF.out.hf HCF.out.hname HCF.out.hb #[.int .i64 (rd l0 kR)] rfl rfl jh ?_;(refine(HCL.out (rd l0 kR) true _ A6.out (by repeat(first|(with_reducible first|exact HB.out|apply bg|apply bZ|apply bG)|exact HB.out|exact Below.refl _ _))).mono ?_);rintro e w' ⟨rfl,⟨nd,rfl⟩⟩;refine⟨_,rfl,?_⟩))
       go_ret
       exact⟨iY,vM⟩
      replace c7:=Bool.eq_false_iff.mpr c7
      subst c7
      rw[if_neg (show ¬(false=true) by decide)]at H
      have H':=ah.mk H
      clear H
      have Zp:0≤(kR:Int):=of_decide_eq_true gN
      have Zq:kR<(l0.length:Int):=of_decide_eq_true gN
      obtain⟨aiI,e206,Zt⟩:=Kd.iC HR0.out kR Zp Zq
      cases e206
      replace Zp:=eq_true Zp
      replace Zq:=eq_true Zq
      go_wp2_with (first|((with_reducible refine aH (N:=16) rfl ?_);refine xY (some 16) rfl rfl HCF.out.hf HCF.out.hname HCF.out.hb #[.int .i64 (rd l0 kR)] rfl rfl jh ?_;(refine(HCL.out (rd l0 kR) false _ A6.out (by repeat(first|(with_reducible first|exact HB.out|apply bg|apply bZ|apply bG)|exact HB.out|exact Below.refl _ _))).mono ?_);rintro e w' ⟨rfl,⟨nd,rfl⟩⟩;refine⟨_,rfl,?_⟩))
      go_roundg k1
      case measure=>have:=HK1.out;omega
      case rel=>exact⟨(wrap64 (kR+1)),iY,H',⟨qz3 HK1⟩,vM⟩
     rw[if_neg c5]at H
     exact absurd H (by simp)
    rw[if_neg c4]at H
    exact absurd H (by simp)
   ·rw[if_neg c3]at H
    have Cy:decide (kR<(l0.length:Int))=false:=decide_eq_false c3
    clear c3
    obtain rfl:=Option.some.inj H
    go_wp2
    go_ret
    exact⟨iY,vM⟩
end
end Go.Proofs.YtalkmhnlgfncmaaGreatDoor.X
end
section
namespace Go.Proofs.YtalkmhnlgfncmaaGreatDoor.X
open Go.RowKit Go.Proofs.YtalkmhnlgfncmaaGreatDoorW.aC Go.Proofs.YtalkmhnlgfncmaaGreatDoorW.aN Go.Proofs.YtalkmhnlgfncmaaGreatDoorW.aT
attribute [local go_sem] fq fu gJ gK dN dO fA fB
/-! ### impl_within: function 18 -/
def aU.f (a0:Int) (a1:Int) (a2:Int):Option (Bool):=if a0≥a1 then(some (decide (a0≤a2)))else(some false)
set_option maxHeartbeats 8000000 in
set_option maxRecDepth 100000 in
theorem aU.calls (a0:Int) (a1:Int) (a2:Int) (r:Bool) (w:World) (h:aU.f a0 a1 a2=some r):
  Calls Tryz.prog 18 #[.int .i64 a0,.int .i64 a1,.int .i64 a2] w fun e w'=>e= .returned (.bool r)∧gQ w w':=by
 have H:(if a0≥a1 then(some (decide (a0≤a2)))else(some false))=some r:=h
 clear h
 by_cases c4:a0≥a1
 ·rw[if_pos c4]at H
  have Il:decide (a1≤a0)=true:=decide_eq_true c4
  clear c4
  obtain rfl:=Option.some.inj H
  go_enter Tryz.func18,Tryz.ntmps18
  go_wp2
  go_ret
  exact⟨iY,vM⟩
 ·rw[if_neg c4]at H
  have Il:decide (a1≤a0)=false:=decide_eq_false c4
  clear c4
  obtain rfl:=Option.some.inj H
  go_enter Tryz.func18,Tryz.ntmps18
  go_wp2
  go_ret
  exact⟨iY,vM⟩
end Go.Proofs.YtalkmhnlgfncmaaGreatDoor.X
end
section
namespace Go.Proofs.YtalkmhnlgfncmaaGreatDoor.X
open Go.RowKit Go.Proofs.YtalkmhnlgfncmaaGreatDoorW.aC Go.Proofs.YtalkmhnlgfncmaaGreatDoorW.aN Go.Proofs.YtalkmhnlgfncmaaGreatDoorW.aT
attribute [local go_sem] fq fu gJ gK dN dO fA fB
/-! ### impl_isDelay: function 46 -/
def jK.f (a0:Int):Option (Bool):=(aU.f a0 0 100).bind fun adL=>(some adL)
set_option maxHeartbeats 8000000 in
set_option maxRecDepth 100000 in
theorem jK.calls (a0:Int) (r:Bool) (w:World) (h:jK.f a0=some r):
  Calls Tryz.prog 46 #[.int .i64 a0] w fun e w'=>e= .returned (.bool r)∧gQ w w':=by
 have H:((aU.f a0 0 100).bind fun adL=>(some adL))=some r:=h
 clear h
 obtain⟨adL,A20,H⟩:=Option.bind_eq_some_iff.mp H
 have A2:=ah.mk A20
 clear A20
 obtain rfl:=Option.some.inj H
 go_enter Tryz.func46,Tryz.ntmps46
 go_wp2_with (first|((with_reducible refine aK (f:=18) rfl ?_);refine dH (some 4) rfl rfl Tryz.func18 qz9 rfl #[.int .i64 a0,.int .i64 0,.int .i64 100] rfl jh ?_;(with_reducible refine(aU.calls a0 0 100 adL _ A2.out).mono ?_);rintro e w' ⟨rfl,⟨nd,rfl⟩⟩;refine⟨_,rfl,?_⟩))
 go_ret
 exact⟨iY,vM⟩
end Go.Proofs.YtalkmhnlgfncmaaGreatDoor.X
end
section
namespace Go.Proofs.YtalkmhnlgfncmaaGreatDoor.X
open Go.RowKit Go.Proofs.YtalkmhnlgfncmaaGreatDoorW.aC Go.Proofs.YtalkmhnlgfncmaaGreatDoorW.aN Go.Proofs.YtalkmhnlgfncmaaGreatDoorW.aT
attribute [local go_sem] fq fu gJ gK dN dO fA fB
class iQ where
 f:Int→Int→Int→Option Bool
section
variable [iQ]
/-! ### impl_Wire_67: function 67 -/
def fC.l0:Nat→List (S40)→Int→Int→Option (Int)
 |0,_,_,_=>none
 |k+1,x0,x7,x8=>if x8<x7 then(if 0≤x8 then(if x8<(x0.length:Int)then((iQ.f ((au x0 x8).f0) ((au x0 x8).f1) ((au x0 x8).f2)).bind fun aiJ=>(if aiJ=true then(some x8)else(fC.l0 k x0 x7 (wrap64 (x8+1)))))else(none))else(none))else(some (-1))
def fC.f (k:Nat) (l0:List (S40)) (a1:Int):Option (Int):=fC.l0 k l0 (l0.length:Int) 0
set_option maxHeartbeats 8000000 in
set_option maxRecDepth 100000 in
theorem fC.calls (k:Nat) (A0:Option Addr) (c0:Nat) (l0:List (S40)) (a1:Int) (r:Int) (cf:Nat) (cfn:Func) (caps:Array Value) (hcf:TJ Tryz.prog cf cfn) (w:World) (hcl:∀ x0 x1 x2 r W,iQ.f x0 x1 x2=some r→Below w.heap.size w W→Calls Tryz.prog cf (#[.agg #[.int .i64 x0,.int .i64 x1,.int .i64 x2]]++caps) W fun e w'=>e= .returned (.bool r)∧Below W.heap.size W w') (hr0:Kd.C k40 w A0 l0.length l0) (hc0:l0.length≤c0) (h:fC.f k l0 a1=some r):
  Calls Tryz.prog 67 #[.slice A0 l0.length c0,.func (.func cf) #[] caps] w fun e w'=>e= .returned (.int .i64 r)∧Below w.heap.size w w':=by
 have HCF:=ah.mk hcf
 have HCL:=ah.mk hcl
 clear hcf hcl
 have Wh:=Tryz.underlying40
 have HR0:=ah.mk hr0
 have HC0:=ah.mk hc0
 clear hr0 hc0
 have HB:=ah.mk (Below.refl w.heap.size w)
 have H:(fC.l0 k l0 (l0.length:Int) 0)=some r:=h
 clear h
 have H':=ah.mk H
 clear H
 go_enter Tryz.func67,Tryz.ntmps67
 go_wp2
 go_loopg [8] k (fun kq v8 w'=>∃ (kR:Int),v8= .int .i64 kR∧ah (fC.l0 kq l0 (l0.length:Int) kR=some r)∧ah (kq≤k)∧ah (Below w.heap.size w w'))
 case atStart=>exact⟨(0),iY,H',⟨Nat.le_refl _⟩,⟨qz0 HB⟩⟩
 case round=>
  clear H'
  try clear p2
  obtain⟨kR,rfl,HA,HK1,HB⟩:=hrel
  cases gk with
  |zero=>exact absurd HA.out (by simp[fC.l0])
  |succ k1=>
   have H:=HA.out
   clear HA
   simp only[fC.l0]at H
   by_cases c3:kR<(l0.length:Int)
   ·rw[if_pos c3]at H
    have Cy:decide (kR<(l0.length:Int))=true:=decide_eq_true c3
    clear c3
    by_cases c4:0≤kR
    ·rw[if_pos c4]at H
     have Il:decide (0≤kR)=true:=decide_eq_true c4
     clear c4
     by_cases c5:kR<(l0.length:Int)
     ·rw[if_pos c5]at H
      have Cx:decide (kR<(l0.length:Int))=true:=decide_eq_true c5
      clear c5
      obtain⟨aiJ,A60,H⟩:=Option.bind_eq_some_iff.mp H
      have A6:=ah.mk A60
      clear A60
      by_cases c7:aiJ=true
      ·subst c7
       rw[if_pos rfl]at H
       obtain rfl:=Option.some.inj H
       have Zu:0≤(kR:Int):=of_decide_eq_true gN
       have Zv:kR<(l0.length:Int):=of_decide_eq_true gN
       obtain⟨aiK,e208,vG,vH,vI⟩:=kH HR0.out kR Zu Zv
       cases e208
       replace vG:=(HB.out.cell (World.block_lt_of_cell? w _ vG)).trans vG
       replace vH:=(HB.out.cell (World.block_lt_of_cell? w _ vH)).trans vH
       replace vI:=(HB.out.cell (World.block_lt_of_cell? w _ vI)).trans vI
       replace Zu:=eq_true Zu
       replace Zv:=eq_true Zv
       go_wp2_with (first|((with_reducible refine aH (N:=16) rfl ?_);refine xY (some 16) rfl rfl HCF.out.hf HCF.out.hname HCF.out.hb #[.agg #[.int .i64 ((au l0 kR).f0),.int .i64 ((au l0 kR).f1),.int .i64 ((au l0 kR).f2)]] rfl rfl jh ?_;(refine(HCL.out ((au l0 kR).f0) ((au l0 kR).f1) ((au l0 kR).f2) true _ A6.out (by repeat(first|(with_reducible first|exact HB.out|apply bg|apply bZ|apply bG)|exact HB.out|exact Below.refl _ _))).mono ?_);rintro e w8 ⟨rfl,hb⟩;refine⟨_,rfl,?_⟩;replace HB:=ah.mk (av (qz0 HB) hb);(try clear hb);(try clear hb2);(try clear hk);(try clear hi)))
       go_ret
       exact⟨qz7,qz0 HB⟩
      replace c7:=Bool.eq_false_iff.mpr c7
      subst c7
      rw[if_neg (show ¬(false=true) by decide)]at H
      have H':=ah.mk H
      clear H
      have Zu:0≤(kR:Int):=of_decide_eq_true gN
      have Zv:kR<(l0.length:Int):=of_decide_eq_true gN
      obtain⟨aiK,e208,vG,vH,vI⟩:=kH HR0.out kR Zu Zv
      cases e208
      replace vG:=(HB.out.cell (World.block_lt_of_cell? w _ vG)).trans vG
      replace vH:=(HB.out.cell (World.block_lt_of_cell? w _ vH)).trans vH
      replace vI:=(HB.out.cell (World.block_lt_of_cell? w _ vI)).trans vI
      replace Zu:=eq_true Zu
      replace Zv:=eq_true Zv
      go_wp2_with (first|((with_reducible refine aH (N:=16) rfl ?_);refine xY (some 16) rfl rfl HCF.out.hf HCF.out.hname HCF.out.hb #[.agg #[.int .i64 ((au l0 kR).f0),.int .i64 ((au l0 kR).f1),.int .i64 ((au l0 kR).f2)]] rfl rfl jh ?_;(refine(HCL.out ((au l0 kR).f0) ((au l0 kR).f1) ((au l0 kR).f2) false _ A6.out (by repeat(first|(with_reducible first|exact HB.out|apply bg|apply bZ|apply bG)|exact HB.out|exact Below.refl _ _))).mono ?_);rintro e w9 ⟨rfl,hb⟩;refine⟨_,rfl,?_⟩;replace HB:=ah.mk (av (qz0 HB) hb);(try clear hb);(try clear hb2);(try clear hk);(try clear hi)))
      go_roundg k1
      case measure=>have:=HK1.out;omega
      case rel=>exact⟨(wrap64 (kR+1)),iY,H',⟨qz3 HK1⟩,⟨qz0 HB⟩⟩
     rw[if_neg c5]at H
     exact absurd H (by simp)
    rw[if_neg c4]at H
    exact absurd H (by simp)
   ·rw[if_neg c3]at H
    have Cy:decide (kR<(l0.length:Int))=false:=decide_eq_false c3
    clear c3
    obtain rfl:=Option.some.inj H
    go_wp2
    go_ret
    exact⟨qz7,qz0 HB⟩
end
end Go.Proofs.YtalkmhnlgfncmaaGreatDoor.X
end
section
/- The program's isFlow: what it answers. Conditions: none. -/
namespace Go.Proofs.YtalkmhnlgfncmaaGreatDoor.X
open Go.RowKit Go.Proofs.YtalkmhnlgfncmaaGreatDoorW.aC Go.Proofs.YtalkmhnlgfncmaaGreatDoorW.aN Go.Proofs.YtalkmhnlgfncmaaGreatDoorW.aT
theorem zZ {a b c:World} (h:gQ a b) (k:gQ b c):gQ a c:=by
 obtain⟨m,rfl⟩:=h
 obtain⟨n,rfl⟩:=k
 exact⟨m+n,by simp[World.drewN,Nat.add_assoc]⟩
set_option maxHeartbeats 4000000 in
set_option maxRecDepth 100000 in
/-- The library's search over whole numbers, with a quiet closure. -/
theorem adN [dG] (k:Nat) (A:Option Addr) (c:Nat) (l:List Int) (r:Int) (cf:Nat) (cfn:Func) (caps:Array Value) (hcf:TJ Tryz.prog cf cfn) (w:World)
  (hcl:∀ x r W,dG.f x=some r→Below w.heap.size w W→Calls Tryz.prog cf (#[.int .i64 x]++caps) W fun e w'=>e= .returned (.bool r)∧gQ W w')
  (hr:Kd.C (Kd.int .i64) w A l.length l) (hc:l.length≤c) (h:aJ.f k l 0=some r):
  Calls Tryz.prog 44 #[.slice A l.length c,.func (.func cf) #[] caps] w fun e w'=>e= .returned (.bool (decide (r≥0)))∧gQ w w':=by
 have H:=ah.mk h
 have HR:=ah.mk hr
 have HC:=ah.mk hc
 have HF:=ah.mk hcf
 have HL:=ah.mk hcl
 clear h hr hc hcf hcl
 have HD:=ah.mk (gQ.refl w)
 go_enter Tryz.func44,Tryz.ntmps44
 go_wp2_with (first
  |(go_at_call 66;refine(aJ.calls k A c l 0 r cf cfn caps HF.out _ HL.out HR.out HC.out H.out).mono ?_;rintro e wn ⟨rfl,hb⟩;replace HD:=ah.mk (zZ HD.out hb);clear hb))
 go_ret
 exact⟨rfl,HD.out⟩
set_option maxHeartbeats 4000000 in
set_option maxRecDepth 100000 in
/-- .. over wires, with a closure that may make memory. -/
theorem adO [iQ] (k:Nat) (A:Option Addr) (c:Nat) (l:List S40) (r:Int) (cf:Nat) (cfn:Func) (caps:Array Value) (hcf:TJ Tryz.prog cf cfn) (w:World)
  (hcl:∀ x0 x1 x2 r W,iQ.f x0 x1 x2=some r→Below w.heap.size w W→Calls Tryz.prog cf (#[.agg #[.int .i64 x0,.int .i64 x1,.int .i64 x2]]++caps) W fun e w'=>e= .returned (.bool r)∧Below W.heap.size W w')
  (hr:Kd.C k40 w A l.length l) (hc:l.length≤c) (h:fC.f k l 0=some r):
  Calls Tryz.prog 47 #[.slice A l.length c,.func (.func cf) #[] caps] w fun e w'=>e= .returned (.bool (decide (r≥0)))∧Below w.heap.size w w':=by
 have H:=ah.mk h
 have HR:=ah.mk hr
 have HC:=ah.mk hc
 have HF:=ah.mk hcf
 have HL:=ah.mk hcl
 clear h hr hc hcf hcl
 have HB:=ah.mk (Below.refl w.heap.size w)
 go_enter Tryz.func47,Tryz.ntmps47
 go_wp2_with (first
  |(go_at_call 67;refine(fC.calls k A c l 0 r cf cfn caps HF.out _ HL.out HR.out HC.out H.out).mono ?_;rintro e wn ⟨rfl,hb⟩;replace HB:=ah.mk (av HB.out hb);clear hb))
 go_ret
 exact⟨rfl,HB.out⟩
abbrev Ac:dG:=⟨fun x=>(jK.f x).bind fun b=>some (!b)⟩
set_option maxHeartbeats 4000000 in
set_option maxRecDepth 100000 in
theorem Uq (x:Int) (b:Bool) (w:World) (h:jK.f x=some b):Calls Tryz.prog 45 #[.int .i64 x] w fun e w'=>e= .returned (.bool !b)∧gQ w w':=by
 have H:=ah.mk h
 clear h
 have HD:=ah.mk (gQ.refl w)
 go_enter Tryz.func45,Tryz.ntmps45
 go_wp2_with (first
  |(go_at_call 46;(with_reducible refine(jK.calls x b _ H.out).mono ?_);rintro e wn ⟨rfl,hb⟩;replace HD:=ah.mk (zZ HD.out hb);clear hb))
 go_ret
 exact⟨rfl,HD.out⟩
theorem OL (w:World):∀ x r W,Ac.f x=some r→Below w.heap.size w W→Calls Tryz.prog 45 (#[.int .i64 x]++ #[]) W fun e w'=>e= .returned (.bool r)∧gQ W w':=by
 intro x r W hx hW
 obtain⟨b,hb,hx⟩:=Option.bind_eq_some_iff.mp hx
 obtain rfl:=Option.some.inj hx
 exact Uq x b W hb
/-- What isFlow asks of a wire: yes if it is none. -/
def sZ (n f t c:Int):Bool:= !(decide (0≤f)&&decide (f≤n - 1))||(!(decide (0≤t)&&decide (t≤n - 1))|| !(decide (0≤c)&&decide (c≤20)))
abbrev OM (n:Int):iQ:=⟨fun f t c=>some (sZ n f t c)⟩
theorem nK (a b c:Int):aU.f a b c=some (decide (b≤a)&&decide (a≤c)):=by
 unfold aU.f;by_cases h:a≥b<;>simp[h]<;>omega
set_option maxHeartbeats 4000000 in
set_option maxRecDepth 100000 in
theorem OO (x0 x1 x2 n:Int) (g1:Nat) (n0:1≤n) (n8:n≤8) (w:World) (b1:w.heap[g1]?=some (.cells #[.int .i64 n] 2 (0,0))) (h1:aU.f x0 0 (n - 1)=some false):
  Calls Tryz.prog 48 #[.agg #[.int .i64 x0,.int .i64 x1,.int .i64 x2],.pointer (some ⟨g1,0,none⟩)] w fun e w'=>e= .returned (.bool true)∧Below w.heap.size w w':=by
 have Hb1:=ah.mk b1
 have Hh1:=ah.mk h1
 clear b1 h1
 have HB:=ah.mk (Below.refl w.heap.size w)
 have BK1:=Hb1
 have e1:IntKind.i64.wrap (n - 1)=n - 1:=IntWalk.i64_in _ ⟨by omega,by omega⟩
 go_enter Tryz.func48,Tryz.ntmps48
 go_wp2_with (first
  |((with_reducible refine aH (N:=2) rfl ?_);refine qbx (N:=2) (cs:=#[.int .i64 x0,.int .i64 x1,.int .i64 x2]) (t:=40) ?_;intro g2 hg wn bR hb;have GE2:=ah.mk (xu HB:w.heap.size≤g2);have hbx:=hb;clear hg;have Ws:=ah.mk bR;clear bR;have n0_:=ah.mk (av HB.out hb);clear HB hb;have HB:=n0_;clear n0_;have BK2:=Ws;clear Ws;have OP:wn.cell? ⟨g2,0,none⟩=some (.int .i64 x0):=(aj BK2.out 0).trans rfl;have Wt:wn.cell? ⟨g2,1,none⟩=some (.int .i64 x1):=(aj BK2.out 1).trans rfl;have Wu:wn.cell? ⟨g2,2,none⟩=some (.int .i64 x2):=(aj BK2.out 2).trans rfl;have n1_:=ah.mk (aA BK1.out hbx);clear hbx BK1;have BK1:=n1_;clear n1_;have oI:wn.cell? ⟨g1,0,none⟩=some (.int .i64 n):=(aj BK1.out 0).trans rfl)
  |(go_at_call 18;(with_reducible refine(aU.calls x0 0 (n - 1) false _ Hh1.out).mono ?_);rintro e wn ⟨rfl,hb0⟩;have hb:=jH hb0;have n1_:=ah.mk (aA BK1.out (hb0.below));clear hb0;have n0_:=ah.mk (av HB.out hb);have m2_:=ah.mk (aA BK2.out hb);clear HB BK2 hb;have HB:=n0_;have BK2:=m2_;clear n0_ m2_;have OP:wn.cell? ⟨g2,0,none⟩=some (.int .i64 x0):=(aj BK2.out 0).trans rfl;have Wt:wn.cell? ⟨g2,1,none⟩=some (.int .i64 x1):=(aj BK2.out 1).trans rfl;have Wu:wn.cell? ⟨g2,2,none⟩=some (.int .i64 x2):=(aj BK2.out 2).trans rfl;clear BK1;have BK1:=n1_;clear n1_;have oI:wn.cell? ⟨g1,0,none⟩=some (.int .i64 n):=(aj BK1.out 0).trans rfl))
 go_ret
 exact⟨rfl,HB.out⟩
set_option maxHeartbeats 4000000 in
set_option maxRecDepth 100000 in
theorem OQ (x0 x1 x2 n:Int) (g1:Nat) (n0:1≤n) (n8:n≤8) (w:World) (b1:w.heap[g1]?=some (.cells #[.int .i64 n] 2 (0,0))) (h1:aU.f x0 0 (n - 1)=some true) (h2:aU.f x1 0 (n - 1)=some false):
  Calls Tryz.prog 48 #[.agg #[.int .i64 x0,.int .i64 x1,.int .i64 x2],.pointer (some ⟨g1,0,none⟩)] w fun e w'=>e= .returned (.bool true)∧Below w.heap.size w w':=by
 have Hb1:=ah.mk b1
 have Hh1:=ah.mk h1
 have Hh2:=ah.mk h2
 clear b1 h1 h2
 have HB:=ah.mk (Below.refl w.heap.size w)
 have BK1:=Hb1
 have e1:IntKind.i64.wrap (n - 1)=n - 1:=IntWalk.i64_in _ ⟨by omega,by omega⟩
 go_enter Tryz.func48,Tryz.ntmps48
 go_wp2_with (first
  |((with_reducible refine aH (N:=2) rfl ?_);refine qbx (N:=2) (cs:=#[.int .i64 x0,.int .i64 x1,.int .i64 x2]) (t:=40) ?_;intro g2 hg wn bR hb;have GE2:=ah.mk (xu HB:w.heap.size≤g2);have hbx:=hb;clear hg;have Ws:=ah.mk bR;clear bR;have n0_:=ah.mk (av HB.out hb);clear HB hb;have HB:=n0_;clear n0_;have BK2:=Ws;clear Ws;have OP:wn.cell? ⟨g2,0,none⟩=some (.int .i64 x0):=(aj BK2.out 0).trans rfl;have Wt:wn.cell? ⟨g2,1,none⟩=some (.int .i64 x1):=(aj BK2.out 1).trans rfl;have Wu:wn.cell? ⟨g2,2,none⟩=some (.int .i64 x2):=(aj BK2.out 2).trans rfl;have n1_:=ah.mk (aA BK1.out hbx);clear hbx BK1;have BK1:=n1_;clear n1_;have oI:wn.cell? ⟨g1,0,none⟩=some (.int .i64 n):=(aj BK1.out 0).trans rfl)
  |(go_at_call 18;(with_reducible refine(aU.calls x0 0 (n - 1) true _ Hh1.out).mono ?_);rintro e wn ⟨rfl,hb0⟩;have hb:=jH hb0;have n1_:=ah.mk (aA BK1.out (hb0.below));clear hb0;have n0_:=ah.mk (av HB.out hb);have m2_:=ah.mk (aA BK2.out hb);clear HB BK2 hb;have HB:=n0_;have BK2:=m2_;clear n0_ m2_;have OP:wn.cell? ⟨g2,0,none⟩=some (.int .i64 x0):=(aj BK2.out 0).trans rfl;have Wt:wn.cell? ⟨g2,1,none⟩=some (.int .i64 x1):=(aj BK2.out 1).trans rfl;have Wu:wn.cell? ⟨g2,2,none⟩=some (.int .i64 x2):=(aj BK2.out 2).trans rfl;clear BK1;have BK1:=n1_;clear n1_;have oI:wn.cell? ⟨g1,0,none⟩=some (.int .i64 n):=(aj BK1.out 0).trans rfl)
  |(go_at_call 18;(with_reducible refine(aU.calls x1 0 (n - 1) false _ Hh2.out).mono ?_);rintro e wn ⟨rfl,hb0⟩;have hb:=jH hb0;have n1_:=ah.mk (aA BK1.out (hb0.below));clear hb0;have n0_:=ah.mk (av HB.out hb);have m2_:=ah.mk (aA BK2.out hb);clear HB BK2 hb;have HB:=n0_;have BK2:=m2_;clear n0_ m2_;have OP:wn.cell? ⟨g2,0,none⟩=some (.int .i64 x0):=(aj BK2.out 0).trans rfl;have Wt:wn.cell? ⟨g2,1,none⟩=some (.int .i64 x1):=(aj BK2.out 1).trans rfl;have Wu:wn.cell? ⟨g2,2,none⟩=some (.int .i64 x2):=(aj BK2.out 2).trans rfl;clear BK1;have BK1:=n1_;clear n1_;have oI:wn.cell? ⟨g1,0,none⟩=some (.int .i64 n):=(aj BK1.out 0).trans rfl))
 go_ret
 exact⟨rfl,HB.out⟩
set_option maxHeartbeats 4000000 in
set_option maxRecDepth 100000 in
theorem OT (x0 x1 x2 n:Int) (g1:Nat) (n0:1≤n) (n8:n≤8) (b:Bool) (w:World) (b1:w.heap[g1]?=some (.cells #[.int .i64 n] 2 (0,0))) (h1:aU.f x0 0 (n - 1)=some true) (h2:aU.f x1 0 (n - 1)=some true) (h3:aU.f x2 0 20=some b):
  Calls Tryz.prog 48 #[.agg #[.int .i64 x0,.int .i64 x1,.int .i64 x2],.pointer (some ⟨g1,0,none⟩)] w fun e w'=>e= .returned (.bool (!b))∧Below w.heap.size w w':=by
 have Hb1:=ah.mk b1
 have Hh1:=ah.mk h1
 have Hh2:=ah.mk h2
 have Hh3:=ah.mk h3
 clear b1 h1 h2 h3
 have HB:=ah.mk (Below.refl w.heap.size w)
 have BK1:=Hb1
 have e1:IntKind.i64.wrap (n - 1)=n - 1:=IntWalk.i64_in _ ⟨by omega,by omega⟩
 go_enter Tryz.func48,Tryz.ntmps48
 go_wp2_with (first
  |((with_reducible refine aH (N:=2) rfl ?_);refine qbx (N:=2) (cs:=#[.int .i64 x0,.int .i64 x1,.int .i64 x2]) (t:=40) ?_;intro g2 hg wn bR hb;have GE2:=ah.mk (xu HB:w.heap.size≤g2);have hbx:=hb;clear hg;have Ws:=ah.mk bR;clear bR;have n0_:=ah.mk (av HB.out hb);clear HB hb;have HB:=n0_;clear n0_;have BK2:=Ws;clear Ws;have OP:wn.cell? ⟨g2,0,none⟩=some (.int .i64 x0):=(aj BK2.out 0).trans rfl;have Wt:wn.cell? ⟨g2,1,none⟩=some (.int .i64 x1):=(aj BK2.out 1).trans rfl;have Wu:wn.cell? ⟨g2,2,none⟩=some (.int .i64 x2):=(aj BK2.out 2).trans rfl;have n1_:=ah.mk (aA BK1.out hbx);clear hbx BK1;have BK1:=n1_;clear n1_;have oI:wn.cell? ⟨g1,0,none⟩=some (.int .i64 n):=(aj BK1.out 0).trans rfl)
  |(go_at_call 18;(with_reducible refine(aU.calls x0 0 (n - 1) true _ Hh1.out).mono ?_);rintro e wn ⟨rfl,hb0⟩;have hb:=jH hb0;have n1_:=ah.mk (aA BK1.out (hb0.below));clear hb0;have n0_:=ah.mk (av HB.out hb);have m2_:=ah.mk (aA BK2.out hb);clear HB BK2 hb;have HB:=n0_;have BK2:=m2_;clear n0_ m2_;have OP:wn.cell? ⟨g2,0,none⟩=some (.int .i64 x0):=(aj BK2.out 0).trans rfl;have Wt:wn.cell? ⟨g2,1,none⟩=some (.int .i64 x1):=(aj BK2.out 1).trans rfl;have Wu:wn.cell? ⟨g2,2,none⟩=some (.int .i64 x2):=(aj BK2.out 2).trans rfl;clear BK1;have BK1:=n1_;clear n1_;have oI:wn.cell? ⟨g1,0,none⟩=some (.int .i64 n):=(aj BK1.out 0).trans rfl)
  |(go_at_call 18;(with_reducible refine(aU.calls x1 0 (n - 1) true _ Hh2.out).mono ?_);rintro e wn ⟨rfl,hb0⟩;have hb:=jH hb0;have n1_:=ah.mk (aA BK1.out (hb0.below));clear hb0;have n0_:=ah.mk (av HB.out hb);have m2_:=ah.mk (aA BK2.out hb);clear HB BK2 hb;have HB:=n0_;have BK2:=m2_;clear n0_ m2_;have OP:wn.cell? ⟨g2,0,none⟩=some (.int .i64 x0):=(aj BK2.out 0).trans rfl;have Wt:wn.cell? ⟨g2,1,none⟩=some (.int .i64 x1):=(aj BK2.out 1).trans rfl;have Wu:wn.cell? ⟨g2,2,none⟩=some (.int .i64 x2):=(aj BK2.out 2).trans rfl;clear BK1;have BK1:=n1_;clear n1_;have oI:wn.cell? ⟨g1,0,none⟩=some (.int .i64 n):=(aj BK1.out 0).trans rfl)
  |(go_at_call 18;(with_reducible refine(aU.calls x2 0 20 b _ Hh3.out).mono ?_);rintro e wn ⟨rfl,hb0⟩;have hb:=jH hb0;have n1_:=ah.mk (aA BK1.out (hb0.below));clear hb0;have n0_:=ah.mk (av HB.out hb);have m2_:=ah.mk (aA BK2.out hb);clear HB BK2 hb;have HB:=n0_;have BK2:=m2_;clear n0_ m2_;have OP:wn.cell? ⟨g2,0,none⟩=some (.int .i64 x0):=(aj BK2.out 0).trans rfl;have Wt:wn.cell? ⟨g2,1,none⟩=some (.int .i64 x1):=(aj BK2.out 1).trans rfl;have Wu:wn.cell? ⟨g2,2,none⟩=some (.int .i64 x2):=(aj BK2.out 2).trans rfl;clear BK1;have BK1:=n1_;clear n1_;have oI:wn.cell? ⟨g1,0,none⟩=some (.int .i64 n):=(aj BK1.out 0).trans rfl))
 go_ret
 exact⟨rfl,HB.out⟩
theorem adP (n:Int) (g1:Nat) (w:World) (n0:1≤n) (n8:n≤8) (h1:w.heap[g1]?=some (.cells #[.int .i64 n] 2 (0,0))):
  ∀ x0 x1 x2 r W,(OM n).f x0 x1 x2=some r→Below w.heap.size w W→Calls Tryz.prog 48 (#[.agg #[.int .i64 x0,.int .i64 x1,.int .i64 x2]]++ #[.pointer (some ⟨g1,0,none⟩)]) W fun e w'=>e= .returned (.bool r)∧Below W.heap.size W w':=by
 intro x0 x1 x2 r W hx hW
 obtain rfl:=Option.some.inj hx
 have hg:=aA h1 hW
 unfold sZ
 cases q1:(decide (0≤x0)&&decide (x0≤n - 1))with
 |false=>exact OO x0 x1 x2 n g1 n0 n8 W hg (by rw[nK,q1])
 |true=>
  cases q2:(decide (0≤x1)&&decide (x1≤n - 1))with
  |false=>exact OQ x0 x1 x2 n g1 n0 n8 W hg (by rw[nK,q1]) (by rw[nK,q2])
  |true=>exact OT x0 x1 x2 n g1 n0 n8 _ W hg (by rw[nK,q1]) (by rw[nK,q2]) (nK _ _ _)
set_option maxHeartbeats 4000000 in
set_option maxRecDepth 100000 in
theorem Ur (k:Nat) (A0:Option Addr) (c0:Nat) (l0:List Int) (A1:Option Addr) (c1:Nat) (l1:List S40) (w:World) (h1:aU.f (l0.length:Int) 1 8=some false):
  Calls Tryz.prog 24 #[.agg #[.slice A0 l0.length c0,.slice A1 l1.length c1]] w fun e w'=>e= .returned (.bool false)∧Below w.heap.size w w':=by
 have Hh1:=ah.mk h1
 clear h1
 have HB:=ah.mk (Below.refl w.heap.size w)
 go_enter Tryz.func24,Tryz.ntmps24
 go_wp2_with (first
  |((with_reducible refine aH (N:=1) rfl ?_);refine qbx (N:=1) (cs:=#[.slice A0 l0.length c0,.slice A1 l1.length c1]) (t:=27) ?_;intro g1 hg wn bR hb;have GE1:=ah.mk (xu HB:w.heap.size≤g1);clear hg;have Gn:=ah.mk bR;clear bR;have n0_:=ah.mk (av HB.out hb);clear HB hb;have HB:=n0_;clear n0_;have BK1:=Gn;clear Gn;have oI:wn.cell? ⟨g1,0,none⟩=some (.slice A0 l0.length c0):=(aj BK1.out 0).trans rfl;have uV:wn.cell? ⟨g1,1,none⟩=some (.slice A1 l1.length c1):=(aj BK1.out 1).trans rfl)
  |((with_reducible refine aH (N:=3) rfl ?_);refine qbx (N:=3) (cs:=#[.int .i64 0]) (t:=2) ?_;intro g3 hg wn bR hb;have GE3:=ah.mk (xu HB:w.heap.size≤g3);have tq:=ah.mk (show g1≠g3 from Tg BK1);clear hg;have Ad:=ah.mk bR;clear bR;have n0_:=ah.mk (av HB.out hb);have m1_:=ah.mk (aA BK1.out hb);clear HB BK1 hb;have HB:=n0_;have BK1:=m1_;clear n0_ m1_;have oI:wn.cell? ⟨g1,0,none⟩=some (.slice A0 l0.length c0):=(aj BK1.out 0).trans rfl;have uV:wn.cell? ⟨g1,1,none⟩=some (.slice A1 l1.length c1):=(aj BK1.out 1).trans rfl;have BK3:=Ad;clear Ad;have Er:wn.cell? ⟨g3,0,none⟩=some (.int .i64 0):=(aj BK3.out 0).trans rfl;have adQ:=ak BK3.out 0;have adR:∀ v,(wn.setCell ⟨g3,0,none⟩ v).cell? ⟨g1,0,none⟩=some (.slice A0 l0.length c0):=fun v=>(aj (dJ BK1.out (p:=⟨g3,0,none⟩) tq.out v) 0).trans rfl;have adS:∀ v,(wn.setCell ⟨g3,0,none⟩ v).cell? ⟨g1,1,none⟩=some (.slice A1 l1.length c1):=fun v=>(aj (dJ BK1.out (p:=⟨g3,0,none⟩) tq.out v) 1).trans rfl)
  |(go_at_call 18;have m1_:=ah.mk (dJ BK1.out (p:=⟨g3,0,none⟩) tq.out (.int .i64 (l0.length:Int)));have m3_:=ah.mk (aW BK3.out 0 (.int .i64 (l0.length:Int)) (cs':=#[.int .i64 (l0.length:Int)]) rfl);have n0_:=ah.mk (bF (j:=0) (v:=.int .i64 (l0.length:Int)) HB.out GE3.out);clear HB BK1 BK3;have HB:=n0_;have BK1:=m1_;have BK3:=m3_;clear n0_ m1_ m3_;(with_reducible refine(aU.calls (l0.length:Int) 1 8 false _ Hh1.out).mono ?_);rintro e wn ⟨rfl,hb0⟩;(first|have hb:=jH hb0|have hb:=uL hb0);clear hb0;have n0_:=ah.mk (av HB.out hb);have m1_:=ah.mk (aA BK1.out hb);have m3_:=ah.mk (aA BK3.out hb);clear HB BK1 BK3 hb;have HB:=n0_;have BK1:=m1_;have BK3:=m3_;clear n0_ m1_ m3_;have oI:wn.cell? ⟨g1,0,none⟩=some (.slice A0 l0.length c0):=(aj BK1.out 0).trans rfl;have uV:wn.cell? ⟨g1,1,none⟩=some (.slice A1 l1.length c1):=(aj BK1.out 1).trans rfl;have Er:wn.cell? ⟨g3,0,none⟩=some (.int .i64 (l0.length:Int)):=(aj BK3.out 0).trans rfl))
 go_ret
 exact⟨rfl,HB.out⟩
set_option maxHeartbeats 4000000 in
set_option maxRecDepth 100000 in
theorem Us (k:Nat) (A0:Option Addr) (c0:Nat) (l0:List Int) (A1:Option Addr) (c1:Nat) (l1:List S40)(f1:decide (16<l1.length)=true) (f2:decide ((16:Int)<(l1.length:Int))=true) (w:World) (h1:aU.f (l0.length:Int) 1 8=some true):
  Calls Tryz.prog 24 #[.agg #[.slice A0 l0.length c0,.slice A1 l1.length c1]] w fun e w'=>e= .returned (.bool false)∧Below w.heap.size w w':=by
 have Hh1:=ah.mk h1
 clear h1
 have HB:=ah.mk (Below.refl w.heap.size w)
 go_enter Tryz.func24,Tryz.ntmps24
 go_wp2_with (first
  |((with_reducible refine aH (N:=1) rfl ?_);refine qbx (N:=1) (cs:=#[.slice A0 l0.length c0,.slice A1 l1.length c1]) (t:=27) ?_;intro g1 hg wn bR hb;have GE1:=ah.mk (xu HB:w.heap.size≤g1);clear hg;have Gn:=ah.mk bR;clear bR;have n0_:=ah.mk (av HB.out hb);clear HB hb;have HB:=n0_;clear n0_;have BK1:=Gn;clear Gn;have oI:wn.cell? ⟨g1,0,none⟩=some (.slice A0 l0.length c0):=(aj BK1.out 0).trans rfl;have uV:wn.cell? ⟨g1,1,none⟩=some (.slice A1 l1.length c1):=(aj BK1.out 1).trans rfl)
  |((with_reducible refine aH (N:=3) rfl ?_);refine qbx (N:=3) (cs:=#[.int .i64 0]) (t:=2) ?_;intro g3 hg wn bR hb;have GE3:=ah.mk (xu HB:w.heap.size≤g3);have tq:=ah.mk (show g1≠g3 from Tg BK1);clear hg;have Ad:=ah.mk bR;clear bR;have n0_:=ah.mk (av HB.out hb);have m1_:=ah.mk (aA BK1.out hb);clear HB BK1 hb;have HB:=n0_;have BK1:=m1_;clear n0_ m1_;have oI:wn.cell? ⟨g1,0,none⟩=some (.slice A0 l0.length c0):=(aj BK1.out 0).trans rfl;have uV:wn.cell? ⟨g1,1,none⟩=some (.slice A1 l1.length c1):=(aj BK1.out 1).trans rfl;have BK3:=Ad;clear Ad;have Er:wn.cell? ⟨g3,0,none⟩=some (.int .i64 0):=(aj BK3.out 0).trans rfl;have adQ:=ak BK3.out 0;have adR:∀ v,(wn.setCell ⟨g3,0,none⟩ v).cell? ⟨g1,0,none⟩=some (.slice A0 l0.length c0):=fun v=>(aj (dJ BK1.out (p:=⟨g3,0,none⟩) tq.out v) 0).trans rfl;have adS:∀ v,(wn.setCell ⟨g3,0,none⟩ v).cell? ⟨g1,1,none⟩=some (.slice A1 l1.length c1):=fun v=>(aj (dJ BK1.out (p:=⟨g3,0,none⟩) tq.out v) 1).trans rfl)
  |(go_at_call 18;have m1_:=ah.mk (dJ BK1.out (p:=⟨g3,0,none⟩) tq.out (.int .i64 (l0.length:Int)));have m3_:=ah.mk (aW BK3.out 0 (.int .i64 (l0.length:Int)) (cs':=#[.int .i64 (l0.length:Int)]) rfl);have n0_:=ah.mk (bF (j:=0) (v:=.int .i64 (l0.length:Int)) HB.out GE3.out);clear HB BK1 BK3;have HB:=n0_;have BK1:=m1_;have BK3:=m3_;clear n0_ m1_ m3_;(with_reducible refine(aU.calls (l0.length:Int) 1 8 true _ Hh1.out).mono ?_);rintro e wn ⟨rfl,hb0⟩;(first|have hb:=jH hb0|have hb:=uL hb0);clear hb0;have n0_:=ah.mk (av HB.out hb);have m1_:=ah.mk (aA BK1.out hb);have m3_:=ah.mk (aA BK3.out hb);clear HB BK1 BK3 hb;have HB:=n0_;have BK1:=m1_;have BK3:=m3_;clear n0_ m1_ m3_;have oI:wn.cell? ⟨g1,0,none⟩=some (.slice A0 l0.length c0):=(aj BK1.out 0).trans rfl;have uV:wn.cell? ⟨g1,1,none⟩=some (.slice A1 l1.length c1):=(aj BK1.out 1).trans rfl;have Er:wn.cell? ⟨g3,0,none⟩=some (.int .i64 (l0.length:Int)):=(aj BK3.out 0).trans rfl))
 go_ret
 exact⟨rfl,HB.out⟩
set_option maxHeartbeats 4000000 in
set_option maxRecDepth 100000 in
theorem Ut (k:Nat) (A0:Option Addr) (c0:Nat) (l0:List Int) (A1:Option Addr) (c1:Nat) (l1:List S40) (i:Int) (f1:decide (16<l1.length)=false) (f2:decide ((16:Int)<(l1.length:Int))=false) (w:World) (hr0:Kd.C (Kd.int .i64) w A0 l0.length l0) (hc0:l0.length≤c0) (hr1:Kd.C k40 w A1 l1.length l1) (hc1:l1.length≤c1) (h1:aU.f (l0.length:Int) 1 8=some true) (hi:@aJ.f Ac k l0 0=some i) (hp:decide (i≥0)=true):
  Calls Tryz.prog 24 #[.agg #[.slice A0 l0.length c0,.slice A1 l1.length c1]] w fun e w'=>e= .returned (.bool false)∧Below w.heap.size w w':=by
 have OU:=ah.mk hr0
 have aiL:=ah.mk hc0
 have Ti:=ah.mk hr1
 have anD:=ah.mk hc1
 have Hh1:=ah.mk h1
 have Hhi:=ah.mk hi
 have Hhp:=ah.mk hp
 clear hr0 hc0 hr1 hc1 h1 hi hp
 have HB:=ah.mk (Below.refl w.heap.size w)
 have F3:=Hhp
 go_enter Tryz.func24,Tryz.ntmps24
 go_wp2_with (first
  |((with_reducible refine aH (N:=1) rfl ?_);refine qbx (N:=1) (cs:=#[.slice A0 l0.length c0,.slice A1 l1.length c1]) (t:=27) ?_;intro g1 hg wn bR hb;have GE1:=ah.mk (xu HB:w.heap.size≤g1);clear hg;have Gn:=ah.mk bR;clear bR;have n0_:=ah.mk (av HB.out hb);clear HB hb;have HB:=n0_;clear n0_;have BK1:=Gn;clear Gn;have oI:wn.cell? ⟨g1,0,none⟩=some (.slice A0 l0.length c0):=(aj BK1.out 0).trans rfl;have uV:wn.cell? ⟨g1,1,none⟩=some (.slice A1 l1.length c1):=(aj BK1.out 1).trans rfl)
  |((with_reducible refine aH (N:=3) rfl ?_);refine qbx (N:=3) (cs:=#[.int .i64 0]) (t:=2) ?_;intro g3 hg wn bR hb;have GE3:=ah.mk (xu HB:w.heap.size≤g3);have tq:=ah.mk (show g1≠g3 from Tg BK1);clear hg;have Ad:=ah.mk bR;clear bR;have n0_:=ah.mk (av HB.out hb);have m1_:=ah.mk (aA BK1.out hb);clear HB BK1 hb;have HB:=n0_;have BK1:=m1_;clear n0_ m1_;have oI:wn.cell? ⟨g1,0,none⟩=some (.slice A0 l0.length c0):=(aj BK1.out 0).trans rfl;have uV:wn.cell? ⟨g1,1,none⟩=some (.slice A1 l1.length c1):=(aj BK1.out 1).trans rfl;have BK3:=Ad;clear Ad;have Er:wn.cell? ⟨g3,0,none⟩=some (.int .i64 0):=(aj BK3.out 0).trans rfl;have adQ:=ak BK3.out 0;have adR:∀ v,(wn.setCell ⟨g3,0,none⟩ v).cell? ⟨g1,0,none⟩=some (.slice A0 l0.length c0):=fun v=>(aj (dJ BK1.out (p:=⟨g3,0,none⟩) tq.out v) 0).trans rfl;have adS:∀ v,(wn.setCell ⟨g3,0,none⟩ v).cell? ⟨g1,1,none⟩=some (.slice A1 l1.length c1):=fun v=>(aj (dJ BK1.out (p:=⟨g3,0,none⟩) tq.out v) 1).trans rfl)
  |(go_at_call 18;have m1_:=ah.mk (dJ BK1.out (p:=⟨g3,0,none⟩) tq.out (.int .i64 (l0.length:Int)));have m3_:=ah.mk (aW BK3.out 0 (.int .i64 (l0.length:Int)) (cs':=#[.int .i64 (l0.length:Int)]) rfl);have n0_:=ah.mk (bF (j:=0) (v:=.int .i64 (l0.length:Int)) HB.out GE3.out);clear HB BK1 BK3;have HB:=n0_;have BK1:=m1_;have BK3:=m3_;clear n0_ m1_ m3_;(with_reducible refine(aU.calls (l0.length:Int) 1 8 true _ Hh1.out).mono ?_);rintro e wn ⟨rfl,hb0⟩;(first|have hb:=jH hb0|have hb:=uL hb0);clear hb0;have n0_:=ah.mk (av HB.out hb);have m1_:=ah.mk (aA BK1.out hb);have m3_:=ah.mk (aA BK3.out hb);clear HB BK1 BK3 hb;have HB:=n0_;have BK1:=m1_;have BK3:=m3_;clear n0_ m1_ m3_;have oI:wn.cell? ⟨g1,0,none⟩=some (.slice A0 l0.length c0):=(aj BK1.out 0).trans rfl;have uV:wn.cell? ⟨g1,1,none⟩=some (.slice A1 l1.length c1):=(aj BK1.out 1).trans rfl;have Er:wn.cell? ⟨g3,0,none⟩=some (.int .i64 (l0.length:Int)):=(aj BK3.out 0).trans rfl)
  |(go_at_call 44;refine(@adN Ac k A0 c0 l0 i 45 Tryz.f45 #[] ⟨Tryz.func45,rfl,qz9⟩ _ (OL _) (Kd.gX OU.out HB.out) aiL.out Hhi.out).mono ?_;rintro e wn ⟨he,hb0⟩;rw[F3.out]at he;subst he;have hb:=jH hb0;clear hb0;have n0_:=ah.mk (av HB.out hb);have m1_:=ah.mk (aA BK1.out hb);have m3_:=ah.mk (aA BK3.out hb);clear HB BK1 BK3 hb;have HB:=n0_;have BK1:=m1_;have BK3:=m3_;clear n0_ m1_ m3_;have oI:wn.cell? ⟨g1,0,none⟩=some (.slice A0 l0.length c0):=(aj BK1.out 0).trans rfl;have uV:wn.cell? ⟨g1,1,none⟩=some (.slice A1 l1.length c1):=(aj BK1.out 1).trans rfl;have Er:wn.cell? ⟨g3,0,none⟩=some (.int .i64 (l0.length:Int)):=(aj BK3.out 0).trans rfl))
 go_ret
 exact⟨rfl,HB.out⟩
set_option maxHeartbeats 4000000 in
set_option maxRecDepth 100000 in
theorem Uu (k:Nat) (A0:Option Addr) (c0:Nat) (l0:List Int) (A1:Option Addr) (c1:Nat) (l1:List S40) (i j:Int) (f1:decide (16<l1.length)=false) (f2:decide ((16:Int)<(l1.length:Int))=false) (w:World) (hr0:Kd.C (Kd.int .i64) w A0 l0.length l0) (hc0:l0.length≤c0) (hr1:Kd.C k40 w A1 l1.length l1) (hc1:l1.length≤c1) (h1:aU.f (l0.length:Int) 1 8=some true) (hi:@aJ.f Ac k l0 0=some i) (hp:decide (i≥0)=false) (hj:@fC.f (OM l0.length) k l1 0=some j) (n0:1≤(l0.length:Int)) (n8:(l0.length:Int)≤8):
  Calls Tryz.prog 24 #[.agg #[.slice A0 l0.length c0,.slice A1 l1.length c1]] w fun e w'=>e= .returned (.bool (!decide (j≥0)))∧Below w.heap.size w w':=by
 have OU:=ah.mk hr0
 have aiL:=ah.mk hc0
 have Ti:=ah.mk hr1
 have anD:=ah.mk hc1
 have Hh1:=ah.mk h1
 have Hhi:=ah.mk hi
 have Hhp:=ah.mk hp
 have Hhj:=ah.mk hj
 have Hn0:=ah.mk n0
 have Hn8:=ah.mk n8
 clear hr0 hc0 hr1 hc1 h1 hi hp hj n0 n8
 have HB:=ah.mk (Below.refl w.heap.size w)
 have F3:=Hhp
 go_enter Tryz.func24,Tryz.ntmps24
 go_wp2_with (first
  |((with_reducible refine aH (N:=1) rfl ?_);refine qbx (N:=1) (cs:=#[.slice A0 l0.length c0,.slice A1 l1.length c1]) (t:=27) ?_;intro g1 hg wn bR hb;have GE1:=ah.mk (xu HB:w.heap.size≤g1);clear hg;have Gn:=ah.mk bR;clear bR;have n0_:=ah.mk (av HB.out hb);clear HB hb;have HB:=n0_;clear n0_;have BK1:=Gn;clear Gn;have oI:wn.cell? ⟨g1,0,none⟩=some (.slice A0 l0.length c0):=(aj BK1.out 0).trans rfl;have uV:wn.cell? ⟨g1,1,none⟩=some (.slice A1 l1.length c1):=(aj BK1.out 1).trans rfl)
  |((with_reducible refine aH (N:=3) rfl ?_);refine qbx (N:=3) (cs:=#[.int .i64 0]) (t:=2) ?_;intro g3 hg wn bR hb;have GE3:=ah.mk (xu HB:w.heap.size≤g3);have tq:=ah.mk (show g1≠g3 from Tg BK1);clear hg;have Ad:=ah.mk bR;clear bR;have n0_:=ah.mk (av HB.out hb);have m1_:=ah.mk (aA BK1.out hb);clear HB BK1 hb;have HB:=n0_;have BK1:=m1_;clear n0_ m1_;have oI:wn.cell? ⟨g1,0,none⟩=some (.slice A0 l0.length c0):=(aj BK1.out 0).trans rfl;have uV:wn.cell? ⟨g1,1,none⟩=some (.slice A1 l1.length c1):=(aj BK1.out 1).trans rfl;have BK3:=Ad;clear Ad;have Er:wn.cell? ⟨g3,0,none⟩=some (.int .i64 0):=(aj BK3.out 0).trans rfl;have adQ:=ak BK3.out 0;have adR:∀ v,(wn.setCell ⟨g3,0,none⟩ v).cell? ⟨g1,0,none⟩=some (.slice A0 l0.length c0):=fun v=>(aj (dJ BK1.out (p:=⟨g3,0,none⟩) tq.out v) 0).trans rfl;have adS:∀ v,(wn.setCell ⟨g3,0,none⟩ v).cell? ⟨g1,1,none⟩=some (.slice A1 l1.length c1):=fun v=>(aj (dJ BK1.out (p:=⟨g3,0,none⟩) tq.out v) 1).trans rfl)
  |(go_at_call 18;have m1_:=ah.mk (dJ BK1.out (p:=⟨g3,0,none⟩) tq.out (.int .i64 (l0.length:Int)));have m3_:=ah.mk (aW BK3.out 0 (.int .i64 (l0.length:Int)) (cs':=#[.int .i64 (l0.length:Int)]) rfl);have n0_:=ah.mk (bF (j:=0) (v:=.int .i64 (l0.length:Int)) HB.out GE3.out);clear HB BK1 BK3;have HB:=n0_;have BK1:=m1_;have BK3:=m3_;clear n0_ m1_ m3_;(with_reducible refine(aU.calls (l0.length:Int) 1 8 true _ Hh1.out).mono ?_);rintro e wn ⟨rfl,hb0⟩;(first|have hb:=jH hb0|have hb:=uL hb0);clear hb0;have n0_:=ah.mk (av HB.out hb);have m1_:=ah.mk (aA BK1.out hb);have m3_:=ah.mk (aA BK3.out hb);clear HB BK1 BK3 hb;have HB:=n0_;have BK1:=m1_;have BK3:=m3_;clear n0_ m1_ m3_;have oI:wn.cell? ⟨g1,0,none⟩=some (.slice A0 l0.length c0):=(aj BK1.out 0).trans rfl;have uV:wn.cell? ⟨g1,1,none⟩=some (.slice A1 l1.length c1):=(aj BK1.out 1).trans rfl;have Er:wn.cell? ⟨g3,0,none⟩=some (.int .i64 (l0.length:Int)):=(aj BK3.out 0).trans rfl)
  |(go_at_call 44;refine(@adN Ac k A0 c0 l0 i 45 Tryz.f45 #[] ⟨Tryz.func45,rfl,qz9⟩ _ (OL _) (Kd.gX OU.out HB.out) aiL.out Hhi.out).mono ?_;rintro e wn ⟨he,hb0⟩;rw[F3.out]at he;subst he;have hb:=jH hb0;clear hb0;have n0_:=ah.mk (av HB.out hb);have m1_:=ah.mk (aA BK1.out hb);have m3_:=ah.mk (aA BK3.out hb);clear HB BK1 BK3 hb;have HB:=n0_;have BK1:=m1_;have BK3:=m3_;clear n0_ m1_ m3_;have oI:wn.cell? ⟨g1,0,none⟩=some (.slice A0 l0.length c0):=(aj BK1.out 0).trans rfl;have uV:wn.cell? ⟨g1,1,none⟩=some (.slice A1 l1.length c1):=(aj BK1.out 1).trans rfl;have Er:wn.cell? ⟨g3,0,none⟩=some (.int .i64 (l0.length:Int)):=(aj BK3.out 0).trans rfl)
  |(go_at_call 47;refine(@adO (OM l0.length) k A1 c1 l1 j 48 Tryz.f48 #[.pointer (some ⟨g3,0,none⟩)] ⟨Tryz.func48,rfl,qz9⟩ _ (adP l0.length g3 _ Hn0.out Hn8.out BK3.out) (Kd.gX Ti.out HB.out) anD.out Hhj.out).mono ?_;rintro e wn ⟨rfl,hb⟩;have n0_:=ah.mk (av HB.out hb);have m1_:=ah.mk (aA BK1.out hb);have m3_:=ah.mk (aA BK3.out hb);clear HB BK1 BK3 hb;have HB:=n0_;have BK1:=m1_;have BK3:=m3_;clear n0_ m1_ m3_;have oI:wn.cell? ⟨g1,0,none⟩=some (.slice A0 l0.length c0):=(aj BK1.out 0).trans rfl;have uV:wn.cell? ⟨g1,1,none⟩=some (.slice A1 l1.length c1):=(aj BK1.out 1).trans rfl;have Er:wn.cell? ⟨g3,0,none⟩=some (.int .i64 (l0.length:Int)):=(aj BK3.out 0).trans rfl))
 go_ret
 exact⟨rfl,HB.out⟩
def iW.f (k:Nat) (l0:List Int) (l1:List S40):Option Bool:=
 if 1≤(l0.length:Int)∧(l0.length:Int)≤8 then(if 16<l1.length then some false else(@aJ.f Ac k l0 0).bind fun i=>if i≥0 then some false else(@fC.f (OM l0.length) k l1 0).bind fun j=>some (!decide (j≥0)))else some false
theorem iW.calls (k:Nat) (eT:Option Addr) (eG:Nat) (bK:List Int) (fE:Option Addr) (eH:Nat) (bf:List (S40)) (r:Bool) (w:World) (lZ:Kd.C (Kd.int .i64) w eT bK.length bK) (nV:bK.length≤eG) (lV:Kd.C k40 w fE bf.length bf) (nJ:bf.length≤eH) (h:iW.f k bK bf=some r):
  Calls Tryz.prog 24 #[.agg #[.slice eT bK.length eG,.slice fE bf.length eH]] w fun e w'=>e= .returned (.bool r)∧Below w.heap.size w w':=by
 unfold iW.f at h
 by_cases hz:1≤(bK.length:Int)∧(bK.length:Int)≤8
 ·rw[if_pos hz]at h
  have hw:aU.f (bK.length:Int) 1 8=some true:=by rw[nK];simp;omega
  by_cases hm:16<bf.length
  ·rw[if_pos hm]at h
   obtain rfl:=Option.some.inj h
   exact Us k eT eG bK fE eH bf (decide_eq_true hm) (decide_eq_true (by omega)) w hw
  rw[if_neg hm]at h
  obtain⟨i,hi,h⟩:=Option.bind_eq_some_iff.mp h
  by_cases hp:i≥0
  ·rw[if_pos hp]at h
   obtain rfl:=Option.some.inj h
   exact Ut k eT eG bK fE eH bf i (decide_eq_false hm) (decide_eq_false (by omega)) w lZ nV lV nJ hw hi (decide_eq_true hp)
  rw[if_neg hp]at h
  obtain⟨j,hj,h⟩:=Option.bind_eq_some_iff.mp h
  obtain rfl:=Option.some.inj h
  exact Uu k eT eG bK fE eH bf i j (decide_eq_false hm) (decide_eq_false (by omega)) w lZ nV lV nJ hw hi (decide_eq_false hp) hj hz.1 hz.2
 ·rw[if_neg hz]at h
  have hw:aU.f (bK.length:Int) 1 8=some false:=by rw[nK];simp;omega
  obtain rfl:=Option.some.inj h
  exact Ur k eT eG bK fE eH bf w hw
end Go.Proofs.YtalkmhnlgfncmaaGreatDoor.X
end
section
namespace Go.Proofs.YtalkmhnlgfncmaaGreatDoor.X
open Go.RowKit Go.Proofs.YtalkmhnlgfncmaaGreatDoorW.aC Go.Proofs.YtalkmhnlgfncmaaGreatDoorW.aN Go.Proofs.YtalkmhnlgfncmaaGreatDoorW.aT
attribute [local go_sem] fq fu gJ gK dN dO fA fB
/-! ### slices_Index_bool_bool: function 68 -/
def bV.l0:Nat→List Bool→Bool→Int→Int→Option (Int)
 |0,_,_,_,_=>none
 |k+1,x0,x1,x7,x8=>if x8<x7 then(if 0≤x8 then(if x8<(x0.length:Int)then(if (x1==(lS false x0 x8))=true then(some x8)else(bV.l0 k x0 x1 x7 (wrap64 (x8+1))))else(none))else(none))else(some (-1))
def bV.f (k:Nat) (l0:List Bool) (a1:Bool):Option (Int):=bV.l0 k l0 a1 (l0.length:Int) 0
set_option maxHeartbeats 8000000 in
set_option maxRecDepth 100000 in
theorem bV.calls (k:Nat) (A0:Option Addr) (c0:Nat) (l0:List Bool) (a1:Bool) (r:Int) (w:World) (hr0:Kd.C Kd.bool w A0 l0.length l0) (hc0:l0.length≤c0) (h:bV.f k l0 a1=some r):
  Calls Tryz.prog 68 #[.slice A0 l0.length c0,.bool a1] w fun e w'=>e= .returned (.int .i64 r)∧gQ w w':=by
 have HR0:=ah.mk hr0
 have HC0:=ah.mk hc0
 clear hr0 hc0
 have H:(bV.l0 k l0 a1 (l0.length:Int) 0)=some r:=h
 clear h
 have H':=ah.mk H
 clear H
 go_enter Tryz.func68,Tryz.ntmps68
 go_wp2
 go_loopg [8] k (fun kq v8 w'=>∃ (kR:Int),v8= .int .i64 kR∧ah (bV.l0 kq l0 a1 (l0.length:Int) kR=some r)∧ah (kq≤k)∧gQ w w')
 case atStart=>exact⟨(0),iY,H',⟨Nat.le_refl _⟩,vM⟩
 case round=>
  clear H'
  try clear p2
  obtain⟨kR,rfl,HA,HK1,⟨m1,rfl⟩⟩:=hrel
  cases gk with
  |zero=>exact absurd HA.out (by simp[bV.l0])
  |succ k1=>
   have H:=HA.out
   clear HA
   simp only[bV.l0]at H
   by_cases c3:kR<(l0.length:Int)
   ·rw[if_pos c3]at H
    have Cy:decide (kR<(l0.length:Int))=true:=decide_eq_true c3
    clear c3
    by_cases c4:0≤kR
    ·rw[if_pos c4]at H
     have Il:decide (0≤kR)=true:=decide_eq_true c4
     clear c4
     by_cases c5:kR<(l0.length:Int)
     ·rw[if_pos c5]at H
      have Cx:decide (kR<(l0.length:Int))=true:=decide_eq_true c5
      clear c5
      by_cases c6:(a1==(lS false l0 kR))=true
      ·rw[if_pos c6]at H
       have adT:(a1==(lS false l0 kR))=true:=c6
       (try(have anE:decide (a1=(lS false l0 kR))=true:=by simpa using c6))
       (try(have aqO:(a1==(lS false l0 kR))=true:=by simpa using c6))
       clear c6
       obtain rfl:=Option.some.inj H
       have Zw:0≤(kR:Int):=of_decide_eq_true gN
       have Zx:kR<(l0.length:Int):=of_decide_eq_true gN
       obtain⟨aiM,e210,Zy⟩:=Kd.Nn HR0.out kR Zw Zx
       cases e210
       replace Zw:=eq_true Zw
       replace Zx:=eq_true Zx
       go_wp2
       go_ret
       exact⟨iY,vM⟩
      rw[if_neg c6]at H
      have adT:(a1==(lS false l0 kR))=false:=by simpa using c6
      (try(have anE:decide (a1=(lS false l0 kR))=false:=by simpa using c6))
      (try(have aqO:(a1==(lS false l0 kR))=false:=by simpa using c6))
      (try(have auS:¬(a1=(lS false l0 kR)):=by simpa using c6))
      clear c6
      have H':=ah.mk H
      clear H
      have Zw:0≤(kR:Int):=of_decide_eq_true gN
      have Zx:kR<(l0.length:Int):=of_decide_eq_true gN
      obtain⟨aiM,e210,Zy⟩:=Kd.Nn HR0.out kR Zw Zx
      cases e210
      replace Zw:=eq_true Zw
      replace Zx:=eq_true Zx
      go_wp2
      go_roundg k1
      case measure=>have:=HK1.out;omega
      case rel=>exact⟨(wrap64 (kR+1)),iY,H',⟨qz3 HK1⟩,vM⟩
     rw[if_neg c5]at H
     exact absurd H (by simp)
    rw[if_neg c4]at H
    exact absurd H (by simp)
   ·rw[if_neg c3]at H
    have Cy:decide (kR<(l0.length:Int))=false:=decide_eq_false c3
    clear c3
    obtain rfl:=Option.some.inj H
    go_wp2
    go_ret
    exact⟨iY,vM⟩
end Go.Proofs.YtalkmhnlgfncmaaGreatDoor.X
end
section
namespace Go.Proofs.YtalkmhnlgfncmaaGreatDoor.X
open Go.RowKit Go.Proofs.YtalkmhnlgfncmaaGreatDoorW.aC Go.Proofs.YtalkmhnlgfncmaaGreatDoorW.aN Go.Proofs.YtalkmhnlgfncmaaGreatDoorW.aT
attribute [local go_sem] fq fu gJ gK dN dO fA fB
/-! ### slices_Contains_bool_bool: function 50 -/
def fI.f (k:Nat) (l0:List Bool) (a1:Bool):Option (Bool):=(bV.f k l0 a1).bind fun adU=>(some (decide (adU≥0)))
set_option maxHeartbeats 8000000 in
set_option maxRecDepth 100000 in
theorem fI.calls (k:Nat) (A0:Option Addr) (c0:Nat) (l0:List Bool) (a1:Bool) (r:Bool) (w:World) (hr0:Kd.C Kd.bool w A0 l0.length l0) (hc0:l0.length≤c0) (h:fI.f k l0 a1=some r):
  Calls Tryz.prog 50 #[.slice A0 l0.length c0,.bool a1] w fun e w'=>e= .returned (.bool r)∧gQ w w':=by
 have HR0:=ah.mk hr0
 have HC0:=ah.mk hc0
 clear hr0 hc0
 have H:((bV.f k l0 a1).bind fun adU=>(some (decide (adU≥0))))=some r:=h
 clear h
 obtain⟨adU,A30,H⟩:=Option.bind_eq_some_iff.mp H
 have A3:=ah.mk A30
 clear A30
 obtain rfl:=Option.some.inj H
 go_enter Tryz.func50,Tryz.ntmps50
 go_wp2_with (first|((with_reducible refine aK (f:=68) rfl ?_);refine dH (some 7) rfl rfl Tryz.func68 qz9 rfl #[.slice A0 l0.length c0,.bool a1] rfl jh ?_;(with_reducible refine(bV.calls k _ _ l0 a1 adU _ ?bT ?bU A3.out).mono ?_);(case bT=>exact ab0 HR0);(case bU=>exact jL HC0);rintro e w' ⟨rfl,⟨nd,rfl⟩⟩;refine⟨_,rfl,?_⟩))
 go_ret
 exact⟨iY,vM⟩
end Go.Proofs.YtalkmhnlgfncmaaGreatDoor.X
end
section
/- The program's isOpen: what it answers. Conditions: none. -/
namespace Go.Proofs.YtalkmhnlgfncmaaGreatDoor.X
open Go.RowKit Go.Proofs.YtalkmhnlgfncmaaGreatDoorW.aC Go.Proofs.YtalkmhnlgfncmaaGreatDoorW.aN Go.Proofs.YtalkmhnlgfncmaaGreatDoorW.aT
/-- A block of bools. -/
def Bools (w:World) (g:Nat) (l:List Bool):Prop:=w.heap[g]?=some (.cells (l.map Value.bool).toArray 4 (0,0))
theorem Bools.cell {w:World} {g:Nat} {l:List Bool} (h:Bools w g l) (i:Nat) (hi:i<l.length):w.cell? ⟨g,i,none⟩=some (.bool (l.getD i false)):=by
 rw[aj h i]
 simp[hi,List.getD_eq_getElem?_getD]
theorem Bools.frozen {w:World} {g:Nat} {l:List Bool} (h:Bools w g l) (i:Nat):w.frozen? ⟨g,i,none⟩=false:=ak h i
theorem Bools.put {w:World} {g:Nat} {l:List Bool} (h:Bools w g l) (i:Nat) (b:Bool):Bools (w.setCell ⟨g,i,none⟩ (.bool b)) g (l.set i b):=
 aW h i (.bool b) (by simp[List.map_set])
theorem Bools.below {w w':World} {g:Nat} {l:List Bool} (h:Bools w g l) (hb:Below w.heap.size w w'):Bools w' g l:=aA h hb
theorem Wv:(Tryz.prog.info? 4).map (fun i=>(i.zero,i.size,i.bytes))=some (some (.bool false),1,1):=by kernel_rfl
section
variable {P:Program} {ops:Array Oper} {Q:Exit→Act→World→Prop}
/-- make([]bool, n), its block told. -/
theorem Mk {rest:List Oper} {o:Oper} {a:Act} {W:World} (hgd:o.guard=none) {N:Tmp} (hd:o.dst=some N) (t e:TypeId) (x y:Operand) (ho:o.op= .makeSlice t x y) (n:Nat) (hx:a.eval x= .int .i64 n) (hy:a.eval y= .int .i64 n)
  (ht:P.underlying t=some (.slice e)) (hinfo:(P.info? e).map (fun i=>(i.zero,i.size,i.bytes))=some (some (.bool false),1,1)) (he:e=4) (hl:n≤1000000)
  (h:∀ g wn,g=W.heap.size→Bools wn g (List.replicate n false)→Below W.heap.size W wn→wpList P ops Q rest (a.put o.dst (.slice (some ⟨g,0,none⟩) n n)) wn):wpList P ops Q (o::rest) a W:=by
 obtain⟨i0,hi,hzz⟩:=Option.map_eq_some_iff.1 hinfo
 simp only[Prod.mk.injEq]at hzz
 obtain⟨hz0,hz1,hz2⟩:=hzz
 have hr:=run_make (P:=P) W t e i0 (.bool false) ht hi hz0 .i64 .i64 (n:Int) (n:Int) (by omega) (by omega)
  (by
   have h3:((i0.bytes*n:Nat):Int)≤281474976710656:=by rw[hz2];omega
   rwa [Int.natCast_mul]at h3) (by omega)
 simp only[Int.toNat_natCast]at hr
 rw[hz1]at hr
 refine Kd.zx hgd (?_:(execOp a.eval o).run P W= .ok (.value (.slice (some ⟨W.heap.size,0,none⟩) n n)) (W.alloc (.cells (madeCells (Value.bool false).cells (n*1)) e))) (h _ _ rfl ?_ (bg (Below.refl _ _) _))
 ·simp[execOp,ho,hx,hy,hr]
 ·subst he
  unfold Bools
  have e1:madeCells (Value.bool false).cells (n*1)=((List.replicate n false).map Value.bool).toArray:=by
   apply Array.ext
   ·simp[size_madeCells]
   intro i h1 h2
   simp[madeCells,Value.cells,Nat.mod_one]
  rw[← e1]
  simp[World.alloc,-World.alloc_eq]
end
/-- Whether a wire without registers leads to a vertex from one that is left. -/
def leads (left:List Bool) (i f t c:Int):Option Bool:=if (c==0)=true then(if (t==i)=true then(if 0≤f∧f<left.length then some (left.getD f.toNat false)else none)else some false)else some false
abbrev Uv (left:List Bool) (i:Int):iQ:=⟨fun f t c=>leads left i f t c⟩
set_option maxHeartbeats 4000000 in
set_option maxRecDepth 100000 in
theorem OV (x0 x1 x2:Int) (i n g1 g2 gL:Nat) (L:List Bool) (f1:(x2==0)=false) (w:World) (b1:w.heap[g1]?=some (.cells #[.int .i64 (i:Int)] 3 (0,0))) (b2:w.heap[g2]?=some (.cells #[.slice (some ⟨gL,0,none⟩) n n] 80 (0,0))) (bl:Bools w gL L):
  Calls Tryz.prog 49 #[.agg #[.int .i64 x0,.int .i64 x1,.int .i64 x2],.pointer (some ⟨g1,0,none⟩),.pointer (some ⟨g2,0,none⟩)] w fun e w'=>e= .returned (.bool false)∧Below w.heap.size w w':=by
 have Hb1:=ah.mk b1
 have Hb2:=ah.mk b2
 have Hbl:=ah.mk bl
 clear b1 b2 bl
 have HB:=ah.mk (Below.refl w.heap.size w)
 have BK1:=Hb1
 have BK2:=Hb2
 have BL:=Hbl
 go_enter Tryz.func49,Tryz.ntmps49
 go_wp2_with (first
  |((with_reducible refine aH (N:=3) rfl ?_);refine qbx (N:=3) (cs:=#[.int .i64 x0,.int .i64 x1,.int .i64 x2]) (t:=40) ?_;intro g3 hg wn bR hb;have GE3:=ah.mk (xu HB:w.heap.size≤g3);have hbx:=hb;clear hg;have Ad:=ah.mk bR;clear bR;have n0_:=ah.mk (av HB.out hb);clear HB hb;have HB:=n0_;clear n0_;have BK3:=Ad;clear Ad;have Er:wn.cell? ⟨g3,0,none⟩=some (.int .i64 x0):=(aj BK3.out 0).trans rfl;have af8:wn.cell? ⟨g3,1,none⟩=some (.int .i64 x1):=(aj BK3.out 1).trans rfl;have af9:wn.cell? ⟨g3,2,none⟩=some (.int .i64 x2):=(aj BK3.out 2).trans rfl;have n1_:=ah.mk (aA BK1.out hbx);have n2_:=ah.mk (aA BK2.out hbx);have n3_:=ah.mk (BL.out.below hbx);clear hbx BK1 BK2 BL;have BK1:=n1_;have BK2:=n2_;have BL:=n3_;clear n1_ n2_ n3_;have oI:wn.cell? ⟨g1,0,none⟩=some (.int .i64 (i:Int)):=(aj BK1.out 0).trans rfl;have OP:wn.cell? ⟨g2,0,none⟩=some (.slice (some ⟨gL,0,none⟩) n n):=(aj BK2.out 0).trans rfl))
 go_ret
 exact⟨rfl,HB.out⟩
set_option maxHeartbeats 4000000 in
set_option maxRecDepth 100000 in
theorem OW (x0 x1 x2:Int) (i n g1 g2 gL:Nat) (L:List Bool) (f1:(x2==0)=true) (f2:(x1==(i:Int))=false) (w:World) (b1:w.heap[g1]?=some (.cells #[.int .i64 (i:Int)] 3 (0,0))) (b2:w.heap[g2]?=some (.cells #[.slice (some ⟨gL,0,none⟩) n n] 80 (0,0))) (bl:Bools w gL L):
  Calls Tryz.prog 49 #[.agg #[.int .i64 x0,.int .i64 x1,.int .i64 x2],.pointer (some ⟨g1,0,none⟩),.pointer (some ⟨g2,0,none⟩)] w fun e w'=>e= .returned (.bool false)∧Below w.heap.size w w':=by
 have Hb1:=ah.mk b1
 have Hb2:=ah.mk b2
 have Hbl:=ah.mk bl
 clear b1 b2 bl
 have HB:=ah.mk (Below.refl w.heap.size w)
 have BK1:=Hb1
 have BK2:=Hb2
 have BL:=Hbl
 go_enter Tryz.func49,Tryz.ntmps49
 go_wp2_with (first
  |((with_reducible refine aH (N:=3) rfl ?_);refine qbx (N:=3) (cs:=#[.int .i64 x0,.int .i64 x1,.int .i64 x2]) (t:=40) ?_;intro g3 hg wn bR hb;have GE3:=ah.mk (xu HB:w.heap.size≤g3);have hbx:=hb;clear hg;have Ad:=ah.mk bR;clear bR;have n0_:=ah.mk (av HB.out hb);clear HB hb;have HB:=n0_;clear n0_;have BK3:=Ad;clear Ad;have Er:wn.cell? ⟨g3,0,none⟩=some (.int .i64 x0):=(aj BK3.out 0).trans rfl;have af8:wn.cell? ⟨g3,1,none⟩=some (.int .i64 x1):=(aj BK3.out 1).trans rfl;have af9:wn.cell? ⟨g3,2,none⟩=some (.int .i64 x2):=(aj BK3.out 2).trans rfl;have n1_:=ah.mk (aA BK1.out hbx);have n2_:=ah.mk (aA BK2.out hbx);have n3_:=ah.mk (BL.out.below hbx);clear hbx BK1 BK2 BL;have BK1:=n1_;have BK2:=n2_;have BL:=n3_;clear n1_ n2_ n3_;have oI:wn.cell? ⟨g1,0,none⟩=some (.int .i64 (i:Int)):=(aj BK1.out 0).trans rfl;have OP:wn.cell? ⟨g2,0,none⟩=some (.slice (some ⟨gL,0,none⟩) n n):=(aj BK2.out 0).trans rfl))
 go_ret
 exact⟨rfl,HB.out⟩
set_option maxHeartbeats 4000000 in
set_option maxRecDepth 100000 in
theorem OX (x1 x2:Int) (p i n g1 g2 gL:Nat) (L:List Bool) (f1:(x2==0)=true) (f2:(x1==(i:Int))=true) (hp:p<n) (hn:n≤1000000) (w:World) (b1:w.heap[g1]?=some (.cells #[.int .i64 (i:Int)] 3 (0,0))) (b2:w.heap[g2]?=some (.cells #[.slice (some ⟨gL,0,none⟩) n n] 80 (0,0))) (bl:Bools w gL L) (hL:L.length=n):
  Calls Tryz.prog 49 #[.agg #[.int .i64 (p:Int),.int .i64 x1,.int .i64 x2],.pointer (some ⟨g1,0,none⟩),.pointer (some ⟨g2,0,none⟩)] w fun e w'=>e= .returned (.bool (L.getD p false))∧Below w.heap.size w w':=by
 have Hb1:=ah.mk b1
 have Hb2:=ah.mk b2
 have Hbl:=ah.mk bl
 have HhL:=ah.mk hL
 clear b1 b2 bl hL
 have HB:=ah.mk (Below.refl w.heap.size w)
 have BK1:=Hb1
 have BK2:=Hb2
 have BL:=Hbl
 go_enter Tryz.func49,Tryz.ntmps49
 go_wp2_with (first
  |((with_reducible refine aH (N:=3) rfl ?_);refine qbx (N:=3) (cs:=#[.int .i64 (p:Int),.int .i64 x1,.int .i64 x2]) (t:=40) ?_;intro g3 hg wn bR hb;have GE3:=ah.mk (xu HB:w.heap.size≤g3);have hbx:=hb;clear hg;have Ad:=ah.mk bR;clear bR;have n0_:=ah.mk (av HB.out hb);clear HB hb;have HB:=n0_;clear n0_;have BK3:=Ad;clear Ad;have Er:wn.cell? ⟨g3,0,none⟩=some (.int .i64 (p:Int)):=(aj BK3.out 0).trans rfl;have af8:wn.cell? ⟨g3,1,none⟩=some (.int .i64 x1):=(aj BK3.out 1).trans rfl;have af9:wn.cell? ⟨g3,2,none⟩=some (.int .i64 x2):=(aj BK3.out 2).trans rfl;have n1_:=ah.mk (aA BK1.out hbx);have n2_:=ah.mk (aA BK2.out hbx);have n3_:=ah.mk (BL.out.below hbx);clear hbx BK1 BK2 BL;have BK1:=n1_;have BK2:=n2_;have BL:=n3_;clear n1_ n2_ n3_;have oI:wn.cell? ⟨g1,0,none⟩=some (.int .i64 (i:Int)):=(aj BK1.out 0).trans rfl;have OP:wn.cell? ⟨g2,0,none⟩=some (.slice (some ⟨gL,0,none⟩) n n):=(aj BK2.out 0).trans rfl;have cL:wn.cell? ⟨gL,p,none⟩=some (.bool (L.getD p false)):=BL.out.cell p (by rw[HhL.out];exact hp)))
 go_ret
 exact⟨rfl,HB.out⟩
theorem adV (i n g1 g2 gL:Nat) (L:List Bool) (w:World) (hn:n≤1000000) (hL:L.length=n) (h1:w.heap[g1]?=some (.cells #[.int .i64 (i:Int)] 3 (0,0))) (h2:w.heap[g2]?=some (.cells #[.slice (some ⟨gL,0,none⟩) n n] 80 (0,0))) (h3:Bools w gL L):
  ∀ x0 x1 x2 r W,(Uv L i).f x0 x1 x2=some r→Below w.heap.size w W→Calls Tryz.prog 49 (#[.agg #[.int .i64 x0,.int .i64 x1,.int .i64 x2]]++ #[.pointer (some ⟨g1,0,none⟩),.pointer (some ⟨g2,0,none⟩)]) W fun e w'=>e= .returned (.bool r)∧Below W.heap.size W w':=by
 intro x0 x1 x2 r W hx hW
 have q1:=aA h1 hW
 have q2:=aA h2 hW
 have q3:=h3.below hW
 have hx:leads L i x0 x1 x2=some r:=hx
 unfold leads at hx
 cases f1:(x2==0)with
 |false=>
  rw[f1,if_neg (by simp)]at hx
  obtain rfl:=Option.some.inj hx
  exact OV x0 x1 x2 i n g1 g2 gL L f1 W q1 q2 q3
 |true=>
  rw[f1,if_pos rfl]at hx
  cases f2:(x1==(i:Int))with
  |false=>
   rw[f2,if_neg (by simp)]at hx
   obtain rfl:=Option.some.inj hx
   exact OW x0 x1 x2 i n g1 g2 gL L f1 f2 W q1 q2 q3
  |true=>
   rw[f2,if_pos rfl]at hx
   by_cases hp:0≤x0∧x0<L.length
   ·rw[if_pos hp]at hx
    obtain rfl:=Option.some.inj hx
    obtain⟨p,rfl⟩:=Int.eq_ofNat_of_zero_le hp.1
    rw[Int.toNat_natCast]
    exact OX x1 x2 p i n g1 g2 gL L f1 f2 (by omega) hn W q1 q2 q3 hL
   ·rw[if_neg hp]at hx
    exact absurd hx (by simp)
end Go.Proofs.YtalkmhnlgfncmaaGreatDoor.X
end
section
/- The program's isOpen: its loops. Conditions: none. -/
namespace Go.Proofs.YtalkmhnlgfncmaaGreatDoor.X
open Go.RowKit Go.Proofs.YtalkmhnlgfncmaaGreatDoorW.aC Go.Proofs.YtalkmhnlgfncmaaGreatDoorW.aN Go.Proofs.YtalkmhnlgfncmaaGreatDoorW.aT
/-- One vertex's turn. -/
def yU (k:Nat) (ws:List S40) (i:Nat) (L:List Bool):Option (List Bool):=(@fC.f (Uv L i) k ws 0).bind fun r=>some (L.set i (L.getD i false&&decide (r≥0)))
def oG (k:Nat) (ws:List S40):Nat→List Bool→Option (List Bool)
 |0,L=>some L
 |i+1,L=>(oG k ws i L).bind fun M=>yU k ws i M
def lX (k:Nat) (ws:List S40) (n:Nat):Nat→Option (List Bool)
 |0=>some (List.replicate n true)
 |m+1=>(lX k ws n m).bind fun M=>oG k ws n M
theorem Gu {k:Nat} {ws:List S40} {i:Nat} {L M:List Bool} (h:yU k ws i L=some M):M.length=L.length:=by
 obtain⟨r,_,h⟩:=Option.bind_eq_some_iff.mp h
 obtain rfl:=Option.some.inj h
 simp
theorem rE {k:Nat} {ws:List S40}:∀ {i:Nat} {L M:List Bool},oG k ws i L=some M→M.length=L.length
 |0,L,M,h=>by obtain rfl:=Option.some.inj h;rfl
 |i+1,L,M,h=>by
  obtain⟨X,hX,h⟩:=Option.bind_eq_some_iff.mp h
  rw[Gu h,rE hX]
theorem wu {k:Nat} {ws:List S40} {L:List Bool}:∀ {n:Nat} {M:List Bool},oG k ws n L=some M→∀ i,i≤n→∃ X,oG k ws i L=some X
 |0,M,h,i,hi=>by obtain rfl:i=0:=(by omega);exact⟨M,h⟩
 |n+1,M,h,i,hi=>by
  by_cases e:i=n+1
  ·subst e;exact⟨M,h⟩
  ·obtain⟨X,hX,_⟩:=Option.bind_eq_some_iff.mp h
   exact wu hX i (by omega)
theorem uW {k:Nat} {ws:List S40} {n:Nat}:∀ {m:Nat} {M:List Bool},lX k ws n m=some M→∀ i,i≤m→∃ X,lX k ws n i=some X
 |0,M,h,i,hi=>by obtain rfl:i=0:=(by omega);exact⟨M,h⟩
 |m+1,M,h,i,hi=>by
  by_cases e:i=m+1
  ·subst e;exact⟨M,h⟩
  ·obtain⟨X,hX,_⟩:=Option.bind_eq_some_iff.mp h
   exact uW hX i (by omega)
theorem qF {k:Nat} {ws:List S40} {n:Nat}:∀ {m:Nat} {M:List Bool},lX k ws n m=some M→M.length=n
 |0,M,h=>by obtain rfl:=Option.some.inj h;simp
 |m+1,M,h=>by
  obtain⟨X,hX,h⟩:=Option.bind_eq_some_iff.mp h
  rw[rE h,qF hX]
theorem Zz {w:World} {g:Nat} {l:List Bool} (h:Bools w g l) (hm:l.length≤1000000):Kd.C Kd.bool w (some ⟨g,0,none⟩) l.length l:=by
 refine⟨rfl,by omega,fun _=>⟨_,rfl,fun j p hj=>⟨[.bool p],rfl,rfl,fun i u hu=>?_⟩⟩⟩
 obtain⟨hl,hp⟩:=List.getElem?_eq_some_iff.1 hj
 have h0:i=0:=by
  rcases i with _|i
  ·rfl
  simp at hu
 subst h0
 have hu':Value.bool p=u:=by simpa using hu
 have hc:=h.cell j hl
 rw[List.getD_eq_getElem?_getD,hj]at hc
 have e:(⟨g,0,none⟩:Addr).add (j*Kd.bool.sz+0)=⟨g,j,none⟩:=by
  show (⟨g,0,none⟩:Addr).add (j*1+0)=⟨g,j,none⟩
  rw[Nat.mul_one,Nat.add_zero]
  unfold Addr.add;split<;>simp_all
 rw[e, ← hu']
 exact hc
def marked (n i:Nat):List Bool:=List.replicate i true++List.replicate (n - i) false
theorem Ml {n i:Nat} (h:i≤n):(marked n i).length=n:=by simp[marked];omega
theorem Mq {n i:Nat} (h:i<n):(marked n i).set i true=marked n (i+1):=by
 unfold marked
 apply List.ext_getElem
 ·simp;omega
 intro j h1 h2
 simp only[List.length_set,List.length_append,List.length_replicate]at h1
 rw[List.getElem_set]
 by_cases e:i=j
 ·subst e;simp
 rw[if_neg e]
 simp only[List.getElem_append,List.length_replicate,List.getElem_replicate]
 split<;>split<;>first|rfl|omega
set_option maxHeartbeats 4000000 in
set_option maxRecDepth 100000 in
theorem Jy (k:Nat) (A0:Option Addr) (c0:Nat) (l0:List Int) (A1:Option Addr) (c1:Nat) (l1:List S40) (n:Nat) (hn0:l0.length=n) (hn:n≤1000000) (M:List Bool) (b:Bool) (w:World)
  (hr1:Kd.C k40 w A1 l1.length l1) (hc1:l1.length≤c1) (hM:lX k l1 n n=some M) (hb:fI.f k M true=some b):
  Calls Tryz.prog 25 #[.agg #[.slice A0 l0.length c0,.slice A1 l1.length c1]] w fun e w'=>e= .returned (.bool (!b))∧Below w.heap.size w w':=by
 have HR1:=ah.mk hr1
 have HC1:=ah.mk hc1
 have HM:=ah.mk hM
 have Hb:=ah.mk hb
 clear hr1 hc1 hM hb
 have HB:=ah.mk (Below.refl w.heap.size w)
 rw[hn0]
 clear hn0
 go_enter Tryz.func25,Tryz.ntmps25
 go_wp2_with (first
  |((with_reducible refine aH (N:=1) rfl ?_);refine qbx (N:=1) (cs:=#[.slice A0 n c0,.slice A1 l1.length c1]) (t:=27) ?_;intro g1 hg wn bR hb;have GE1:=ah.mk (xu HB:w.heap.size≤g1);clear hg;have Gn:=ah.mk bR;clear bR;have n0_:=ah.mk (av HB.out hb);clear HB hb;have HB:=n0_;clear n0_;have BK1:=Gn;clear Gn;have oI:wn.cell? ⟨g1,0,none⟩=some (.slice A0 n c0):=(aj BK1.out 0).trans rfl;have uV:wn.cell? ⟨g1,1,none⟩=some (.slice A1 l1.length c1):=(aj BK1.out 1).trans rfl)
  |((with_reducible refine aH (N:=10) rfl ?_);refine Mk ?hg (N:=10) ?hd 80 4 (.tmp 9) (.tmp 9) ?ho n rfl rfl Tryz.underlying80 Wv rfl (by omega) ?_;(case hd=>rfl);(case hg=>rfl);(case ho=>rfl);intro gL wn hgL hL hb;have GL:=ah.mk (by rw[hgL];exact aG HB.out:w.heap.size≤gL);have ZA:=ah.mk (show g1≠gL from Tg BK1);clear hgL;have BL0:=ah.mk hL;clear hL;have n0_:=ah.mk (av HB.out hb);have m1_:=ah.mk (aA BK1.out hb);clear HB BK1 hb;have HB:=n0_;have BK1:=m1_;clear n0_ m1_;have oI:wn.cell? ⟨g1,0,none⟩=some (.slice A0 n c0):=(aj BK1.out 0).trans rfl;have uV:wn.cell? ⟨g1,1,none⟩=some (.slice A1 l1.length c1):=(aj BK1.out 1).trans rfl;have BL:=BL0;clear BL0)
  |((with_reducible refine aH (N:=3) rfl ?_);refine qbx (N:=3) (cs:=#[.slice none 0 0]) (t:=80) ?_;intro g3 hg wn bR hb;have GE3:=ah.mk (xu HB:w.heap.size≤g3);have tq:=ah.mk (show g1≠g3 from Tg BK1);have Uw:=ah.mk (show gL≠g3 from Tg BL);clear hg;have Ad:=ah.mk bR;clear bR;have nL_:=ah.mk (BL.out.below hb);clear BL;have BL:=nL_;clear nL_;have n0_:=ah.mk (av HB.out hb);have m1_:=ah.mk (aA BK1.out hb);clear HB BK1 hb;have HB:=n0_;have BK1:=m1_;clear n0_ m1_;have oI:wn.cell? ⟨g1,0,none⟩=some (.slice A0 n c0):=(aj BK1.out 0).trans rfl;have uV:wn.cell? ⟨g1,1,none⟩=some (.slice A1 l1.length c1):=(aj BK1.out 1).trans rfl;have BK3:=Ad;clear Ad;have adQ:=ak BK3.out 0;have Er:wn.cell? ⟨g3,0,none⟩=some (.slice none 0 0):=(aj BK3.out 0).trans rfl))
 have p1:=ah.mk (dJ BK1.out (p:=⟨g3,0,none⟩) tq.out (.slice (some ⟨gL,0,none⟩) n n))
 have pL:ah (Bools _ gL (List.replicate n false)):=⟨dJ BL.out (p:=⟨g3,0,none⟩) Uw.out (.slice (some ⟨gL,0,none⟩) n n)⟩
 have p3:=ah.mk (aW BK3.out 0 (.slice (some ⟨gL,0,none⟩) n n) (cs':=#[.slice (some ⟨gL,0,none⟩) n n]) rfl)
 have pb:=ah.mk (bF (j:=0) (v:=.slice (some ⟨gL,0,none⟩) n n) HB.out GE3.out)
 clear HB BK1 BK3 BL
 generalize wn.setCell ⟨g3,0,none⟩ (.slice (some ⟨gL,0,none⟩) n n)=W1 at p1 pL p3 pb ⊢
 clear adQ Er oI uV
 go_loopg [13] n (fun kq v13 w'=>∃ i:Nat,v13= .int .i64 i∧ah (i+kq=n)∧ah (w'.heap[g1]?=some (.cells #[.slice A0 n c0,.slice A1 l1.length c1] 27 (0,0)))∧ah (w'.heap[g3]?=some (.cells #[.slice (some ⟨gL,0,none⟩) n n] 80 (0,0)))∧ah (Bools w' gL (marked n i))∧ah (Below w.heap.size w w'))
 case atStart=>exact⟨0,Db,⟨by omega⟩,p1,p3,⟨by simpa [marked]using pL.out⟩,pb⟩
 case round=>
  clear p1 pL p3 pb
  obtain⟨i,rfl,HE,Q1,Q3,QL,QB⟩:=hrel
  have c3:wr.cell? ⟨g3,0,none⟩=some (.slice (some ⟨gL,0,none⟩) n n):=(aj Q3.out 0).trans rfl
  by_cases hlt:i<n
  ·cases gk with
   |zero=>have:=HE.out;omega
   |succ gq=>
   have zL:=QL.out.frozen i
   have cL:=QL.out.cell i (by rw[Ml];omega;omega)
   go_wp2
   go_roundg gq
   case measure=>omega
   case rel=>exact⟨i+1,by go_num,⟨qz3 HE⟩,⟨dJ Q1.out (p:=⟨gL,i,none⟩) ZA.out _⟩,⟨dJ Q3.out (p:=⟨gL,i,none⟩) (Ne.symm Uw.out) _⟩,⟨by rw[← Mq hlt];exact QL.out.put i true⟩,⟨QB.out.setCell GL.out _⟩⟩
  have e:i=n:=by have:=HE.out;omega
  subst e
  clear hlt HE
  go_wp2
  obtain⟨wo,rfl⟩:∃ wo:World,wo=wr:=⟨_,rfl⟩
  go_loopg [22] i (fun kq v22 w'=>∃ (m:Nat) (X:List Bool),v22= .int .i64 m∧ah (m+kq=i)∧ah (lX k l1 i m=some X)∧ah (w'.heap[g1]?=some (.cells #[.slice A0 i c0,.slice A1 l1.length c1] 27 (0,0)))∧ah (w'.heap[g3]?=some (.cells #[.slice (some ⟨gL,0,none⟩) i i] 80 (0,0)))∧ah (Bools w' gL X)∧ah (Below w.heap.size w w'))
  case atStart=>exact⟨0,_,Db,⟨by omega⟩,⟨rfl⟩,Q1,Q3,⟨by simpa [marked]using QL.out⟩,QB⟩
  case round=>
   clear Q1 Q3 QL QB c3
   obtain⟨m,X,rfl,HE,HX,Q1,Q3,QL,QB⟩:=hrel
   have c3:wr.cell? ⟨g3,0,none⟩=some (.slice (some ⟨gL,0,none⟩) i i):=(aj Q3.out 0).trans rfl
   by_cases hlt:m<i
   ·cases gk with
    |zero=>have:=HE.out;omega
    |succ gq=>
    obtain⟨X',hX'⟩:=uW HM.out (m+1) (by omega)
    obtain⟨X0,hX0,hXr⟩:=Option.bind_eq_some_iff.mp hX'
    obtain rfl:=Option.some.inj (HX.out.symm.trans hX0)
    have HX':=ah.mk hX'
    have HXr:=ah.mk hXr
    have HXl:=ah.mk (qF HX.out)
    clear hX' hX0 hXr
    go_wp2
    obtain⟨wo2,rfl⟩:∃ wo2:World,wo2=wr:=⟨_,rfl⟩
    go_loopg [26] i (fun kq v26 w'=>∃ (j:Nat) (Y:List Bool),v26= .int .i64 j∧ah (j+kq=i)∧ah (oG k l1 j X=some Y)∧ah (w'.heap[g1]?=some (.cells #[.slice A0 i c0,.slice A1 l1.length c1] 27 (0,0)))∧ah (w'.heap[g3]?=some (.cells #[.slice (some ⟨gL,0,none⟩) i i] 80 (0,0)))∧ah (Bools w' gL Y)∧ah (Below w.heap.size w w'))
    case atStart=>exact⟨0,X,Db,⟨by omega⟩,⟨rfl⟩,Q1,Q3,QL,QB⟩
    case round=>
     clear Q1 Q3 QL QB c3
     obtain⟨j,Y,rfl,HJ,HY,Q1,Q3,QL,QB⟩:=hrel
     have oI:wr.cell? ⟨g1,0,none⟩=some (.slice A0 i c0):=(aj Q1.out 0).trans rfl
     have uV:wr.cell? ⟨g1,1,none⟩=some (.slice A1 l1.length c1):=(aj Q1.out 1).trans rfl
     have c3:wr.cell? ⟨g3,0,none⟩=some (.slice (some ⟨gL,0,none⟩) i i):=(aj Q3.out 0).trans rfl
     by_cases hlj:j<i
     ·cases gk with
      |zero=>have:=HJ.out;omega
      |succ gq2=>
      obtain⟨Y',hY'⟩:=wu HXr.out (j+1) (by omega)
      obtain⟨Y0,hY0,hYs⟩:=Option.bind_eq_some_iff.mp hY'
      obtain rfl:=Option.some.inj (HY.out.symm.trans hY0)
      have HYl:=ah.mk ((rE HY.out).trans HXl.out)
      have anF:=hYs
      obtain⟨r,hr,hYe⟩:=Option.bind_eq_some_iff.mp anF
      have HYe:=ah.mk (Option.some.inj hYe)
      have HR:=ah.mk hr
      have HY':=ah.mk hY'
      clear hY0 hYs anF hr hYe hY'
      go_wp2_with (first
       |((with_reducible refine aH (N:=5) rfl ?_);refine qbx (N:=5) (cs:=#[.int .i64 0]) (t:=3) ?_;intro g5 hg wn bR hb;have GE5:=ah.mk (xu QB:w.heap.size≤g5);have ZB:=ah.mk (show g1≠g5 from Tg Q1);have aiN:=ah.mk (show g3≠g5 from Tg Q3);have aiO:=ah.mk (show gL≠g5 from Tg QL);clear hg;have B5:=ah.mk bR;clear bR;have n0_:=ah.mk (av QB.out hb);have n1_:=ah.mk (aA Q1.out hb);have n3_:=ah.mk (aA Q3.out hb);have nL_:=ah.mk (QL.out.below hb);clear QB Q1 Q3 QL hb c3 oI uV;have QB:=n0_;have Q1:=n1_;have Q3:=n3_;have QL:=nL_;clear n0_ n1_ n3_ nL_;have z5:=ak B5.out 0;have c5:wn.cell? ⟨g5,0,none⟩=some (.int .i64 0):=(aj B5.out 0).trans rfl;have adR:∀ v,(wn.setCell ⟨g5,0,none⟩ v).cell? ⟨g1,0,none⟩=some (.slice A0 i c0):=fun v=>(aj (dJ Q1.out (p:=⟨g5,0,none⟩) ZB.out v) 0).trans rfl;have adS:∀ v,(wn.setCell ⟨g5,0,none⟩ v).cell? ⟨g1,1,none⟩=some (.slice A1 l1.length c1):=fun v=>(aj (dJ Q1.out (p:=⟨g5,0,none⟩) ZB.out v) 1).trans rfl)
       |(go_at_call 47;have q1:=ah.mk (dJ Q1.out (p:=⟨g5,0,none⟩) ZB.out (.int .i64 (j:Int)));have q3:=ah.mk (dJ Q3.out (p:=⟨g5,0,none⟩) aiN.out (.int .i64 (j:Int)));have qL:ah (Bools _ gL Y):=⟨dJ QL.out (p:=⟨g5,0,none⟩) aiO.out (.int .i64 (j:Int))⟩;have q5:=ah.mk (aW B5.out 0 (.int .i64 (j:Int)) (cs':=#[.int .i64 (j:Int)]) rfl);have qb:=ah.mk (bF (j:=0) (v:=.int .i64 (j:Int)) QB.out GE5.out);clear QB Q1 Q3 QL B5 c5 z5 adR adS;refine(@adO (Uv Y j) k A1 c1 l1 r 49 Tryz.f49 #[.pointer (some ⟨g5,0,none⟩),.pointer (some ⟨g3,0,none⟩)] ⟨Tryz.func49,rfl,qz9⟩ _ (adV j i g5 g3 gL Y _ hn HYl.out q5.out q3.out qL.out) (Kd.gX HR1.out qb.out) HC1.out HR.out).mono ?_;rintro e wz ⟨rfl,hb⟩;have n0_:=ah.mk (av qb.out hb);have n1_:=ah.mk (aA q1.out hb);have n3_:=ah.mk (aA q3.out hb);have n5_:=ah.mk (aA q5.out hb);have nL_:=ah.mk (qL.out.below hb);clear qb q1 q3 q5 qL hb;have QB:=n0_;have Q1:=n1_;have Q3:=n3_;have B5:=n5_;have QL:=nL_;clear n0_ n1_ n3_ n5_ nL_;have c3:wz.cell? ⟨g3,0,none⟩=some (.slice (some ⟨gL,0,none⟩) i i):=(aj Q3.out 0).trans rfl;have c5:wz.cell? ⟨g5,0,none⟩=some (.int .i64 (j:Int)):=(aj B5.out 0).trans rfl;have zL:=QL.out.frozen j))
      have cL:=QL.out.cell j (by rw[HYl.out];exact hlj)
      have ab1:=HYe
      cases hy:Y.getD j false with
      |false=>
       rw[hy]at cL ab1
       have aiP:ah (Y.set j false=Y'):=⟨by simpa using ab1.out⟩
       clear hy HYe ab1
       go_region
       go_wp2
       go_roundg gq2
       case measure=>omega
       case rel=>exact⟨j+1,Y',by go_num,⟨qz3 HJ⟩,HY',⟨dJ Q1.out (p:=⟨gL,j,none⟩) ZA.out _⟩,⟨dJ Q3.out (p:=⟨gL,j,none⟩) (Ne.symm Uw.out) _⟩,⟨by rw[← aiP.out];exact QL.out.put j false⟩,⟨by first|exact bG (QB.out.setCell GL.out _)|exact QB.out.setCell GL.out _⟩⟩
      |true=>
       rw[hy]at cL ab1
       have aiP:ah (Y.set j (decide (r≥0))=Y'):=⟨by simpa using ab1.out⟩
       clear hy HYe ab1
       go_region
       go_wp2
       go_roundg gq2
       case measure=>omega
       case rel=>exact⟨j+1,Y',by go_num,⟨qz3 HJ⟩,HY',⟨dJ Q1.out (p:=⟨gL,j,none⟩) ZA.out _⟩,⟨dJ Q3.out (p:=⟨gL,j,none⟩) (Ne.symm Uw.out) _⟩,⟨by rw[← aiP.out];exact QL.out.put j (decide (r≥0))⟩,⟨by first|exact bG (QB.out.setCell GL.out _)|exact QB.out.setCell GL.out _⟩⟩
     have e:j=i:=by have:=HJ.out;omega
     have HYY:ah (Y=X'):=⟨by have h1:=HY.out;rw[e]at h1;exact Option.some.inj (h1.symm.trans HXr.out)⟩
     have f1:decide ((j:Int)<(i:Int))=false:=decide_eq_false (by omega)
     have f2:decide (j<i)=false:=decide_eq_false hlj
     clear hlj e
     go_wp2
     go_roundg gq
     case measure=>omega
     case rel=>exact⟨m+1,X',by go_num,⟨qz3 HE⟩,HX',Q1,Q3,⟨by rw[← HYY.out];exact QL.out⟩,QB⟩
   have e:m=i:=by have:=HE.out;omega
   have HXM:ah (X=M):=⟨by have h1:=HX.out;rw[e]at h1;exact Option.some.inj (h1.symm.trans HM.out)⟩
   have HML:ah (M.length=i):=⟨qF HM.out⟩
   have f1:decide ((m:Int)<(i:Int))=false:=decide_eq_false (by omega)
   have f2:decide (m<i)=false:=decide_eq_false hlt
   clear hlt e
   have QM:ah (Bools wr gL M):=⟨by rw[← HXM.out];exact QL.out⟩
   have T:=ah.mk (fI.calls k (some ⟨gL,0,none⟩) i M true b wr (Zz QM.out (by rw[HML.out];exact hn)) (by rw[HML.out];exact Nat.le_refl _) Hb.out)
   rw[HML.out]at T
   go_wp2_with (first|(go_at_call 50;refine T.out.mono ?_;rintro e wz ⟨rfl,hb0⟩))
   go_ret
   exact⟨rfl,by obtain⟨m0,rfl⟩:=hb0;exact bZ QB.out _⟩
def iI.f (k:Nat) (l0:List Int) (l1:List S40):Option Bool:=
 if l0.length≤1000000 then(lX k l1 l0.length l0.length).bind fun M=>(fI.f k M true).bind fun b=>some (!b)else none
theorem iI.calls (k:Nat) (eT:Option Addr) (eG:Nat) (bK:List Int) (fE:Option Addr) (eH:Nat) (bf:List (S40)) (r:Bool) (w:World) (lZ:Kd.C (Kd.int .i64) w eT bK.length bK) (nV:bK.length≤eG) (lV:Kd.C k40 w fE bf.length bf) (nJ:bf.length≤eH) (h:iI.f k bK bf=some r):
  Calls Tryz.prog 25 #[.agg #[.slice eT bK.length eG,.slice fE bf.length eH]] w fun e w'=>e= .returned (.bool r)∧Below w.heap.size w w':=by
 unfold iI.f at h
 by_cases hn:bK.length≤1000000
 ·rw[if_pos hn]at h
  obtain⟨M,hM,h⟩:=Option.bind_eq_some_iff.mp h
  obtain⟨b,hb,h⟩:=Option.bind_eq_some_iff.mp h
  obtain rfl:=Option.some.inj h
  exact Jy k eT eG bK fE eH bf bK.length rfl hn M b w lV nJ hM hb
 ·rw[if_neg hn]at h
  exact absurd h (by simp)
end Go.Proofs.YtalkmhnlgfncmaaGreatDoor.X
end
section
namespace Go.Proofs.YtalkmhnlgfncmaaGreatDoor.X
open Go.RowKit Go.Proofs.YtalkmhnlgfncmaaGreatDoorW.aC Go.Proofs.YtalkmhnlgfncmaaGreatDoorW.aN Go.Proofs.YtalkmhnlgfncmaaGreatDoorW.aT
attribute [local go_sem] fq fu gJ gK dN dO fA fB
/-! ### impl_ValidFlow: function 9 -/
def aX.f (k:Nat) (bK:List Int) (bf:List (S40)):Option (Bool):=(iW.f k bK bf).bind fun t213=>(if t213=true then((iI.f k bK bf).bind fun adW=>(some adW))else(some false))
set_option maxHeartbeats 8000000 in
set_option maxRecDepth 100000 in
theorem aX.calls (k:Nat) (eT:Option Addr) (eG:Nat) (bK:List Int) (fE:Option Addr) (eH:Nat) (bf:List (S40)) (r:Bool) (w:World) (lZ:Kd.C (Kd.int .i64) w eT bK.length bK) (nV:bK.length≤eG) (lV:Kd.C k40 w fE bf.length bf) (nJ:bf.length≤eH) (h:aX.f k bK bf=some r):
  Calls Tryz.prog 9 #[.agg #[.slice eT bK.length eG,.slice fE bf.length eH]] w fun e w'=>e= .returned (.bool r)∧Below w.heap.size w w':=by
 have Ux:=Tryz.underlying27
 have jT:=ah.mk lZ
 have kg:=ah.mk nV
 clear lZ nV
 have jU:=ah.mk lV
 have kC:=ah.mk nJ
 clear lV nJ
 have HB:=ah.mk (Below.refl w.heap.size w)
 have H:((iW.f k bK bf).bind fun t213=>(if t213=true then((iI.f k bK bf).bind fun adW=>(some adW))else(some false)))=some r:=h
 clear h
 obtain⟨t213,A20,H⟩:=Option.bind_eq_some_iff.mp H
 have A2:=ah.mk A20
 clear A20
 by_cases c3:t213=true
 ·subst c3
  rw[if_pos rfl]at H
  obtain⟨adW,A40,H⟩:=Option.bind_eq_some_iff.mp H
  have A4:=ah.mk A40
  clear A40
  obtain rfl:=Option.some.inj H
  go_enter Tryz.func9,Tryz.ntmps9
  go_wp2_with (first|((with_reducible refine aH (N:=1) rfl ?_);refine qbx (N:=1) (cs:=#[.slice eT bK.length eG,.slice fE bf.length eH]) (t:=27) ?_;intro wB hg w5 bR hb;have rF:=ah.mk (bR);have aiQ:=ah.mk ((mK HB:w.heap.size≤wB));have Mr:=ah.mk ((mK HB:w.heap.size≤wB));replace HB:=ah.mk (av (qz0 HB) hb);clear hb bR hg;have vZ:w5.cell? ⟨wB,0,none⟩=some (.slice eT bK.length eG):=(aj rF.out 0).trans rfl;have wh:w5.cell? ⟨wB,1,none⟩=some (.slice fE bf.length eH):=(aj rF.out 1).trans rfl;have anG:=ak rF.out 0;have adX:=ak rF.out 1)|((with_reducible refine aK (f:=24) rfl ?_);refine dH (some 4) rfl rfl Tryz.func24 qz9 rfl #[.agg #[.slice eT bK.length eG,.slice fE bf.length eH]] rfl jh ?_;(with_reducible refine(iW.calls k _ _ bK _ _ bf true _ ?bT ?bU ?eu ?eF A2.out).mono ?_);(case bT=>exact qz2 jT HB);(case bU=>exact jL kg);(case eu=>exact qz2 jU HB);(case eF=>exact jL kC);rintro e w7 ⟨rfl,hb⟩;refine⟨_,rfl,?_⟩;replace rF:=ah.mk (aA (g:=wB) (o:=.cells #[.slice eT bK.length eG,.slice fE bf.length eH] 27 (0,0)) (dP rF) hb);replace HB:=ah.mk (av (qz4 HB Mr) hb);(try clear hb);(try clear hb2);(try clear hk);(try clear hi);have Df:w7.cell? ⟨wB,0,none⟩=some (.slice eT bK.length eG):=(aj rF.out 0).trans rfl;have Dg:w7.cell? ⟨wB,1,none⟩=some (.slice fE bf.length eH):=(aj rF.out 1).trans rfl;have Gv:=ak rF.out 0;have Gw:=ak rF.out 1)|(go_at_call 25;(with_reducible refine(iI.calls k _ _ bK _ _ bf adW _ ?bT ?bU ?eu ?eF A4.out).mono ?_);(case bT=>exact qz2 jT HB);(case bU=>exact jL kg);(case eu=>exact qz2 jU HB);(case eF=>exact jL kC);rintro e w9 ⟨rfl,hb⟩;replace rF:=ah.mk (aA (g:=wB) (o:=.cells #[.slice eT bK.length eG,.slice fE bf.length eH] 27 (0,0)) (dP rF) hb);replace HB:=ah.mk (av (qz4 HB Mr) hb);(try clear hb);(try clear hb2);(try clear hk);(try clear hi)))
  go_ret
  exact⟨qz7,qz4 HB Mr⟩
 ·replace c3:=Bool.eq_false_iff.mpr c3
  subst c3
  rw[if_neg (show ¬(false=true) by decide)]at H
  obtain rfl:=Option.some.inj H
  go_enter Tryz.func9,Tryz.ntmps9
  go_wp2_with (first|((with_reducible refine aH (N:=1) rfl ?_);refine qbx (N:=1) (cs:=#[.slice eT bK.length eG,.slice fE bf.length eH]) (t:=27) ?_;intro wB hg w10 bR hb;have rF:=ah.mk (bR);have aiQ:=ah.mk ((mK HB:w.heap.size≤wB));have Mr:=ah.mk ((mK HB:w.heap.size≤wB));replace HB:=ah.mk (av (qz0 HB) hb);clear hb bR hg;have Ae:w10.cell? ⟨wB,0,none⟩=some (.slice eT bK.length eG):=(aj rF.out 0).trans rfl;have Af:w10.cell? ⟨wB,1,none⟩=some (.slice fE bf.length eH):=(aj rF.out 1).trans rfl;have Ag:=ak rF.out 0;have Ah:=ak rF.out 1)|((with_reducible refine aK (f:=24) rfl ?_);refine dH (some 4) rfl rfl Tryz.func24 qz9 rfl #[.agg #[.slice eT bK.length eG,.slice fE bf.length eH]] rfl jh ?_;(with_reducible refine(iW.calls k _ _ bK _ _ bf false _ ?bT ?bU ?eu ?eF A2.out).mono ?_);(case bT=>exact qz2 jT HB);(case bU=>exact jL kg);(case eu=>exact qz2 jU HB);(case eF=>exact jL kC);rintro e w12 ⟨rfl,hb⟩;refine⟨_,rfl,?_⟩;replace rF:=ah.mk (aA (g:=wB) (o:=.cells #[.slice eT bK.length eG,.slice fE bf.length eH] 27 (0,0)) (dP rF) hb);replace HB:=ah.mk (av (qz4 HB Mr) hb);(try clear hb);(try clear hb2);(try clear hk);(try clear hi)))
  go_ret
  exact⟨qz7,qz4 HB Mr⟩
end Go.Proofs.YtalkmhnlgfncmaaGreatDoor.X
end
