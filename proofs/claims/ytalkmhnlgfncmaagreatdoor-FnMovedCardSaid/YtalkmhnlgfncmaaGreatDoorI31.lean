/- My own texts of this seat and its words, merged: XSplitW, XSplit, XCut, CCut, Xp30, Xp31, CRdn. Conditions: as each lemma says. -/
import Derived.Test.YtalkmhnlgfncmaaGreatDoorI21
import Derived.Test.YtalkmhnlgfncmaaGreatDoorI30
import Derived.Lib.Bytealg
import Derived.Lib.Walk
import Derived.Lib.ParseIntBTie
import Derived.Test.YtalkmhnlgfncmaaGreatDoorXSlim
set_option linter.unusedVariables false
set_option linter.unusedSimpArgs false
section
/- strings.Split at a mark of one byte: the pieces, in a block of their own. Conditions: as each lemma says. -/
namespace Go.Proofs.YtalkmhnlgfncmaaGreatDoor.X
open Go.RowKit Go.Proofs.YtalkmhnlgfncmaaGreatDoorW.aC Go.Proofs.YtalkmhnlgfncmaaGreatDoorW.aN Go.Proofs.YtalkmhnlgfncmaaGreatDoorW.aT
/-- The pieces of a text between so many marks. -/
def Xb (c:UInt8):Nat→ByteArray→List ByteArray
 |0,s=>[s]
 |k+1,s=>s.extract 0 (Lib.indexByte s.data.toList c).toNat::Xb c k (s.extract ((Lib.indexByte s.data.toList c).toNat+1) s.size)
def cuts (c:UInt8) (s:ByteArray):List ByteArray:=Xb c (Lib.countByte s.data.toList c) s
/-- What is left behind so many marks. -/
def qM (c:UInt8):Nat→ByteArray→ByteArray
 |0,s=>s
 |k+1,s=>qM c k (s.extract ((Lib.indexByte s.data.toList c).toNat+1) s.size)
def CO (c:UInt8):Nat→ByteArray→List ByteArray
 |0,_=>[]
 |k+1,s=>s.extract 0 (Lib.indexByte s.data.toList c).toNat::CO c k (s.extract ((Lib.indexByte s.data.toList c).toNat+1) s.size)
theorem qW (c:UInt8):∀ (k:Nat) (s:ByteArray),(CO c k s).length=k
 |0,_=>rfl
 |k+1,s=>by rw[CO,List.length_cons,qW]
theorem Du (c:UInt8):∀ (k:Nat) (s:ByteArray),CO c (k+1) s=CO c k s++[(qM c k s).extract 0 (Lib.indexByte (qM c k s).data.toList c).toNat]
 |0,_=>rfl
 |k+1,s=>by
  rw[CO,Du c k,CO,qM,List.cons_append]
theorem xM (c:UInt8):∀ (k:Nat) (s:ByteArray),qM c (k+1) s=(qM c k s).extract ((Lib.indexByte (qM c k s).data.toList c).toNat+1) (qM c k s).size
 |0,_=>rfl
 |k+1,s=>by rw[qM,xM c k,qM]
theorem Rp (c:UInt8):∀ (k:Nat) (s:ByteArray),Xb c k s=CO c k s++[qM c k s]
 |0,_=>rfl
 |k+1,s=>by rw[Xb,Rp c k,CO,qM,List.cons_append]
theorem rR:∀ (l:List UInt8) (c:UInt8) (k:Nat),Lib.countByte l c=k+1→∃ j:Nat,Lib.indexByte l c=j∧j<l.length∧Lib.countByte (l.drop (j+1)) c=k
 |[],c,k,h=>by simp[Lib.countByte]at h
 |b::l,c,k,h=>by
  unfold Lib.countByte at h ⊢
  rw[List.count_cons]at h
  unfold Lib.indexByte
  by_cases hb:(b==c)=true
  ·rw[if_pos hb]at h ⊢
   exact⟨0,rfl,by simp,by simpa using h⟩
  ·rw[if_neg hb]at h ⊢
   obtain⟨j,h1,h2,h3⟩:=rR l c k (by unfold Lib.countByte;simpa using h)
   refine⟨j+1,?_,zT,?_⟩
   ·rw[h1]
    have:((j:Int)== -1)=false:=by rw[beq_eq_false_iff_ne];omega
    rw[this];simp
   unfold Lib.countByte at h3
   simpa using h3
theorem um (s:ByteArray) (a:Nat):(s.extract a s.size).data.toList=s.data.toList.drop a:=by
 rw[ByteArray.data_extract,Array.toList_extract]
 simp only[List.extract]
 have:s.size=s.data.toList.length:=by simp
 rw[this, ← List.length_drop,List.take_length]
theorem Dv (c:UInt8) (s:ByteArray):∀ (i d:Nat),Lib.countByte s.data.toList c=i+d→Lib.countByte (qM c i s).data.toList c=d∧(qM c i s).size≤s.size
 |0,d,h=>⟨by rw[qM];omega,Nat.le_refl _⟩
 |i+1,d,h=>by
  obtain⟨h1,h2⟩:=Dv c s i (d+1) (by omega)
  obtain⟨j,e1,e2,e3⟩:=rR _ c d h1
  rw[xM,e1,Int.toNat_natCast]
  exact⟨by rw[um];exact e3,by rw[ByteArray.size_extract];omega⟩
theorem count_le (s:ByteArray) (c:UInt8):Lib.countByte s.data.toList c≤s.size:=by
 unfold Lib.countByte
 have:=List.count_le_length (a:=c) (l:=s.data.toList)
 simpa using this
theorem aaM:(Tryz.prog.info? 9).map (fun i=>(i.zero,i.size,i.bytes))=some (some (.string ByteArray.empty),1,16):=by kernel_rfl
/-- The list under way: the pieces so far, and empty texts. -/
def rY (c:UInt8) (s:ByteArray) (n i:Nat):List ByteArray:=CO c i s++List.replicate (n - i) ByteArray.empty
theorem Dw (c:UInt8) (s:ByteArray) (n i:Nat) (h:i≤n):(rY c s n i).length=n:=by unfold rY;rw[List.length_append,qW,List.length_replicate];omega
theorem MR (c:UInt8) (s:ByteArray) (n i:Nat) (h:i<n):(rY c s n i).set i ((qM c i s).extract 0 (Lib.indexByte (qM c i s).data.toList c).toNat)=rY c s n (i+1):=by
 unfold rY
 obtain⟨m,hm⟩:∃ m,n - i=m+1:=⟨n - i - 1,by omega⟩
 rw[hm,show n - (i+1)=m by omega,List.set_append_right _ _ (by rw[qW];exact Nat.le_refl _),qW,Nat.sub_self,List.replicate_succ,List.set_cons_zero,Du,List.append_assoc];rfl
theorem Km (c:UInt8) (s:ByteArray) (n:Nat):(rY c s (n+1) n).set n (qM c n s)=Xb c n s:=by
 unfold rY
 rw[show n+1 - n=1 by omega,List.set_append_right _ _ (by rw[qW];exact Nat.le_refl _),qW,Nat.sub_self,Rp];rfl
set_option maxHeartbeats 4000000 in
set_option maxRecDepth 100000 in
theorem Fv (s:ByteArray) (c:UInt8) (hs:s.size≤2000000) (n:Nat) (hn:n=Lib.countByte s.data.toList c) (w:World):
  Calls Tryz.prog 56 #[.string s,.string ⟨#[c]⟩,.int .i64 0,.int .i64 (-1)] w fun e w'=>∃ v:Value,e= .returned v∧Kd.R Kd.string 9 w' w.heap.size (fun _=>True) v (cuts c s)∧Below w.heap.size w w':=by
 have hcl:=count_le s c
 have HN:=ah.mk hn
 have hn9:n≤s.size:=by omega
 have hw1:IntKind.i64.wrap ((n:Int)+1)=(n:Int)+1:=IntWalk.i64_in _ ⟨by omega,by omega⟩
 have hw2:IntKind.i64.wrap ((s.size:Int)+1)=(s.size:Int)+1:=IntWalk.i64_in _ ⟨by omega,by omega⟩
 have hw3:IntKind.i64.wrap ((n:Int)+1 - 1)=(n:Int):=by rw[IntWalk.i64_in _ ⟨by omega,by omega⟩];omega
 have hmin:min (n:Int) (s.size:Int)=(n:Int):=Int.min_eq_left (by omega)
 have HB:=ah.mk (Below.refl w.heap.size w)
 clear hn hcl
 go_enter Tryz.func56,Tryz.ntmps56
 go_wp2_with (first
  |(go_at_call 74;(with_reducible refine(Tryz.strings_Count_one s c w).mono ?_);rintro e w1 ⟨rfl,hw⟩;rw[hw, ← HN.out];clear hw)
  |((with_reducible refine aH (N:=31) rfl ?_);refine Kd.FW Kd.string w.heap.size 9 ?hg (N:=31) ?hd 55 (.tmp 30) (.tmp 30) ?ho ((n:Int)+1) ?hx ?hy Tryz.underlying55 (.string ByteArray.empty) 16 aaM rfl (by decide) (by omega) ByteArray.empty (ok:=fun _=>True) (okp:=fun _=>False) ?hz (fun _ h=>h.elim) trivial (by omega) ?hl HB.out (Nat.le_refl _) ?_;(case hg=>rfl);(case hd=>rfl);(case ho=>rfl);(case hx=>rfl);(case hy=>rfl);(case hz=>exact rfl);(case hl=>omega);intro v1 w1 ho hb hg_ lF;clear hg_ lF;rw[show ((n:Int)+1).toNat=n+1 by omega,show List.replicate (n+1) ByteArray.empty=rY c s (n+1) 0 from rfl]at ho;have HO:=ah.mk ho;replace HB:=ah.mk hb;clear ho hb))
 obtain⟨gA,cA,hv1,hgb,hgl,cl,hcl⟩:=Kd.zw HO.out (by rw[Dw c s (n+1) 0 (by omega)];omega)
 rw[Dw c s (n+1) 0 (by omega)]at hv1
 subst hv1
 clear hgl cl hcl
 have HGE:=ah.mk hgb
 clear hgb
 go_loopg [0,10] n (fun kq v0 v10 w'=>∃ i:Nat,v0= .string (qM c i s)∧v10= .int .i64 i∧ah (i+kq=n)∧ah (Kd.R Kd.string 9 w' w.heap.size (fun _=>True) (.slice (some ⟨gA,0,none⟩) (n+1:Nat) cA) (rY c s (n+1) i))∧ah (Below w.heap.size w w'))
 case atStart=>exact⟨0,rfl,rfl,⟨by omega⟩,HO,HB⟩
 case round=>
  clear HO HB
  obtain⟨i,rfl,rfl,HE,HO,HB⟩:=hrel
  obtain⟨S,hS⟩:∃ S,S=qM c i s:=⟨_,rfl⟩
  rw[← hS]
  have HS:=ah.mk hS
  clear hS
  obtain⟨cc,cz⟩:=Kd.sK ByteArray.empty HO.out (i:Int) (by omega) (qz3 HE)
  rw[Int.toNat_natCast]at cc cz
  by_cases hlt:i<n
  ·cases gk with
   |zero=>have:=HE.out;omega
   |succ g1=>
   obtain⟨r1,r2⟩:=Dv c s i (n - i - 1+1) (by rw[← HN.out];omega)
   rw[← HS.out]at r1 r2
   obtain⟨j,e1,e2,_⟩:=rR _ c _ r1
   have e2':j<S.size:=by simpa using e2
   have HX:ah (qM c (i+1) s=S.extract (j+1) S.size):=⟨by rw[xM, ← HS.out,e1];rfl⟩
   have HY:ah ((rY c s (n+1) i).set i (S.extract 0 j)=rY c s (n+1) (i+1)):=⟨by rw[← MR c s (n+1) i (by omega), ← HS.out,e1];rfl⟩
   have E1:=ah.mk e1
   have wj:IntKind.i64.wrap (j:Int)=(j:Int):=IntWalk.i64_in _ ⟨by omega,by omega⟩
   have wj1:IntKind.i64.wrap ((j:Int)+1)=(j:Int)+1:=IntWalk.i64_in _ ⟨by omega,by omega⟩
   have wi1:IntKind.i64.wrap ((i:Int)+1)=(i:Int)+1:=IntWalk.i64_in _ ⟨by omega,by omega⟩
   have q1:((j:Int)≤(S.size:Int))=True:=eq_true (by omega)
   have q2:((j:Int)+1≤(S.size:Int))=True:=eq_true (by omega)
   have q3:(j≤S.size)=True:=eq_true (by omega)
   have q4:(j+1≤S.size)=True:=eq_true (by omega)
   clear e1 e2 r1 r2
   go_wp2_with (first
    |(go_at_call 75;(with_reducible refine(Tryz.strings_Index_one S c _).mono ?_);rintro e w1 ⟨rfl,hw⟩;rw[hw,E1.out];clear hw))
   go_roundg g1
   case measure=>omega
   case rel=>exact⟨i+1,by rw[HX.out],by go_num,⟨qz3 HE⟩,⟨by rw[← HY.out];exact Kd.CW HO.out (i:Int) (S.extract 0 j)⟩,⟨Below.setCell (p:=⟨gA,i,none⟩) HB.out HGE.out _⟩⟩
  have hi:i=n:=by have:=HE.out;omega
  subst hi
  have hcap:=(Kd.dF HO.out).2.1
  have wi1:IntKind.i64.wrap ((i:Int)+1)=(i:Int)+1:=IntWalk.i64_in _ ⟨by omega,by omega⟩
  have q1:((i:Int)+1≤(cA:Int))=True:=eq_true (by omega)
  have q2:(i+1≤cA)=True:=eq_true (by omega)
  have HR:=ah.mk (Kd.CW HO.out (i:Int) S)
  have HY:ah ((rY c s (i+1) i).set i S=cuts c s):=⟨by rw[HS.out,Km];unfold cuts;rw[← HN.out]⟩
  clear hcap hw1 hw2 hw3 hmin hlt
  go_wp2
  go_ret
  exact⟨_,rfl,by rw[← HY.out];exact HR.out,Below.setCell (p:=⟨gA,i,none⟩) HB.out HGE.out _⟩
set_option maxHeartbeats 4000000 in
set_option maxRecDepth 100000 in
theorem MS (s:ByteArray) (c:UInt8) (hs:s.size≤2000000) (w:World):
  Calls Tryz.prog 29 #[.string s,.string ⟨#[c]⟩] w fun e w'=>∃ v:Value,e= .returned v∧Kd.R Kd.string 9 w' w.heap.size (fun _=>True) v (cuts c s)∧Below w.heap.size w w':=by
 have H:=fun w=>Fv s c hs _ rfl w
 have HH:=ah.mk H
 clear H
 go_enter Tryz.func29,Tryz.ntmps29
 go_wp2_with (go_at_call 56;(with_reducible refine(HH.out _).mono ?_);rintro e w1 ⟨v,rfl,ho,hb⟩;have HO:=ah.mk ho;have HB:=ah.mk hb;clear ho hb)
 go_ret
 exact⟨_,rfl,HO.out,HB.out⟩
end Go.Proofs.YtalkmhnlgfncmaaGreatDoor.X
end
section
/- strings.Split at a mark of one byte, as the printed texts call it. Conditions: as the lemma says. -/
namespace Go.Proofs.YtalkmhnlgfncmaaGreatDoor.X
open Go.RowKit Go.Proofs.YtalkmhnlgfncmaaGreatDoorW.aC Go.Proofs.YtalkmhnlgfncmaaGreatDoorW.aN Go.Proofs.YtalkmhnlgfncmaaGreatDoorW.aT
def strings_Split.f (s:ByteArray) (m:ByteArray):Option (List ByteArray):=
 match m.data.toList with
 |[c]=>if s.size≤2000000 then some (cuts c s)else none
 |_=>none
theorem strings_Split.calls (a0:ByteArray) (a1:ByteArray) (r:List ByteArray) (w:World) (h:strings_Split.f a0 a1=some r):
  Calls Tryz.prog 29 #[.string a0,.string a1] w fun e w'=>∃ v:Value,e= .returned v∧Kd.R Kd.string 9 w' w.heap.size (fun _=>True) v r∧Below w.heap.size w w':=by
 unfold strings_Split.f at h
 split at h
 case h_2=>cases h
 case h_1 c hc=>
 split at h
 case isFalse=>cases h
 case isTrue hs=>
 obtain rfl:=Option.some.inj h
 have e:a1=⟨#[c]⟩:=by
  cases a1 with
  |mk d=>
   congr 1
   apply Array.toList_inj.mp
   exact hc
 rw[e]
 exact MS a0 c hs w
end Go.Proofs.YtalkmhnlgfncmaaGreatDoor.X
end
section
/- strings.Cut at a mark of one byte. Conditions: as the lemma says. -/
namespace Go.Proofs.YtalkmhnlgfncmaaGreatDoor.X
open Go.RowKit Go.Proofs.YtalkmhnlgfncmaaGreatDoorW.aC Go.Proofs.YtalkmhnlgfncmaaGreatDoorW.aN Go.Proofs.YtalkmhnlgfncmaaGreatDoorW.aT
set_option maxHeartbeats 4000000 in
set_option maxRecDepth 100000 in
theorem aaN (s m:ByteArray) (c:UInt8) (hm:m=⟨#[c]⟩) (hm1:m.size=1) (j:Nat) (hj:Lib.indexByte s.data.toList c=(j:Int)) (hl:j<s.size) (hs:s.size≤2000000) (w:World):
  Calls Tryz.prog 55 #[.string s,.string m] w fun e w'=>e= .returned (.tuple #[.string (s.extract 0 j),.string (s.extract (j+m.size) s.size),.bool true])∧Below w.heap.size w w':=by
 have HJ:=ah.mk hj
 have HM:=ah.mk hm
 have w1:IntKind.i64.wrap ((j:Int)+(m.size:Int))=(j:Int)+(m.size:Int):=IntWalk.i64_in _ ⟨by omega,by omega⟩
 have c1:(0:Int)≤(j:Int):=by omega
 have c2:(j:Int)≤(s.size:Int):=by omega
 have c3:(0:Int)≤(j:Int)+(m.size:Int):=by omega
 have c4:(j:Int)+(m.size:Int)≤(s.size:Int):=by omega
 have f3:((j:Int)+(m.size:Int)).toNat=j+m.size:=by omega
 have w2:IntKind.i64.wrap ((j:Int)+1)=(j:Int)+1:=IntWalk.i64_in _ ⟨by omega,by omega⟩
 have c5:(0:Int)≤(j:Int)+1:=by omega
 have c6:(j:Int)+1≤(s.size:Int):=by omega
 have f4:((j:Int)+1).toNat=j+1:=by omega
 have mixed:Tryz.prog.follows Departure.mixedOrders=true:=by kernel_rfl
 rw[hm1]
 clear hj hm1 hm hl hs
 go_enter Tryz.func55,Tryz.ntmps55
 go_wp2_with (go_at_call 72;rw[HM.out];refine(Tryz.stringslite_Index_one s c _).mono ?_;rintro e w1 ⟨rfl,rfl⟩;rw[HJ.out])
 go_region_o
 go_wp2
 go_ret3
 exact⟨rfl,(Below.refl _ _).drew⟩
theorem Vh (s:ByteArray) (c:UInt8) (j:Nat) (hj:Lib.indexByte s.data.toList c=(j:Int)) (hl:j<s.size) (hs:s.size≤2000000) (w:World):
  Calls Tryz.prog 55 #[.string s,.string ⟨#[c]⟩] w fun e w'=>e= .returned (.tuple #[.string (s.extract 0 j),.string (s.extract (j+1) s.size),.bool true])∧Below w.heap.size w w':=
 aaN s ⟨#[c]⟩ c rfl rfl j hj hl hs w
set_option maxHeartbeats 4000000 in
set_option maxRecDepth 100000 in
theorem Rq (s:ByteArray) (c:UInt8) (hj:Lib.indexByte s.data.toList c= -1) (w:World):
  Calls Tryz.prog 55 #[.string s,.string ⟨#[c]⟩] w fun e w'=>e= .returned (.tuple #[.string s,.string ⟨#[]⟩,.bool false])∧Below w.heap.size w w':=by
 have HJ:=ah.mk hj
 clear hj
 go_enter Tryz.func55,Tryz.ntmps55
 go_wp2_with (go_at_call 72;refine(Tryz.stringslite_Index_one s c _).mono ?_;rintro e w1 ⟨rfl,rfl⟩;rw[HJ.out])
 go_ret3
 exact⟨rfl,Below.refl _ _⟩
/-- What strings.Cut answers. -/
def cutAt (s:ByteArray) (c:UInt8):ByteArray×ByteArray×Bool:=
 if Lib.indexByte s.data.toList c= -1 then(s,⟨#[]⟩,false)else(s.extract 0 (Lib.indexByte s.data.toList c).toNat,s.extract ((Lib.indexByte s.data.toList c).toNat+1) s.size,true)
theorem Lv (l:List UInt8) (c:UInt8):Lib.indexByte l c= -1∨∃ j:Nat,Lib.indexByte l c=j∧j<l.length:=by
 induction l with
 |nil=>left;rfl
 |cons b l ih=>
  unfold Lib.indexByte
  split
  ·right;exact⟨0,rfl,by simp⟩
  ·rcases ih with h|⟨j,h,hl⟩
   ·left;rw[h];rfl
   right;refine⟨j+1,?_,zT⟩
   rw[h]
   have:((j:Int)== -1)=false:=by rw[beq_eq_false_iff_ne];omega
   rw[this];simp
def strings_Cut.f (s:ByteArray) (m:ByteArray):Option (ByteArray×ByteArray×Bool):=
 match m.data.toList with
 |[c]=>if s.size≤2000000 then some (cutAt s c)else none
 |_=>none
set_option maxHeartbeats 4000000 in
set_option maxRecDepth 100000 in
theorem alk (s m:ByteArray) (r1 r2:ByteArray) (r3:Bool) (w:World) (H:∀ w,Calls Tryz.prog 55 #[.string s,.string m] w fun e w'=>e= .returned (.tuple #[.string r1,.string r2,.bool r3])∧Below w.heap.size w w'):
  Calls Tryz.prog 28 #[.string s,.string m] w fun e w'=>e= .returned (.tuple #[.string r1,.string r2,.bool r3])∧Below w.heap.size w w':=by
 have HH:=ah.mk H
 clear H
 go_enter Tryz.func28,Tryz.ntmps28
 go_wp2_with (go_at_call 55;(with_reducible refine(HH.out _).mono ?_);rintro e w1 ⟨rfl,hb⟩;have HB:=ah.mk hb;clear hb)
 go_ret3
 exact⟨rfl,HB.out⟩
theorem strings_Cut.calls (a0:ByteArray) (a1:ByteArray) (r1 r2:ByteArray) (r3:Bool) (w:World) (h:strings_Cut.f a0 a1=some (r1,r2,r3)):
  Calls Tryz.prog 28 #[.string a0,.string a1] w fun e w'=>e= .returned (.tuple #[.string r1,.string r2,.bool r3])∧Below w.heap.size w w':=by
 unfold strings_Cut.f at h
 split at h
 case h_2=>cases h
 case h_1 c hc=>
 split at h
 case isFalse=>cases h
 case isTrue hs=>
 have h:=Option.some.inj h
 have e:a1=⟨#[c]⟩:=by
  cases a1 with
  |mk d=>
   congr 1
   apply Array.toList_inj.mp
   exact hc
 rw[e]
 refine alk _ _ _ _ _ w ?_
 intro w
 unfold cutAt at h
 rcases Lv a0.data.toList c with hi|⟨j,hi,hl⟩
 ·rw[if_pos hi]at h
  obtain⟨h1,h2⟩:=Prod.mk.inj h
  obtain⟨h2,h3⟩:=Prod.mk.inj h2
  rw[← h1, ← h2, ← h3]
  exact Rq a0 c hi w
 ·rw[if_neg (by omega),hi,Int.toNat_natCast]at h
  obtain⟨h1,h2⟩:=Prod.mk.inj h
  obtain⟨h2,h3⟩:=Prod.mk.inj h2
  rw[← h1, ← h2, ← h3]
  exact Vh a0 c j hi (by simpa using hl) hs w
end Go.Proofs.YtalkmhnlgfncmaaGreatDoor.X
end
section
/- Texts that are cut at a mark and joined again: the program's cut and the reference's cut are one. Conditions: as each lemma says. -/
namespace Go.Proofs.YtalkmhnlgfncmaaGreatDoor.X
open Go.RowKit Go.Proofs.YtalkmhnlgfncmaaGreatDoorW.aC Go.Proofs.YtalkmhnlgfncmaaGreatDoorW.aN Go.Proofs.YtalkmhnlgfncmaaGreatDoorW.aT
/-- The pieces of a text between marks. -/
def sp (c:UInt8):List UInt8→List (List UInt8)
 |[]=>[[]]
 |b::l=>if b=c then []::sp c l else match sp c l with
  |[]=>[[b]]
  |h::t=>(b::h)::t
theorem aaO (c:UInt8):∀ l:List UInt8,∃ h t,sp c l=h::t
 |[]=>⟨[],[],rfl⟩
 |b::l=>by
  obtain⟨h,t,e⟩:=aaO c l
  unfold sp
  by_cases hb:b=c
  ·rw[if_pos hb];exact⟨_,_,rfl⟩
  ·rw[if_neg hb,e];exact⟨_,_,rfl⟩
theorem Rs (c:UInt8):∀ (x l:List UInt8),c∉x→sp c (x++c::l)=x::sp c l
 |[],l,_=>by rw[List.nil_append,sp,if_pos rfl]
 |b::x,l,h=>by
  have hb:b≠c:=fun e=>h (by rw[e];exact List.mem_cons_self)
  rw[List.cons_append,sp,if_neg hb,Rs c x l (fun e=>h (List.mem_cons_of_mem _ e))]
theorem Kn (c:UInt8):∀ (x:List UInt8),c∉x→sp c x=[x]
 |[],_=>rfl
 |b::x,h=>by
  have hb:b≠c:=fun e=>h (by rw[e];exact List.mem_cons_self)
  rw[sp,if_neg hb,Kn c x (fun e=>h (List.mem_cons_of_mem _ e))]
theorem wL (x y:List UInt8) (r:List (List UInt8)) (c:UInt8):Lib.join (x::y::r) [c]=x++c::Lib.join (y::r) [c]:=by
 rw[Lib.join_cons,Lib.join_cons];simp[Lib.joinTail]
theorem Ko (c:UInt8):∀ (x:List UInt8) (r:List (List UInt8)),(∀ y,y∈x::r→c∉y)→sp c (Lib.join (x::r) [c])=x::r
 |x,[],h=>by rw[Lib.join_one];exact Kn c x (h x List.mem_cons_self)
 |x,y::r,h=>by
  rw[wL,Rs c x _ (h x List.mem_cons_self),Ko c y r (fun z hz=>h z (List.mem_cons_of_mem _ hz))]
theorem alm (c:UInt8) (l:List UInt8):∀ y,y∈sp c l→y.length≤l.length:=by
 induction l with
 |nil=>
  intro y hy
  rw[sp,List.mem_singleton]at hy
  rw[hy];exact Nat.le_refl _
 |cons b l ih=>
  obtain⟨h,t,e⟩:=aaO c l
  intro y hy
  unfold sp at hy
  by_cases hb:b=c
  ·rw[if_pos hb]at hy
   rcases List.mem_cons.mp hy with rfl|hy
   ·exact Nat.zero_le _
   have:=ih y hy;simp;omega
  ·rw[if_neg hb,e]at hy
   rw[e]at ih
   rcases List.mem_cons.mp hy with rfl|hy
   ·have:=ih h List.mem_cons_self;simp;omega
   have:=ih y (List.mem_cons_of_mem _ hy);simp;omega
theorem Vi (c:UInt8) (l:List UInt8):(sp c l).length≤l.length+1:=by
 induction l with
 |nil=>exact Nat.le_refl _
 |cons b l ih=>
  obtain⟨h,t,e⟩:=aaO c l
  unfold sp
  by_cases hb:b=c
  ·rw[if_pos hb];simp;omega
  ·rw[if_neg hb,e]
   rw[e]at ih
   simp only[List.length_cons]at ih ⊢;omega
/-- The pieces, as texts. -/
def sps (c:UInt8) (s:ByteArray):List ByteArray:=(sp c s.data.toList).map Tx
theorem xO (s:ByteArray):Tx s.data.toList=s:=by show (⟨s.data.toList.toArray⟩:ByteArray)=s;rw[Array.toArray_toList]
theorem Bb (s:ByteArray):s.data.toList.length=s.size:=Array.length_toList
theorem Rt (c:UInt8) (s:ByteArray) (y:ByteArray) (h:y∈sps c s):y.size≤s.size:=by
 obtain⟨x,hx,rfl⟩:=List.mem_map.mp h
 rw[Fu, ← Bb]
 exact alm c _ x hx
theorem Hy (c:UInt8) (s:ByteArray):(sps c s).length≤s.size+1:=by
 unfold sps;rw[List.length_map, ← Bb];exact Vi c _
theorem aaP (s:ByteArray) (a b:Nat):(s.extract a b).data.toList=(s.data.toList.drop a).take (b - a):=by
 rw[ByteArray.data_extract,Array.toList_extract]
theorem afd (s:ByteArray) (a b:Nat):s.extract a b=Tx ((s.data.toList.drop a).take (b - a)):=by rw[← aaP,xO]
theorem Bc:∀ (l:List UInt8) (c:UInt8) (j:Nat),Lib.indexByte l c=(j:Int)→j<l.length∧c∉l.take j∧l=l.take j++c::l.drop (j+1)
 |[],c,j,h=>by unfold Lib.indexByte at h;omega
 |b::l,c,j,h=>by
  unfold Lib.indexByte at h
  by_cases hb:(b==c)=true
  ·rw[if_pos hb]at h
   obtain rfl:j=0:=by omega
   refine⟨by simp,by simp,?_⟩
   rw[eq_of_beq hb];simp
  ·rw[if_neg hb]at h
   rcases Lv l c with h1|⟨i,h1,h2⟩
   ·rw[h1]at h
    simp at h
   rw[h1]at h
   have e:((i:Int)== -1)=false:=by rw[beq_eq_false_iff_ne];omega
   simp only[e]at h
   obtain rfl:j=i+1:=by
    have:(i:Int)+1=j:=by simpa using h
    omega
   obtain⟨a1,a2,a3⟩:=Bc l c i h1
   refine⟨by simp only[List.length_cons];omega,?_,?_⟩
   ·rw[List.take_succ_cons]
    intro hm
    rcases List.mem_cons.mp hm with hm|hm
    ·exact hb (by rw[hm];exact beq_self_eq_true _)
    exact a2 hm
   rw[List.take_succ_cons,List.drop_succ_cons,List.cons_append, ← a3]
theorem Vj (x y:List UInt8) (c:UInt8) (h:c∉x):Lib.indexByte (x++c::y) c=(x.length:Int):=by
 induction x with
 |nil=>unfold Lib.indexByte;simp
 |cons b x ih=>
  have hb:b≠c:=fun e=>h (by rw[e];exact List.mem_cons_self)
  rw[List.cons_append,Lib.indexByte,if_neg (by simpa using hb),ih (fun e=>h (List.mem_cons_of_mem _ e))]
  have e:((x.length:Int)== -1)=false:=by rw[beq_eq_false_iff_ne];omega
  simp[e]
theorem Ru (c:UInt8):∀ (k:Nat) (s:ByteArray),Lib.countByte s.data.toList c=k→Xb c k s=sps c s
 |0,s,h=>by
  have:c∉s.data.toList:=List.count_eq_zero.mp h
  unfold Xb sps
  rw[Kn c _ this,List.map_singleton,xO]
 |k+1,s,h=>by
  obtain⟨j,h1,h2,h3⟩:=rR _ c k h
  obtain⟨a1,a2,a3⟩:=Bc _ c j h1
  rw[Xb,h1,Int.toNat_natCast]
  have e1:(s.extract (j+1) s.size).data.toList=s.data.toList.drop (j+1):=um s (j+1)
  rw[Ru c k _ (by rw[e1];exact h3)]
  unfold sps
  rw[e1,a3,Rs c _ _ a2,List.map_cons, ← a3]
  congr 1
  rw[afd,List.drop_zero,Nat.sub_zero]
theorem Fw (s:ByteArray) (c:UInt8) (hs:s.size≤2000000):strings_Split.f s ⟨#[c]⟩=some (sps c s):=by
 unfold strings_Split.f
 show (if s.size≤2000000 then some (cuts c s)else none)=_
 rw[if_pos hs];unfold cuts;rw[Ru c _ s rfl]
theorem afe (s:ByteArray) (c:UInt8) (hs:s.size≤2000000):strings_Cut.f s ⟨#[c]⟩=some (cutAt s c):=by
 unfold strings_Cut.f
 show (if s.size≤2000000 then some (cutAt s c)else none)=_
 rw[if_pos hs]
end Go.Proofs.YtalkmhnlgfncmaaGreatDoor.X
end
section
namespace Go.Proofs.YtalkmhnlgfncmaaGreatDoor.X
open Go.RowKit Go.Proofs.YtalkmhnlgfncmaaGreatDoorW.aC Go.Proofs.YtalkmhnlgfncmaaGreatDoorW.aN Go.Proofs.YtalkmhnlgfncmaaGreatDoorW.aT
attribute [local go_sem] fq fu gJ gK dN dO fA fB
/-! ### impl_ReadDecimal: function 30 -/
def cZ.f (a0:ByteArray):Option (Int×Bool):=(kK.f a0 1000000000000000).bind fun Rv=>(some (Rv.1,Rv.2))
set_option maxHeartbeats 8000000 in
set_option maxRecDepth 100000 in
theorem cZ.calls (a0:ByteArray) (r1:Int) (r2:Bool) (w:World) (h:cZ.f a0=some (r1,r2)) (wK:Dr w):
  Calls Tryz.prog 30 #[.string a0] w fun e w'=>e= .returned (.tuple #[.int .i64 r1,.bool r2])∧Below w.heap.size w w':=by
 have pq:=ah.mk wK
 clear wK
 have HB:=ah.mk (Below.refl w.heap.size w)
 have H:((kK.f a0 1000000000000000).bind fun Rv=>(some (Rv.1,Rv.2)))=some (r1,r2):=h
 clear h
 obtain⟨⟨asr,asu⟩,A20,H⟩:=Option.bind_eq_some_iff.mp H
 try dsimp only at H
 have A2:=ah.mk A20
 clear A20
 simp only[Option.some.injEq,Prod.mk.injEq]at H
 obtain⟨rfl,rfl⟩:=H
 go_enter Tryz.func30,Tryz.ntmps30
 go_wp2_with (first|((with_reducible refine aK (f:=57) rfl ?_);refine dH (some 5) rfl rfl Tryz.func57 qz9 rfl #[.string a0,.int .i64 1000000000000000] rfl jh ?_;(with_reducible refine(kK.calls a0 1000000000000000 asr asu _ A2.out (pq.out.below (qz0 HB))).mono ?_);rintro e w3 ⟨rfl,hb⟩;refine⟨_,rfl,?_⟩;replace HB:=ah.mk (av (qz0 HB) hb);(try clear hb);(try clear hb2);(try clear hk);(try clear hi)))
 go_ret2
 exact⟨qz7,qz0 HB⟩
end Go.Proofs.YtalkmhnlgfncmaaGreatDoor.X
end
section
namespace Go.Proofs.YtalkmhnlgfncmaaGreatDoor.X
open Go.RowKit Go.Proofs.YtalkmhnlgfncmaaGreatDoorW.aC Go.Proofs.YtalkmhnlgfncmaaGreatDoorW.aN Go.Proofs.YtalkmhnlgfncmaaGreatDoorW.aT
attribute [local go_sem] fq fu gJ gK dN dO fA fB
/-! ### impl_threeNumbers: function 31 -/
def iy.f (a0:ByteArray):Option (Int×Int×Int×Bool):=(strings_Split.f a0 (⟨#[46]⟩:ByteArray)).bind fun lT=>(if (lT.length:Int)=3 then(if 0<(lT.length:Int)then((cZ.f (lS ByteArray.empty lT 0)).bind fun Fx=>(if 1<(lT.length:Int)then((cZ.f (lS ByteArray.empty lT 1)).bind fun Fy=>(if 2<(lT.length:Int)then((cZ.f (lS ByteArray.empty lT 2)).bind fun Fz=>(if Fx.2=true then(if Fy.2=true then(some (Fx.1,Fy.1,Fz.1,Fz.2))else(some (Fx.1,Fy.1,Fz.1,false)))else(some (Fx.1,Fy.1,Fz.1,false))))else(none)))else(none)))else(none))else(some (0,0,0,false)))
set_option maxHeartbeats 8000000 in
set_option maxRecDepth 100000 in
theorem iy.calls (a0:ByteArray) (r1:Int) (r2:Int) (r3:Int) (r4:Bool) (w:World) (h:iy.f a0=some (r1,r2,r3,r4)) (wK:Dr w):
  Calls Tryz.prog 31 #[.string a0] w fun e w'=>e= .returned (.tuple #[.int .i64 r1,.int .i64 r2,.int .i64 r3,.bool r4])∧Below w.heap.size w w':=by
 have pq:=ah.mk wK
 clear wK
 have HB:=ah.mk (Below.refl w.heap.size w)
 have H:((strings_Split.f a0 (⟨#[46]⟩:ByteArray)).bind fun lT=>(if (lT.length:Int)=3 then(if 0<(lT.length:Int)then((cZ.f (lS ByteArray.empty lT 0)).bind fun Fx=>(if 1<(lT.length:Int)then((cZ.f (lS ByteArray.empty lT 1)).bind fun Fy=>(if 2<(lT.length:Int)then((cZ.f (lS ByteArray.empty lT 2)).bind fun Fz=>(if Fx.2=true then(if Fy.2=true then(some (Fx.1,Fy.1,Fz.1,Fz.2))else(some (Fx.1,Fy.1,Fz.1,false)))else(some (Fx.1,Fy.1,Fz.1,false))))else(none)))else(none)))else(none))else(some (0,0,0,false))))=some (r1,r2,r3,r4):=h
 clear h
 obtain⟨lT,A20,H⟩:=Option.bind_eq_some_iff.mp H
 have A2:=ah.mk A20
 clear A20
 by_cases c3:(lT.length:Int)=3
 ·rw[if_pos c3]at H
  have Cy:((lT.length:Int)==3)=true:=beq_iff_eq.mpr c3
  have Ww:((lT.length:Int)!=3)=false:=bne_eq_false_iff_eq.mpr c3
  clear c3
  by_cases c4:0<(lT.length:Int)
  ·rw[if_pos c4]at H
   have Il:decide (0<(lT.length:Int))=true:=decide_eq_true c4
   have avF:decide (0<lT.length)=true:=decide_eq_true (by omega)
   clear c4
   obtain⟨⟨aln,asv⟩,A50,H⟩:=Option.bind_eq_some_iff.mp H
   try dsimp only at H
   have A5:=ah.mk A50
   clear A50
   by_cases c6:1<(lT.length:Int)
   ·rw[if_pos c6]at H
    have adT:decide (1<(lT.length:Int))=true:=decide_eq_true c6
    have anE:decide (1<lT.length)=true:=decide_eq_true (by omega)
    clear c6
    obtain⟨⟨alo,aoC⟩,A70,H⟩:=Option.bind_eq_some_iff.mp H
    try dsimp only at H
    have A7:=ah.mk A70
    clear A70
    by_cases c8:2<(lT.length:Int)
    ·rw[if_pos c8]at H
     have Ov:decide (2<(lT.length:Int))=true:=decide_eq_true c8
     have arN:decide (2<lT.length)=true:=decide_eq_true (by omega)
     clear c8
     obtain⟨⟨alp,alq⟩,A90,H⟩:=Option.bind_eq_some_iff.mp H
     try dsimp only at H
     have A9:=ah.mk A90
     clear A90
     by_cases c10:asv=true
     ·subst c10
      rw[if_pos rfl]at H
      by_cases c11:aoC=true
      ·subst c11
       rw[if_pos rfl]at H
       simp only[Option.some.injEq,Prod.mk.injEq]at H
       obtain⟨rfl,rfl,rfl,rfl⟩:=H
       go_enter Tryz.func31,Tryz.ntmps31
       go_wp2_with (first|((with_reducible refine aK (f:=29) rfl ?_);refine dH (some 14) rfl rfl Tryz.func29 qz9 rfl #[.string a0,.string (⟨#[46]⟩:ByteArray)] rfl jh ?_;(with_reducible refine(strings_Split.calls a0 (⟨#[46]⟩:ByteArray) lT _ A2.out).mono ?_);rintro e w12 ⟨alr,rfl,ho0,hb⟩;refine⟨_,rfl,?_⟩;have lY:=ah.mk (Kd.dV ho0 (aG (qz0 HB)));replace HB:=ah.mk (av (qz0 HB) hb);(try clear hb);(try clear hb2);(try clear hk);(try clear hi);(try clear ho0);obtain⟨ji,je,ae4⟩:=Kd.dW lY.out;subst ae4;have Rw:0≤(0:Int):=(by omega);have Rx:0<(lT.length:Int):=of_decide_eq_true gN;obtain⟨Hz,aff,uo⟩:=Kd.jr (Kd.dF lY.out).2.2 0 Rw Rx;cases aff;have afg:(0<lT.length)=True:=eq_true (by omega);(try rw[show ((0:Int)).toNat=0 from rfl]at uo);(try rw[Addr.add_zero']at uo);replace Rw:=eq_true Rw;replace Rx:=eq_true Rx)|((with_reducible refine aK (f:=30) rfl ?_);refine dH (some 22) rfl rfl Tryz.func30 qz9 rfl #[.string (lS ByteArray.empty lT 0)] rfl jh ?_;(with_reducible refine(cZ.calls (lS ByteArray.empty lT 0) aln true _ A5.out (pq.out.below (qz0 HB))).mono ?_);rintro e w14 ⟨rfl,hb⟩;refine⟨_,rfl,?_⟩;replace lY:=ah.mk (Kd.aM (cK lY) hb);replace HB:=ah.mk (av (qz0 HB) hb);(try clear hb);(try clear hb2);(try clear hk);(try clear hi);have Ry:0≤(1:Int):=(by omega);have Rz:1<(lT.length:Int):=of_decide_eq_true gN;obtain⟨RA,afh,uq⟩:=Kd.jr (Kd.dF lY.out).2.2 1 Ry Rz;obtain rfl:Hz=RA:=(by injection afh);(try simp only[show (1:Int).toNat=1 from rfl,Nat.reduceMul,Nat.reduceEqDiff,Go.Addr.add, ↓reduceIte]at uq);have afi:(1<lT.length)=True:=eq_true (by omega);(try rw[show ((1:Int)).toNat=1 from rfl]at uq);replace Ry:=eq_true Ry;replace Rz:=eq_true Rz)|((with_reducible refine aK (f:=30) rfl ?_);refine dH (some 29) rfl rfl Tryz.func30 qz9 rfl #[.string (lS ByteArray.empty lT 1)] rfl jh ?_;(with_reducible refine(cZ.calls (lS ByteArray.empty lT 1) alo true _ A7.out (pq.out.below (qz0 HB))).mono ?_);rintro e w15 ⟨rfl,hb⟩;refine⟨_,rfl,?_⟩;replace lY:=ah.mk (Kd.aM (cK lY) hb);replace HB:=ah.mk (av (qz0 HB) hb);(try clear hb);(try clear hb2);(try clear hk);(try clear hi);have RB:0≤(2:Int):=(by omega);have RD:2<(lT.length:Int):=of_decide_eq_true gN;obtain⟨RG,e344,uw⟩:=Kd.jr (Kd.dF lY.out).2.2 2 RB RD;obtain rfl:Hz=RG:=(by injection e344);(try simp only[show (2:Int).toNat=2 from rfl,Nat.reduceMul,Nat.reduceEqDiff,Go.Addr.add, ↓reduceIte]at uw);have afj:(2<lT.length)=True:=eq_true (by omega);(try rw[show ((2:Int)).toNat=2 from rfl]at uw);replace RB:=eq_true RB;replace RD:=eq_true RD)|((with_reducible refine aK (f:=30) rfl ?_);refine dH (some 36) rfl rfl Tryz.func30 qz9 rfl #[.string (lS ByteArray.empty lT 2)] rfl jh ?_;(with_reducible refine(cZ.calls (lS ByteArray.empty lT 2) alp alq _ A9.out (pq.out.below (qz0 HB))).mono ?_);rintro e w16 ⟨rfl,hb⟩;refine⟨_,rfl,?_⟩;replace lY:=ah.mk (Kd.aM (cK lY) hb);replace HB:=ah.mk (av (qz0 HB) hb);(try clear hb);(try clear hb2);(try clear hk);(try clear hi)))
       refine bodyPost_ret (oF (rs:=[.tmp 2,.tmp 3,.tmp 4,.tmp 5]) rfl (by simp) (.tmp (.tmp (.tmp (.tmp .nil))))) rfl ?_
       exact⟨qz7,qz0 HB⟩
      replace c11:=Bool.eq_false_iff.mpr c11
      subst c11
      rw[if_neg (show ¬(false=true) by decide)]at H
      simp only[Option.some.injEq,Prod.mk.injEq]at H
      obtain⟨rfl,rfl,rfl,rfl⟩:=H
      go_enter Tryz.func31,Tryz.ntmps31
      go_wp2_with (first|((with_reducible refine aK (f:=29) rfl ?_);refine dH (some 14) rfl rfl Tryz.func29 qz9 rfl #[.string a0,.string (⟨#[46]⟩:ByteArray)] rfl jh ?_;(with_reducible refine(strings_Split.calls a0 (⟨#[46]⟩:ByteArray) lT _ A2.out).mono ?_);rintro e w17 ⟨alr,rfl,ho0,hb⟩;refine⟨_,rfl,?_⟩;have lY:=ah.mk (Kd.dV ho0 (aG (qz0 HB)));replace HB:=ah.mk (av (qz0 HB) hb);(try clear hb);(try clear hb2);(try clear hk);(try clear hi);(try clear ho0);obtain⟨akB,akC,ab7⟩:=Kd.dW lY.out;subst ab7;have Rw:0≤(0:Int):=(by omega);have Rx:0<(lT.length:Int):=of_decide_eq_true gN;obtain⟨Hz,aff,uo⟩:=Kd.jr (Kd.dF lY.out).2.2 0 Rw Rx;cases aff;have afg:(0<lT.length)=True:=eq_true (by omega);(try rw[show ((0:Int)).toNat=0 from rfl]at uo);(try rw[Addr.add_zero']at uo);replace Rw:=eq_true Rw;replace Rx:=eq_true Rx)|((with_reducible refine aK (f:=30) rfl ?_);refine dH (some 22) rfl rfl Tryz.func30 qz9 rfl #[.string (lS ByteArray.empty lT 0)] rfl jh ?_;(with_reducible refine(cZ.calls (lS ByteArray.empty lT 0) aln true _ A5.out (pq.out.below (qz0 HB))).mono ?_);rintro e w19 ⟨rfl,hb⟩;refine⟨_,rfl,?_⟩;replace lY:=ah.mk (Kd.aM (cK lY) hb);replace HB:=ah.mk (av (qz0 HB) hb);(try clear hb);(try clear hb2);(try clear hk);(try clear hi);have Ry:0≤(1:Int):=(by omega);have Rz:1<(lT.length:Int):=of_decide_eq_true gN;obtain⟨RA,afh,uq⟩:=Kd.jr (Kd.dF lY.out).2.2 1 Ry Rz;obtain rfl:Hz=RA:=(by injection afh);(try simp only[show (1:Int).toNat=1 from rfl,Nat.reduceMul,Nat.reduceEqDiff,Go.Addr.add, ↓reduceIte]at uq);have afi:(1<lT.length)=True:=eq_true (by omega);(try rw[show ((1:Int)).toNat=1 from rfl]at uq);replace Ry:=eq_true Ry;replace Rz:=eq_true Rz)|((with_reducible refine aK (f:=30) rfl ?_);refine dH (some 29) rfl rfl Tryz.func30 qz9 rfl #[.string (lS ByteArray.empty lT 1)] rfl jh ?_;(with_reducible refine(cZ.calls (lS ByteArray.empty lT 1) alo false _ A7.out (pq.out.below (qz0 HB))).mono ?_);rintro e w20 ⟨rfl,hb⟩;refine⟨_,rfl,?_⟩;replace lY:=ah.mk (Kd.aM (cK lY) hb);replace HB:=ah.mk (av (qz0 HB) hb);(try clear hb);(try clear hb2);(try clear hk);(try clear hi);have RB:0≤(2:Int):=(by omega);have RD:2<(lT.length:Int):=of_decide_eq_true gN;obtain⟨RG,e344,uw⟩:=Kd.jr (Kd.dF lY.out).2.2 2 RB RD;obtain rfl:Hz=RG:=(by injection e344);(try simp only[show (2:Int).toNat=2 from rfl,Nat.reduceMul,Nat.reduceEqDiff,Go.Addr.add, ↓reduceIte]at uw);have afj:(2<lT.length)=True:=eq_true (by omega);(try rw[show ((2:Int)).toNat=2 from rfl]at uw);replace RB:=eq_true RB;replace RD:=eq_true RD)|((with_reducible refine aK (f:=30) rfl ?_);refine dH (some 36) rfl rfl Tryz.func30 qz9 rfl #[.string (lS ByteArray.empty lT 2)] rfl jh ?_;(with_reducible refine(cZ.calls (lS ByteArray.empty lT 2) alp alq _ A9.out (pq.out.below (qz0 HB))).mono ?_);rintro e w21 ⟨rfl,hb⟩;refine⟨_,rfl,?_⟩;replace lY:=ah.mk (Kd.aM (cK lY) hb);replace HB:=ah.mk (av (qz0 HB) hb);(try clear hb);(try clear hb2);(try clear hk);(try clear hi)))
      refine bodyPost_ret (oF (rs:=[.tmp 2,.tmp 3,.tmp 4,.tmp 5]) rfl (by simp) (.tmp (.tmp (.tmp (.tmp .nil))))) rfl ?_
      exact⟨qz7,qz0 HB⟩
     replace c10:=Bool.eq_false_iff.mpr c10
     subst c10
     rw[if_neg (show ¬(false=true) by decide)]at H
     simp only[Option.some.injEq,Prod.mk.injEq]at H
     obtain⟨rfl,rfl,rfl,rfl⟩:=H
     go_enter Tryz.func31,Tryz.ntmps31
     go_wp2_with (first|((with_reducible refine aK (f:=29) rfl ?_);refine dH (some 14) rfl rfl Tryz.func29 qz9 rfl #[.string a0,.string (⟨#[46]⟩:ByteArray)] rfl jh ?_;(with_reducible refine(strings_Split.calls a0 (⟨#[46]⟩:ByteArray) lT _ A2.out).mono ?_);rintro e w22 ⟨alr,rfl,ho0,hb⟩;refine⟨_,rfl,?_⟩;have lY:=ah.mk (Kd.dV ho0 (aG (qz0 HB)));replace HB:=ah.mk (av (qz0 HB) hb);(try clear hb);(try clear hb2);(try clear hk);(try clear hi);(try clear ho0);obtain⟨avG,avH,asw⟩:=Kd.dW lY.out;subst asw;have Rw:0≤(0:Int):=(by omega);have Rx:0<(lT.length:Int):=of_decide_eq_true gN;obtain⟨Hz,aff,uo⟩:=Kd.jr (Kd.dF lY.out).2.2 0 Rw Rx;cases aff;have afg:(0<lT.length)=True:=eq_true (by omega);(try rw[show ((0:Int)).toNat=0 from rfl]at uo);(try rw[Addr.add_zero']at uo);replace Rw:=eq_true Rw;replace Rx:=eq_true Rx)|((with_reducible refine aK (f:=30) rfl ?_);refine dH (some 22) rfl rfl Tryz.func30 qz9 rfl #[.string (lS ByteArray.empty lT 0)] rfl jh ?_;(with_reducible refine(cZ.calls (lS ByteArray.empty lT 0) aln false _ A5.out (pq.out.below (qz0 HB))).mono ?_);rintro e w24 ⟨rfl,hb⟩;refine⟨_,rfl,?_⟩;replace lY:=ah.mk (Kd.aM (cK lY) hb);replace HB:=ah.mk (av (qz0 HB) hb);(try clear hb);(try clear hb2);(try clear hk);(try clear hi);have Ry:0≤(1:Int):=(by omega);have Rz:1<(lT.length:Int):=of_decide_eq_true gN;obtain⟨RA,afh,uq⟩:=Kd.jr (Kd.dF lY.out).2.2 1 Ry Rz;obtain rfl:Hz=RA:=(by injection afh);(try simp only[show (1:Int).toNat=1 from rfl,Nat.reduceMul,Nat.reduceEqDiff,Go.Addr.add, ↓reduceIte]at uq);have afi:(1<lT.length)=True:=eq_true (by omega);(try rw[show ((1:Int)).toNat=1 from rfl]at uq);replace Ry:=eq_true Ry;replace Rz:=eq_true Rz)|((with_reducible refine aK (f:=30) rfl ?_);refine dH (some 29) rfl rfl Tryz.func30 qz9 rfl #[.string (lS ByteArray.empty lT 1)] rfl jh ?_;(with_reducible refine(cZ.calls (lS ByteArray.empty lT 1) alo aoC _ A7.out (pq.out.below (qz0 HB))).mono ?_);rintro e w25 ⟨rfl,hb⟩;refine⟨_,rfl,?_⟩;replace lY:=ah.mk (Kd.aM (cK lY) hb);replace HB:=ah.mk (av (qz0 HB) hb);(try clear hb);(try clear hb2);(try clear hk);(try clear hi);have RB:0≤(2:Int):=(by omega);have RD:2<(lT.length:Int):=of_decide_eq_true gN;obtain⟨RG,e344,uw⟩:=Kd.jr (Kd.dF lY.out).2.2 2 RB RD;obtain rfl:Hz=RG:=(by injection e344);(try simp only[show (2:Int).toNat=2 from rfl,Nat.reduceMul,Nat.reduceEqDiff,Go.Addr.add, ↓reduceIte]at uw);have afj:(2<lT.length)=True:=eq_true (by omega);(try rw[show ((2:Int)).toNat=2 from rfl]at uw);replace RB:=eq_true RB;replace RD:=eq_true RD)|((with_reducible refine aK (f:=30) rfl ?_);refine dH (some 36) rfl rfl Tryz.func30 qz9 rfl #[.string (lS ByteArray.empty lT 2)] rfl jh ?_;(with_reducible refine(cZ.calls (lS ByteArray.empty lT 2) alp alq _ A9.out (pq.out.below (qz0 HB))).mono ?_);rintro e w26 ⟨rfl,hb⟩;refine⟨_,rfl,?_⟩;replace lY:=ah.mk (Kd.aM (cK lY) hb);replace HB:=ah.mk (av (qz0 HB) hb);(try clear hb);(try clear hb2);(try clear hk);(try clear hi)))
     refine bodyPost_ret (oF (rs:=[.tmp 2,.tmp 3,.tmp 4,.tmp 5]) rfl (by simp) (.tmp (.tmp (.tmp (.tmp .nil))))) rfl ?_
     exact⟨qz7,qz0 HB⟩
    rw[if_neg c8]at H
    exact absurd H (by simp)
   rw[if_neg c6]at H
   exact absurd H (by simp)
  rw[if_neg c4]at H
  exact absurd H (by simp)
 ·rw[if_neg c3]at H
  have Cy:((lT.length:Int)==3)=false:=beq_eq_false_iff_ne.mpr c3
  have Ww:((lT.length:Int)!=3)=true:=bne_iff_ne.mpr c3
  simp only[Option.some.injEq,Prod.mk.injEq]at H
  obtain⟨rfl,rfl,rfl,rfl⟩:=H
  go_enter Tryz.func31,Tryz.ntmps31
  go_wp2_with (first|((with_reducible refine aK (f:=29) rfl ?_);refine dH (some 14) rfl rfl Tryz.func29 qz9 rfl #[.string a0,.string (⟨#[46]⟩:ByteArray)] rfl jh ?_;(with_reducible refine(strings_Split.calls a0 (⟨#[46]⟩:ByteArray) lT _ A2.out).mono ?_);rintro e w27 ⟨alr,rfl,ho0,hb⟩;refine⟨_,rfl,?_⟩;have lY:=ah.mk (Kd.dV ho0 (aG (qz0 HB)));replace HB:=ah.mk (av (qz0 HB) hb);(try clear hb);(try clear hb2);(try clear hk);(try clear hi);(try clear ho0);obtain⟨agG,agH,als⟩:=Kd.dW lY.out;subst als))
  refine bodyPost_ret (oF (rs:=[.tmp 2,.tmp 3,.tmp 4,.tmp 5]) rfl (by simp) (.tmp (.tmp (.tmp (.tmp .nil))))) rfl ?_
  exact⟨qz7,qz0 HB⟩
end Go.Proofs.YtalkmhnlgfncmaaGreatDoor.X
end
section
/- Numbers that are read: the program's reading and the reference's. Conditions: as each lemma says. -/
namespace Go.Proofs.YtalkmhnlgfncmaaGreatDoor.X
open Go.RowKit Go.Proofs.YtalkmhnlgfncmaaGreatDoorW.aC Go.Proofs.YtalkmhnlgfncmaaGreatDoorW.aN Go.Proofs.YtalkmhnlgfncmaaGreatDoorW.aT
/-- The numeral of a small number, outright. -/
def dgl (n:Nat):List UInt8:=if n<10 then [UInt8.ofNat (48+n)]else if n<100 then [UInt8.ofNat (48+n / 10),UInt8.ofNat (48+n % 10)]else [49,48,48]
theorem Lx (d:Int) (h:rQ d):∃ n:Nat,d=n∧n≤100∧Lib.itoa d=dgl n:=by
 obtain⟨h0,h1⟩:=h
 obtain⟨n,rfl⟩:=Int.eq_ofNat_of_zero_le h0
 refine⟨n,rfl,by omega,?_⟩
 rw[Lib.itoa_nonneg]
 unfold dgl
 by_cases h:n<10
 ·rw[if_pos h,Lib.decDigits_one h]
 by_cases h2:n<100
 ·rw[if_neg h,if_pos h2,Lib.decDigits_two h h2]
 obtain rfl:n=100:=by omega
 rw[Rn];rfl
theorem RH:((List.range 101).all fun n=>(dgl n).all fun b=>decide (48≤b.toNat)&&decide (b.toNat≤57))=true:=by kernel_rfl
theorem MU {a b:ByteArray} (h:a.data.toList=b.data.toList):a=b:=by rw[← xO a, ← xO b,h]
def isOk:Lib.NumEnd Int→Nat→Bool
 | .ok v,n=>decide (v=(n:Int))
 |_,_=>false
theorem RI:((List.range 101).all fun n=>isOk (Lib.parseIntB 64 (dgl n)) n)=true:=by kernel_rfl
theorem wM (d:Int) (h:rQ d) (b:UInt8) (hb:b∈Lib.itoa d):48≤b.toNat∧b.toNat≤57:=by
 obtain⟨n,rfl,hn,e⟩:=Lx d h
 rw[e]at hb
 have:=List.all_eq_true.mp (List.all_eq_true.mp RH n zT) b hb
 simpa using this
theorem wN (d:Int) (h:rQ d) (c:UInt8) (hc:c.toNat<48):c∉Lib.itoa d:=fun hb=>by
 have:=wM d h c hb
 omega
theorem MV (d:Int) (h:rQ d):Lib.parseIntB 64 (Lib.itoa d)= .ok d:=by
 obtain⟨n,rfl,hn,e⟩:=Lx d h
 rw[e]
 have:=List.all_eq_true.mp RI n zT
 cases hp:Lib.parseIntB 64 (dgl n)with
 |ok v=>rw[hp]at this;rw[show v=(n:Int) from of_decide_eq_true this]
 |_=>rw[hp]at this;cases this
theorem FB (d:Int):(dtx d).data.toList=Lib.itoa d:=xL _
/-- What the program reads of a word. -/
noncomputable def rdW (s:ByteArray):Int×Bool:=
 match Lib.parseIntB 64 s.data.toList with
 | .ok v=>open Classical in if dtx v=s∧ -1000000000000000≤v∧v≤1000000000000000 then(v,true)else(0,false)
 |_=>(0,false)
theorem LA (s:ByteArray) (hs:s.size≤2000000):cZ.f s=some (rdW s):=by
 unfold cZ.f kK.f rdW
 rw[if_pos ⟨hs,by omega,by omega⟩]
 cases hp:Lib.parseIntB 64 s.data.toList with
 |ok v=>
  have hb:=Lib.parseIntB_bounds hp
  have hd:dZ.f v=some (dtx v):=by
   unfold dZ.f
   rw[if_pos ⟨by have:=hb.1;simp at this;omega,by have:=hb.2;simp at this;omega⟩];rfl
  simp only[hd,Option.bind_some,tO]
  have e1:((dtx v).toList=s.toList)=(dtx v=s):=by
   apply propext
   constructor
   ·intro h
    rw[ByteArray.toList_eq,ByteArray.toList_eq]at h
    exact MU h
   rintro h;rw[h]
  by_cases hc:dtx v=s∧ -1000000000000000≤v∧v≤1000000000000000
  ·simp[e1,hc.1,hc.2.1,hc.2.2]
  ·by_cases h1:dtx v=s
   ·have h2:¬(-1000000000000000≤v∧v≤1000000000000000):=fun h=>hc ⟨h1,h⟩
    simp[e1,h1,h2]
   simp[e1,h1]
 |_=>rfl
theorem Bf (d:Int) (h:rQ d):rdW (dtx d)=(d,true):=by
 unfold rdW
 rw[FB,MV d h]
 simp only
 rw[if_pos ⟨trivial,by have:=h.1;omega,by have:=h.2;omega⟩]
/-- What the program reads of three numbers. -/
noncomputable def rdT (s:ByteArray):Int×Int×Int×Bool:=
 if (sps 46 s).length=3 then((rdW ((sps 46 s).getD 0 ByteArray.empty)).1,(rdW ((sps 46 s).getD 1 ByteArray.empty)).1,(rdW ((sps 46 s).getD 2 ByteArray.empty)).1,
  (rdW ((sps 46 s).getD 0 ByteArray.empty)).2&&(rdW ((sps 46 s).getD 1 ByteArray.empty)).2&&(rdW ((sps 46 s).getD 2 ByteArray.empty)).2)else(0,0,0,false)
theorem Kq (c:UInt8) (s:ByteArray) (i:Nat):((sps c s).getD i ByteArray.empty).size≤s.size:=by
 rw[List.getD_eq_getElem?_getD]
 by_cases h:i<(sps c s).length
 ·rw[List.getElem?_eq_getElem h]
  exact Rt c s _ (List.getElem_mem h)
 rw[List.getElem?_eq_none (by omega)]
 exact Nat.zero_le _
theorem afk (s:ByteArray) (hs:s.size≤2000000):iy.f s=some (rdT s):=by
 unfold iy.f rdT
 rw[Fw s 46 hs,Option.bind_some]
 have g0:=Kq 46 s 0
 have g1:=Kq 46 s 1
 have g2:=Kq 46 s 2
 have r0:lS ByteArray.empty (sps 46 s) 0=(sps 46 s).getD 0 ByteArray.empty:=rfl
 have r1:lS ByteArray.empty (sps 46 s) 1=(sps 46 s).getD 1 ByteArray.empty:=rfl
 have r2:lS ByteArray.empty (sps 46 s) 2=(sps 46 s).getD 2 ByteArray.empty:=rfl
 by_cases h:(sps 46 s).length=3
 ·rw[if_pos (by omega),if_pos (by omega),if_pos h,r0,r1,r2,LA _ (by omega),LA _ (by omega),LA _ (by omega)]
  simp only[Option.bind_some]
  rw[if_pos (by omega),if_pos (by omega)]
  cases (rdW ((sps 46 s).getD 0 ByteArray.empty)).2<;>cases (rdW ((sps 46 s).getD 1 ByteArray.empty)).2<;>simp
 rw[if_neg (by omega),if_neg h]
theorem FC (w:S40):(wtx w).data.toList=Lib.join [Lib.itoa w.f0,Lib.itoa w.f1,Lib.itoa w.f2] [46]:=by
 rw[wL,wL,Lib.join_one]
 have e:wtx w=Tx (Lib.itoa w.f0++46::(Lib.itoa w.f1++46::Lib.itoa w.f2)):=by
  unfold wtx dtx
  show (((Tx _++Tx [46])++Tx _)++Tx [46])++Tx _=_
  rw[Ls,Ls,Ls,Ls]
  simp only[List.append_assoc,List.cons_append,List.nil_append]
 rw[e,xL]
def acg (w:S40):Prop:=rQ w.f0∧rQ w.f1∧rQ w.f2
theorem aaQ (w:S40) (h:acg w):sps 46 (wtx w)=[dtx w.f0,dtx w.f1,dtx w.f2]:=by
 unfold sps
 rw[FC,Ko 46 _ _ (by
  intro y hy
  rcases List.mem_cons.mp hy with rfl|hy
  ·exact wN _ h.1 46 (by decide)
  rcases List.mem_cons.mp hy with rfl|hy
  ·exact wN _ h.2.1 46 (by decide)
  rw[List.mem_singleton]at hy
  rw[hy];exact wN _ h.2.2 46 (by decide))]
 rfl
theorem RL (w:S40) (h:acg w):rdT (wtx w)=(w.f0,w.f1,w.f2,true):=by
 unfold rdT
 rw[aaQ w h,if_pos (by rfl)]
 show ((rdW (dtx w.f0)).1,(rdW (dtx w.f1)).1,(rdW (dtx w.f2)).1,(rdW (dtx w.f0)).2&&(rdW (dtx w.f1)).2&&(rdW (dtx w.f2)).2)=_
 rw[Bf _ h.1,Bf _ h.2.1,Bf _ h.2.2];rfl
end Go.Proofs.YtalkmhnlgfncmaaGreatDoor.X
end
