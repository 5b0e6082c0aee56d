/- My own texts of this seat and its words, merged: CMoved. Conditions: as each lemma says. -/
import Derived.Test.YtalkmhnlgfncmaaGreatDoorI29
import Derived.Test.YtalkmhnlgfncmaaGreatDoorI32
import Derived.Test.YtalkmhnlgfncmaaGreatDoorI33
import Derived.Test.YtalkmhnlgfncmaaGreatDoorI34
set_option linter.unusedVariables false
set_option linter.unusedSimpArgs false
section
/- Moved registers: the plain law of FnMoved. Conditions: as each lemma says. -/
namespace Go.Proofs.YtalkmhnlgfncmaaGreatDoor.X
open Go.RowKit Go.Proofs.YtalkmhnlgfncmaaGreatDoorW.aC Go.Proofs.YtalkmhnlgfncmaaGreatDoorW.aN Go.Proofs.YtalkmhnlgfncmaaGreatDoorW.aT
theorem Dy (x1:List Int) (n:Int) (m d gd:List Int) (ws:List S40) (hl:ws.length≤16) (hok:∀ w,w∈ws→fQ m.length w) (K:Nat) (hend:∀ k,K≤k→ay.l0 k x1 n m (ws.length:Int) d ws gd (ws.map (mvW m))=some true):
  ∀ (e i k:Nat),i+e=ws.length→e+K≤k→ay.l0 k x1 n m (i:Int) d ws gd (ws.map (mvW m))=some true
 |0,i,k,hi,hk=>by
  obtain rfl:i=ws.length:=by omega
  exact hend k (by omega)
 |e+1,i,k,hi,hk=>by
  obtain⟨k,rfl⟩:∃ q,k=q+1:=⟨k - 1,by omega⟩
  have hlt:i<ws.length:=by omega
  have ih:=Dy x1 n m d gd ws hl hok K hend e (i+1) k (by omega) (by omega)
  rw[Int.natCast_add,Int.natCast_one]at ih
  obtain⟨a,b,c,f,_,_⟩:=hok ws[i] (List.getElem_mem hlt)
  have g1:au (ws.map (mvW m)) (i:Int)=mvW m ws[i]:=by rw[rX _ i (by rw[List.length_map];exact hlt),List.getElem_map]
  have gl:(ws.map (mvW m)).length=ws.length:=List.length_map ..
  rw[ay.l0,if_pos (by omega),if_pos (by omega),gl,if_pos (by omega),rX ws i hlt,if_pos c,if_pos f,if_pos a,if_pos b,g1,if_neg (by unfold mvW;simp),w64 (by omega) (by omega),ih]
theorem Ij (gd hd:List Int) (G:List S40) (hl:G.length≤16):∀ (e i k:Nat),i+e=G.length→e<k→ay.l1 k (i:Int) gd G hd G=some true
 |0,i,k,hi,hk=>by
  obtain⟨k,rfl⟩:∃ q,k=q+1:=⟨k - 1,by omega⟩
  rw[ay.l1,if_neg (by omega)]
 |e+1,i,k,hi,hk=>by
  obtain⟨k,rfl⟩:∃ q,k=q+1:=⟨k - 1,by omega⟩
  have ih:=Ij gd hd G hl e (i+1) k (by omega) (by omega)
  rw[Int.natCast_add,Int.natCast_one]at ih
  rw[ay.l1,if_pos (by omega),if_pos (by omega),if_pos (by omega),if_neg (by simp),w64 (by omega) (by omega),ih]
theorem Ik:ay.Pure:=by
 intro l0 l1 _ _ hw0 _ _ hw1
 have b0:=Xl hw0
 have b1:=Xl hw1
 obtain⟨k,hk⟩:∃ k:Nat,30000000<k:=⟨30000001,by omega⟩
 refine⟨k+1,?_⟩
 unfold ay.f lN.f
 by_cases hl0:(l0.length:Int)>48
 ·rw[if_pos hl0,Option.bind_some,if_pos rfl]
 rw[if_neg hl0,Option.bind_some]
 by_cases hl1:(l1.length:Int)>48
 ·rw[if_pos (decide_eq_true hl1)]
 rw[if_neg (by rw[decide_eq_false hl1];decide)]
 obtain⟨d,ws,ef,hv⟩:=aa7 (k+1) (by omega) l0 b0
 have F:=Ke d ws hv
 have hn8:=F.n8
 have hn1:=F.n1
 have awl:=F.m16
 rw[ef,Option.bind_some]
 obtain⟨P,eP,_,_⟩:=at8 l1 0 40 b1
 rw[show ((0:Nat):Int)=0 from rfl]at eP
 obtain⟨r,hr1,es,ei⟩:=MJ k d ws P (by omega) (by omega) (by omega)
 dsimp only
 rw[eP,Option.bind_some,ei,Option.bind_some,Option.bind_some,es,Option.bind_some]
 rw[if_neg (by simp),mZ (k+1) d ws (by omega),Option.bind_some,hv,Bool.not_true]
 obtain⟨k,rfl⟩:∃ q,k=q+20:=⟨k - 20,by omega⟩
 have hsz:=(parts d ws hv).sized
 rw[ay.j0,if_neg (by decide),Ro _ d ws (by omega),hv,if_pos rfl,Option.bind_some]
 dsimp only
 rw[RX (uY d ws) (by omega) _ (by omega),FJ d ws hv,Option.bind_some]
 dsimp only
 rw[if_pos rfl,if_pos rfl,if_pos rfl,bne_self_eq_false,ay.j1,if_neg (by decide)]
 cases h2:r.2 with
 |false=>rw[if_neg (by decide)]
 |true=>
  rw[if_pos rfl]
  obtain⟨hc,hlen,h0⟩:=ML (k+20) d ws P (by omega) hv r ei h2
  obtain⟨m,hm⟩:∃ m,m=r.1:=⟨_,rfl⟩
  rw[← hm]at hc hlen h0 hr1 ⊢
  have hv':=AY d ws m hc
  have res:MN d ws m=(d,ws.map (mvW m),true):=by unfold MN;rw[if_pos hc]
  rw[Dq _ d ws m (by omega) (by omega),res,Option.bind_some]
  dsimp only
  rw[if_pos rfl,Fg _ d ws m (by omega) (by omega),hc,Option.bind_some,if_pos rfl,mZ _ d _ (by omega),hv',Option.bind_some,if_pos rfl,List.length_map,bne_self_eq_false,ay.j2,if_neg (by decide)]
  obtain⟨fv,ea,a0,a1⟩:=at8 l1 1 (d.length:Int) b1
  obtain⟨tv,et,t0,t1⟩:=at8 l1 2 (d.length:Int) b1
  rw[show ((1:Nat):Int)=1 from rfl]at ea
  rw[show ((2:Nat):Int)=2 from rfl]at et
  obtain⟨A,rfl⟩:=Int.eq_ofNat_of_zero_le a0
  obtain⟨B,rfl⟩:=Int.eq_ofNat_of_zero_le t0
  obtain⟨hc',hmap,hsh⟩:=Ra m d ws hc h0
  have res':MN d ws (shf m (-1))=(d,ws.map (mvW m),true):=by unfold MN;rw[if_pos hc',hmap]
  have j4:∀ q,10000000≤q→ay.j4 q m false d ws d (ws.map (mvW m))=some true:=fun q hq=>by
   obtain⟨q,rfl⟩:∃ p,q=p+2:=⟨q - 2,by omega⟩
   rw[ay.j4,if_neg (by decide),MO _ m (-1) (by omega) (by omega),hsh,Option.bind_some]
   dsimp only
   rw[Dq _ d ws _ (by rw[ug];omega) (by omega),res',Option.bind_some,if_pos rfl]
   dsimp only
   rw[Bool.not_true,ay.j5,if_neg (by decide)]
   exact Ij d d _ (by rw[List.length_map];omega) (ws.map (mvW m)).length 0 q (Nat.zero_add _) (by rw[List.length_map];omega)
  have hok:∀ w,w∈ws→fQ m.length w:=fun w hw=>by rw[hlen];exact F.wok w hw
  refine Dy l1 (d.length:Int) m d d ws (by omega) hok 20000000 (fun q hq=>?_) ws.length 0 _ (Nat.zero_add _) (by omega)
  obtain⟨q,rfl⟩:∃ p,q=p+1:=⟨q - 1,by omega⟩
  obtain⟨x,y,g1,g2,g3,g4⟩:=Vb q d ws m hc A B (by omega) (by omega) (by omega)
  rw[ay.l0,if_neg (by omega),ea,Option.bind_some,et,Option.bind_some,g1,Option.bind_some,g2,Option.bind_some,g3,bne_self_eq_false,if_neg (by decide)]
  cases h5:x.2.2 with
  |false=>rw[if_neg (by decide)];exact j4 q (by omega)
  |true=>
   obtain⟨c1,c2,c3,c4⟩:=g4 h5
   have hm2:=hc
   unfold yg at hm2
   simp only[Bool.and_eq_true]at hm2
   have bA:=Dn m hm2.2.2.1 A
   have bB:=Dn m hm2.2.2.1 B
   have eA:rd m (A:Int)=mo m A:=rfl
   have eB:rd m (B:Int)=mo m B:=rfl
   rw[if_pos rfl,if_pos (by omega),if_pos (by omega),if_pos (by omega),if_pos (by omega),eA,eB,w64 (n:=x.1+mo m B) (by omega) (by omega),w64 (n:=x.1+mo m B - mo m A) (by omega) (by omega),if_pos c1,c2,bne_self_eq_false]
   exact j4 q (by omega)
end Go.Proofs.YtalkmhnlgfncmaaGreatDoor.X
end
