/- Steps of the walks that come again and again, as theorems whose last premises are shown by a default tactic. Conditions: as each theorem says. -/
import Derived.Test.YtalkmhnlgfncmaaGreatDoorI0
import Derived.Test.YtalkmhnlgfncmaaGreatDoorI1
import Derived.Test.YtalkmhnlgfncmaaGreatDoorI12
import Derived.Test.YtalkmhnlgfncmaaGreatDoorI11
set_option linter.unusedVariables false
namespace Go.Proofs.YtalkmhnlgfncmaaGreatDoor
open Go.RowKit Go.Proofs.YtalkmhnlgfncmaaGreatDoorW.aC Go.Proofs.YtalkmhnlgfncmaaGreatDoorW.aN Go.Proofs.YtalkmhnlgfncmaaGreatDoorW.aT
section
variable {P:Program} {ops:Array Oper} {Q:Exit→Act→World→Prop} {md:Region.Mode} {S:World→Prop} {ds:List Nat} {T:Bool×List (List Nat×List Nat)} {C:List Nat} {oi o:Oper} {v:Value} {fuel:Nat} {l:Array Bool} {a b c:Act} {w:World} {rest:List Oper}
theorem qpu (hT:ah (uU md ops=T)) (i n:Nat) (m:Array Bool) (hi:ops[i]?=some oi) (hN:oi.dst=some n) (h:dM P md ops Q S ds fuel m b w) (hc:af5 T l.toList m.toList i=true:=by kernel_rfl) (hw:Region.wanted oi (yielded ops a.tmps)=true:=by rfl)
 (hy:∀ w,(execOp a.eval oi).run P w= .ok (.value v) w:=by intro w';go_simp;with_reducible rfl) (hb:a.put (some n) v=b:=by simp only[Act.put,List.setIfInBounds_toArray,List.set_cons_zero,List.set_cons_succ,yD,yE];rfl) (hQ:∀ c a w,Q (.panic c) (a.put oi.dst v) w→Q (.panic c) a w:=by exact fun _ _ _ h=>h):
 dM P md ops Q S ds (fuel+1) l a w:=acL m hi hN (VN hT.out hc) hQ (.inl ⟨hw,hy⟩) hb h
theorem qpn (hT:ah (uU md ops=T)) (i n:Nat) (m:Array Bool) (hi:ops[i]?=some oi) (hN:oi.dst=some n) (h:dM P md ops Q S ds fuel m b w) (hc:af5 T l.toList m.toList i=true:=by kernel_rfl) (hw:Region.wanted oi (yielded ops a.tmps)=false:=by rfl)
 (hb:a.put (some n) undef=b:=by simp only[Act.put,List.setIfInBounds_toArray,List.set_cons_zero,List.set_cons_succ,yD,yE];rfl) (hQ:∀ c a w,Q (.panic c) (a.put oi.dst undef) w→Q (.panic c) a w:=by exact fun _ _ _ h=>h):
 dM P md ops Q S ds (fuel+1) l a w:=acL m hi hN (VN hT.out hc) hQ (.inr ⟨hw,rfl⟩) hb h
theorem qtk (hT:ah (uU md ops=T)) (hC:ah (nG T.2 C=true)) (i n:Nat) (m:Array Bool) (hi:ops[i]?=some oi) (hN:oi.dst=some n) (hS:S w) (h:dM P md ops Q S ds fuel m b w) (hc:XG T C ds l.toList m.toList i=true:=by kernel_rfl)
 (hw:Region.wanted oi (yielded ops a.tmps)=true:=by rfl) (hy:∀ w,S w→(execOp a.eval oi).run P w= .ok (.value v) w:=by intro w' hs;(repeat(have:=hs.1;replace hs:=hs.2));go_simp;with_reducible rfl)
 (hb:a.put (some n) v=b:=by simp only[Act.put,List.setIfInBounds_toArray,List.set_cons_zero,List.set_cons_succ,yD,yE];rfl) (hQ:∀ c a w,Q (.panic c) (a.put oi.dst v) w→Q (.panic c) a w:=by exact fun _ _ _ h=>h):
 dM P md ops Q S ds (fuel+1) l a w:=Xu m hi hN (TH hT.out hC.out hc) hQ (.inl ⟨hw,hy⟩) hS hb h
theorem qno (n:Nat) (hb:a=Act.put b (some n) v) (h:dM P md ops Q S ds fuel l c w) (hc:Act.put b (some n) v=c:=by simp only[Act.put,List.setIfInBounds_toArray,List.set_cons_zero,List.set_cons_succ,yD,yE];rfl):dM P md ops Q S ds fuel l a w:=ahz (hb.trans hc) h
theorem qbx {W:World} {N:Tmp} {cs:Array Value} {t:TypeId}
 (h:∀ g,g=W.heap.size→∀ w1,w1.heap[g]?=some (.cells cs t (0,0))→Below W.heap.size W w1→wpList P ops Q rest (a.put o.dst (.pointer (some ⟨g,0,none⟩))) w1) (hd:o.dst=some N:=by rfl) (hg:o.guard=none:=by rfl)
 (hr:(execOp a.eval o).run P W= .ok (.value (.pointer (some ⟨W.heap.size,0,none⟩))) (W.alloc (.cells cs t (0,0))):=by first|(go_simp;done)|(go_simp;rfl)):wpList P ops Q (o::rest) a W:=Ns hg hd hr h
end
theorem qpb {P Q:Prop} (h:Q) (f:Q→P:=by intro h;(with_reducible repeat(first|refine zu ?_ _|refine dS ?_|refine fV ?_ _));exact h):P:=f h
theorem dP {P Q:Prop} (h:ah Q) (f:Q→P:=by intro h;(with_reducible repeat(first|refine zu ?_ _|refine dS ?_|refine fV ?_ _));exact h):P:=f h.out
theorem qpr {P Q:Prop} (h:Q) (f:Q→P:=by intro h;(with_reducible repeat(first|apply Kd.qD|apply Kd.Iw|apply Kd.fO));exact h):P:=f h
theorem cK {P Q:Prop} (h:ah Q) (f:Q→P:=by intro h;(with_reducible repeat(first|apply Kd.qD|apply Kd.Iw|apply Kd.fO));exact h):P:=f h.out
theorem qz0 {P A:Prop} (za_:ah A) (h:ah A→P:=by intro za_;repeat(first|(with_reducible first|exact za_.out|apply bg|apply bZ|apply bG)|exact za_.out)):P:=h za_
theorem qz1 {P:Prop} (h:P:=by first|(go_simp;done)|(go_simp;rfl)):P:=h
theorem qz2 {P A B:Prop} (za_:ah A) (zb_:ah B) (h:ah A→ah B→P:=by intro za_ zb_;repeat(first|exact(Kd.gX za_.out zb_.out)|(with_reducible refine Kd.oJ ?_ _)|(with_reducible refine Kd.qE ?_ _)|(with_reducible refine Kd.uT ?_))):P:=h za_ zb_
theorem qz3 {P A:Prop} (za_:ah A) (h:ah A→P:=by intro za_;have:=za_.out;omega):P:=h za_
theorem qz4 {P A B:Prop} (za_:ah A) (zb_:ah B) (h:ah A→ah B→P:=by intro za_ zb_;repeat(first|(with_reducible first|exact za_.out|apply bg|apply bZ|apply bG|refine bF ?_ zb_.out)|exact za_.out)):P:=h za_ zb_
theorem qz5 {P:Prop} (h:P:=by rw[hg];exact Nat.ne_of_lt (gD (g:=jk) (o:=.cells #[.int .i64 uM,.int .i64 yO,.bool true] 68 (0,0)) (dP jl))):P:=h
theorem qz6 {P:Prop} (h:P:=by rw[hg];exact Nat.ne_of_gt (gD (g:=jk) (o:=.cells #[.int .i64 uM,.int .i64 yO,.bool true] 68 (0,0)) (dP jl))):P:=h
theorem qz7 {P:Prop} (h:P:=by first|rfl|(simp[Gg,Gh]<;>rfl)|(simp[*,Gg,Gh]<;>rfl)):P:=h
theorem qz8 {P A B C:Prop} (za_:ah A) (zb_:ah B) (zc_:ah C) (h:ah A→ah B→ah C→P:=by intro za_ zb_ zc_;repeat(first|(with_reducible first|exact za_.out|apply bg|apply bZ|apply bG|refine bF ?_ zb_.out|refine bF ?_ zc_.out)|exact za_.out)):P:=h za_ zb_ zc_
theorem qz9 {P:Prop} (h:P:=by kernel_rfl):P:=h
theorem xu {P A:Prop} (za_:ah A) (h:ah A→P:=by intro za_;rw[hg];exact aG za_.out):P:=h za_
theorem Db {P:Prop} (h:P:=by first|rfl|simp):P:=h
theorem TU {P:Prop} (h:P:=by simp[Act.eval,Act.put]):P:=h
theorem Mi {P:Prop} (h:P:=by rw[hg];exact Nat.le_refl _):P:=h
theorem iY {P:Prop} (h:P:=by first|rfl|(simp;done)|(simp[*];done)):P:=h
theorem vM {P:Prop} (h:P:=by repeat(first|exact gQ.refl _|apply gQ.step)):P:=h
theorem gN {P:Prop} (h:P:=by first|(with_reducible assumption)|assumption):P:=h
theorem Ug {P A B:Prop} (za_:ah A) (zb_:ah B) (h:ah A→ah B→P:=by intro za_ zb_;have:=za_.out;have:=zb_.out;omega):P:=h za_ zb_
theorem zT {P:Prop} (h:P:=by simp;omega):P:=h
theorem aiz {P:Prop} (h:P:=by rw[h3];simp only[List.mem_append,List.mem_cons,List.not_mem_nil,or_false,List.mem_singleton];grind):P:=h
theorem jh {P:Prop} (h:P:=by(try simp only[List.map_toArray,List.map_cons,List.map_nil]);first|done|rfl|(simp only[List.length_drop,List.length_take];rfl)):P:=h
theorem Yf {P:Prop} (h:P:=by first|omega|exact Nat.le_refl _):P:=h
theorem IX {P A:Prop} (za_:ah A) (h:ah A→P:=by intro za_;repeat(first|(with_reducible first|exact za_.out|apply dK.alloc|apply dK.drewN|apply dK.drew)|exact za_.out)):P:=h za_
theorem mM {P A:Prop} (za_:ah A) (h:ah A→P:=by intro za_;repeat(first|(with_reducible first|exact za_.out|apply aI.acC|apply pJ|apply sJ|apply uK)|exact za_.out)):P:=h za_
theorem Mj {P A B:Prop} (za_:ah A) (zb_:ah B) (h:ah A→ah B→P:=by intro za_ zb_;repeat(first|(with_reducible first|exact za_.out|apply bg|apply bZ|apply bG|refine bF ?_ (dK.ge zb_.out))|exact za_.out)):P:=h za_ zb_
theorem Ul {P A B:Prop} (za_:ah A) (zb_:ah B) (h:ah A→ah B→P:=by intro za_ zb_;repeat(first|(with_reducible first|exact za_.out|apply dK.alloc|apply dK.drewN|apply dK.drew|refine dK.far ?_ zb_.out _)|exact za_.out)):P:=h za_ zb_
theorem uP {P A B:Prop} (za_:ah A) (zb_:ah B) (h:ah A→ah B→P:=by intro za_ zb_;repeat(first|(with_reducible first|exact za_.out|apply aI.acC|apply pJ|apply sJ|apply uK|refine jW ?_ zb_.out _)|exact za_.out)):P:=h za_ zb_
theorem Wn {P A B C:Prop} (za_:ah A) (zb_:ah B) (zc_:ah C) (h:ah A→ah B→ah C→P:=by intro za_ zb_ zc_;repeat(first|(with_reducible first|exact za_.out|apply bg|apply bZ|apply bG|refine bF ?_ (dK.ge zb_.out)|refine bF ?_ zc_.out)|exact za_.out)):P:=h za_ zb_ zc_
theorem Wq {P:Prop} (h:P:=by simp[Value.ownBlock]):P:=h
theorem Tg {P A:Prop} (za_:ah A) (h:ah A→P:=by intro za_;have:=gD za_.out;omega):P:=h za_
theorem ab0 {P A:Prop} (za_:ah A) (h:ah A→P:=by intro za_;repeat(first|exact za_.out|(with_reducible refine Kd.oJ ?_ _)|(with_reducible refine Kd.qE ?_ _)|(with_reducible refine Kd.uT ?_))):P:=h za_
theorem jL {P A:Prop} (za_:ah A) (h:ah A→P:=by intro za_;first|exact trivial|(exact za_.out)):P:=h za_
theorem anI {P:Prop} (h:P:=by rw[hg];exact Nat.ne_of_lt (gD (g:=pV) (o:=.cells #[.slice eT bK.length eG,.slice fE bf.length eH] 27 (0,0)) (dP mG))):P:=h
theorem anJ {P:Prop} (h:P:=by rw[hg];exact Nat.ne_of_gt (gD (g:=pV) (o:=.cells #[.slice eT bK.length eG,.slice fE bf.length eH] 27 (0,0)) (dP mG))):P:=h
theorem Dh {P:Prop} (h:P:=by first|exact Kd.Cq _ _ _ _ _|exact Kd.am7 _ _ _ _ _|exact Kd.ahA _ _ _ _ _|exact Kd.ahx _ _ _ _ _|exact Kd.ahG _ _ _ _ _):P:=h
theorem Tj {P A B:Prop} (za_:ah A) (zb_:ah B) (h:ah A→ah B→P:=by intro za_ zb_;refine qpb ?_;refine dJ ?_ za_.out _;refine qpb ?_;refine dJ ?_ za_.out _;refine qpb ?_;exact zb_.out):P:=h za_ zb_
theorem anK {P A:Prop} (za_:ah A) (h:ah A→P:=by intro za_;refine qpb ?_;refine aW (cs:=#[.slice Ao9 yG.length co9,.slice none 0 0]) ?_ 1 _ rfl;refine qpb ?_;refine aW (cs:=#[.slice none 0 0,.slice none 0 0]) ?_ 0 _ rfl;refine qpb ?_;exact za_.out):P:=h za_
theorem wV {P A B C D:Prop} (za_:ah A) (zb_:ah B) (zc_:ah C) (zd_:ah D) (h:ah A→ah B→ah C→ah D→P:=by intro za_ zb_ zc_ zd_;repeat(first|(with_reducible first|exact za_.out|apply bg|apply bZ|apply bG|refine bF ?_ zb_.out|refine bF ?_ zc_.out|refine bF ?_ zd_.out)|exact za_.out)):P:=h za_ zb_ zc_ zd_
theorem Nb {P A B:Prop} (za_:ah A) (zb_:ah B) (h:ah A→ah B→P:=by intro za_ zb_;refine qpb ?_;refine dJ ?_ za_.out _;refine qpb ?_;refine dJ ?_ za_.out _;refine qpb ?_;refine dJ ?_ za_.out _;refine qpb ?_;exact zb_.out):P:=h za_ zb_
theorem Ms {P A B C D E:Prop} (za_:ah A) (zb_:ah B) (zc_:ah C) (zd_:ah D) (ze_:ah E) (h:ah A→ah B→ah C→ah D→ah E→P:=by intro za_ zb_ zc_ zd_ ze_;repeat(first|(with_reducible first|exact za_.out|apply bg|apply bZ|apply bG|refine bF ?_ zb_.out|refine bF ?_ zc_.out|refine bF ?_ zd_.out|refine bF ?_ ze_.out)|exact za_.out)):P:=h za_ zb_ zc_ zd_ ze_
theorem ZM {P A B:Prop} (za_:ah A) (zb_:ah B) (h:ah A→ah B→P:=by intro za_ zb_;refine qpb ?_;refine dJ ?_ za_.out _;refine qpb ?_;exact zb_.out):P:=h za_ zb_
theorem qO {P A:Prop} (za_:ah A) (h:ah A→P:=by intro za_;repeat(first|exact(Kd.dF za_.out).2.2|(with_reducible refine Kd.oJ ?_ _)|(with_reducible refine Kd.qE ?_ _)|(with_reducible refine Kd.uT ?_))):P:=h za_
theorem qg {P A:Prop} (za_:ah A) (h:ah A→P:=by intro za_;first|exact trivial|(exact(Kd.dF za_.out).2.1)):P:=h za_
theorem sF {P A:Prop} (za_:ah A) (h:ah A→P:=by intro za_;repeat(first|(with_reducible first|exact za_.out|apply fT.alloc|apply fT.drewN|apply fT.drew)|exact za_.out)):P:=h za_
theorem uO {P A B:Prop} (za_:ah A) (zb_:ah B) (h:ah A→ah B→P:=by intro za_ zb_;repeat(first|(with_reducible first|exact za_.out|apply bg|apply bZ|apply bG|refine bF ?_ (fT.ge zb_.out))|exact za_.out)):P:=h za_ zb_
theorem Io {P A B:Prop} (za_:ah A) (zb_:ah B) (h:ah A→ah B→P:=by intro za_ zb_;repeat(first|(with_reducible first|exact za_.out|apply fT.alloc|apply fT.drewN|apply fT.drew|refine fT.far ?_ zb_.out _)|exact za_.out)):P:=h za_ zb_
theorem Ip {P A B C:Prop} (za_:ah A) (zb_:ah B) (zc_:ah C) (h:ah A→ah B→ah C→P:=by intro za_ zb_ zc_;repeat(first|(with_reducible first|exact za_.out|apply bg|apply bZ|apply bG|refine bF ?_ (fT.ge zb_.out)|refine bF ?_ zc_.out)|exact za_.out)):P:=h za_ zb_ zc_
theorem WB {P A:Prop} (za_:ah A) (h:ah A→P:=by intro za_;refine qpr ?_;exact Kd.bS za_.out (fun _ hk=>hk.2)):P:=h za_
theorem anT {P A:Prop} (za_:ah A) (h:ah A→P:=by intro za_;refine qpb ?_;refine aW (cs:=#[.int .i64 ((au bH iM).f0),.int .i64 ((au bH iM).f1),.int .i64 0]) ?_ 2 _ rfl;refine qpb ?_;refine aW (cs:=#[.int .i64 ((au bH iM).f0),.int .i64 0,.int .i64 0]) ?_ 1 _ rfl;refine qpb ?_;refine aW (cs:=#[.int .i64 0,.int .i64 0,.int .i64 0]) ?_ 0 _ rfl;refine qpb ?_;exact za_.out):P:=h za_
theorem agp {P A:Prop} (za_:ah A) (h:ah A→P:=by intro za_;refine qpr ?_;exact Kd.bS za_.out (fun _ hk=>⟨hk.1.2,hk.2⟩)):P:=h za_
theorem an7 {P A:Prop} (za_:ah A) (h:ah A→P:=by intro za_;refine qpb ?_;refine aW (cs:=#[.slice ET xH.length EU,.slice none 0 0]) ?_ 1 _ rfl;refine qpb ?_;refine aW (cs:=#[.slice none 0 0,.slice none 0 0]) ?_ 0 _ rfl;refine qpb ?_;exact za_.out):P:=h za_
theorem aep {P A B C:Prop} (za_:ah A) (zb_:ah B) (zc_:ah C) (h:ah A→ah B→ah C→P:=by intro za_ zb_ zc_;repeat(first|(with_reducible first|exact za_.out|apply dK.alloc|apply dK.drewN|apply dK.drew|refine dK.far ?_ zb_.out _|refine dK.far ?_ zc_.out _)|exact za_.out)):P:=h za_ zb_ zc_
theorem aer {P A B C:Prop} (za_:ah A) (zb_:ah B) (zc_:ah C) (h:ah A→ah B→ah C→P:=by intro za_ zb_ zc_;repeat(first|(with_reducible first|exact za_.out|apply aI.acC|apply pJ|apply sJ|apply uK|refine jW ?_ zb_.out _|refine jW ?_ zc_.out _)|exact za_.out)):P:=h za_ zb_ zc_
theorem ajX {P A B C D:Prop} (za_:ah A) (zb_:ah B) (zc_:ah C) (zd_:ah D) (h:ah A→ah B→ah C→ah D→P:=by intro za_ zb_ zc_ zd_;repeat(first|(with_reducible first|exact za_.out|apply bg|apply bZ|apply bG|refine bF ?_ (dK.ge zb_.out)|refine bF ?_ zc_.out|refine bF ?_ zd_.out)|exact za_.out)):P:=h za_ zb_ zc_ zd_
theorem aj7 {P A B C D:Prop} (za_:ah A) (zb_:ah B) (zc_:ah C) (zd_:ah D) (h:ah A→ah B→ah C→ah D→P:=by intro za_ zb_ zc_ zd_;repeat(first|(with_reducible first|exact za_.out|apply dK.alloc|apply dK.drewN|apply dK.drew|refine dK.far ?_ zb_.out _|refine dK.far ?_ zc_.out _|refine dK.far ?_ zd_.out _)|exact za_.out)):P:=h za_ zb_ zc_ zd_
theorem agq {P A B C D:Prop} (za_:ah A) (zb_:ah B) (zc_:ah C) (zd_:ah D) (h:ah A→ah B→ah C→ah D→P:=by intro za_ zb_ zc_ zd_;repeat(first|(with_reducible first|exact za_.out|apply aI.acC|apply pJ|apply sJ|apply uK|refine jW ?_ zb_.out _|refine jW ?_ zc_.out _|refine jW ?_ zd_.out _)|exact za_.out)):P:=h za_ zb_ zc_ zd_
theorem aj8 {P A B C D E:Prop} (za_:ah A) (zb_:ah B) (zc_:ah C) (zd_:ah D) (ze_:ah E) (h:ah A→ah B→ah C→ah D→ah E→P:=by intro za_ zb_ zc_ zd_ ze_;repeat(first|(with_reducible first|exact za_.out|apply bg|apply bZ|apply bG|refine bF ?_ (dK.ge zb_.out)|refine bF ?_ zc_.out|refine bF ?_ zd_.out|refine bF ?_ ze_.out)|exact za_.out)):P:=h za_ zb_ zc_ zd_ ze_
theorem aeL {P A:Prop} (za_:ah A) (h:ah A→P:=by intro za_;(with_reducible repeat(first|apply Kd.XH|apply Kd.XI|apply Kd.acX));exact za_.out):P:=h za_
theorem ab8 {P A:Prop} (za_:ah A) (h:ah A→P:=by intro za_;repeat(first|(with_reducible exact za_.out)|(with_reducible refine Kd.oJ ?_ _)|(with_reducible refine Kd.qE ?_ _)|(with_reducible refine Kd.uT ?_)|exact za_.out)):P:=h za_
theorem akG {P:Prop} (h:P:=by rw[hg];exact Nat.ne_of_lt (gD (g:=fF) (o:=.cells #[.slice eT bK.length eG,.slice fE bf.length eH] 27 (0,0)) (dP dU))):P:=h
theorem akH {P:Prop} (h:P:=by rw[hg];exact Nat.ne_of_gt (gD (g:=fF) (o:=.cells #[.slice eT bK.length eG,.slice fE bf.length eH] 27 (0,0)) (dP dU))):P:=h
theorem aol {P:Prop} (h:P:=by rw[hg];exact Nat.ne_of_lt (gD (g:=qh) (o:=.cells #[.slice eT bK.length eG,.slice fE bf.length eH] 27 (0,0)) (dP oQ))):P:=h
theorem aom {P:Prop} (h:P:=by rw[hg];exact Nat.ne_of_gt (gD (g:=qh) (o:=.cells #[.slice eT bK.length eG,.slice fE bf.length eH] 27 (0,0)) (dP oQ))):P:=h
theorem ab9 {P A:Prop} (za_:ah A) (h:ah A→P:=by intro za_;refine qpb ?_;refine aW (cs:=#[.slice none 0 0,.slice none 0 0]) ?_ 1 _ rfl;refine qpb ?_;refine aW (cs:=#[.slice none 0 0,.slice none 0 0]) ?_ 0 _ rfl;refine qpb ?_;exact za_.out):P:=h za_
theorem zf {P:Prop} (h:P:=by rw[e];decide):P:=h
theorem Vs {P A:Prop} (za_:ah A) (h:ah A→P:=by intro za_;repeat(first|(with_reducible first|exact za_.out|apply iA.alloc|apply iA.drewN|apply iA.drew|apply iA.ams|apply iA.amt)|exact za_.out)):P:=h za_
theorem Vt {P A B:Prop} (za_:ah A) (zb_:ah B) (h:ah A→ah B→P:=by intro za_ zb_;repeat(first|(with_reducible first|exact za_.out|apply bg|apply bZ|apply bG|refine bF ?_ (iA.ge zb_.out))|exact za_.out)):P:=h za_ zb_
theorem Nh {P:Prop} (h:P:=by simpa using hsz):P:=h
theorem amI {P:Prop} (h:P:=by rw[hg];exact Nat.ne_of_lt (gD (g:=gy) (o:=.cells #[.slice ji gT.length je,.slice kV dD.length jM] 27 (0,0)) (dP dz))):P:=h
theorem amJ {P:Prop} (h:P:=by rw[hg];exact Nat.ne_of_gt (gD (g:=gy) (o:=.cells #[.slice ji gT.length je,.slice kV dD.length jM] 27 (0,0)) (dP dz))):P:=h
theorem agP {P:Prop} (h:P:=by rw[hg];exact Nat.ne_of_lt (gD (g:=jD) (o:=.cells #[.slice ni kW.length nk,.slice nR ng.length nS] 27 (0,0)) (dP gH))):P:=h
theorem agQ {P:Prop} (h:P:=by rw[hg];exact Nat.ne_of_gt (gD (g:=jD) (o:=.cells #[.slice ni kW.length nk,.slice nR ng.length nS] 27 (0,0)) (dP gH))):P:=h
theorem ao9 {P:Prop} (h:P:=by rw[hg];exact Nat.ne_of_lt (gD (g:=gy) (o:=.cells #[.slice ji gT.length je,.slice (some xS) dD.length jM] 27 (0,0)) (dP dz))):P:=h
theorem apa {P:Prop} (h:P:=by rw[hg];exact Nat.ne_of_gt (gD (g:=gy) (o:=.cells #[.slice ji gT.length je,.slice (some xS) dD.length jM] 27 (0,0)) (dP dz))):P:=h
theorem amT {P:Prop} (h:P:=by rw[hg];exact Nat.ne_of_lt (gD (g:=ig) (o:=.cells #[.slice mq jS.length mD,.slice nZ iH.length ny] 27 (0,0)) (dP fG))):P:=h
theorem amU {P:Prop} (h:P:=by rw[hg];exact Nat.ne_of_gt (gD (g:=ig) (o:=.cells #[.slice mq jS.length mD,.slice nZ iH.length ny] 27 (0,0)) (dP fG))):P:=h
theorem acs {P A:Prop} (za_:ah A) (h:ah A→P:=by intro za_;refine qpr ?_;exact Kd.bS (Kd.bX (p:=⟨dx,2,none⟩) (Kd.bX (p:=⟨dx,1,none⟩) (Kd.bX (p:=⟨dx,0,none⟩) (Kd.bS za_.out (fun k_ hk=>(⟨hk,hk.2⟩:_∧k_≠dx))) (fun _ hk=>hk.2) (.int .i64 ((au dD bC).f0))) (fun _ hk=>hk.2) (.int .i64 ((au dD bC).f1))) (fun _ hk=>hk.2) (.int .i64 ((au dD bC).f2))) (fun _ hk=>⟨hk.1.1.1,⟨hk.1.1.2,hk.1.2⟩⟩)):P:=h za_
theorem apd {P A:Prop} (za_:ah A) (h:ah A→P:=by intro za_;refine qpb ?_;refine aW (cs:=#[.int .i64 ((au dD bC).f0),.int .i64 ((au dD bC).f1),.int .i64 0]) ?_ 2 _ rfl;refine qpb ?_;refine aW (cs:=#[.int .i64 ((au dD bC).f0),.int .i64 0,.int .i64 0]) ?_ 1 _ rfl;refine qpb ?_;refine aW (cs:=#[.int .i64 0,.int .i64 0,.int .i64 0]) ?_ 0 _ rfl;refine qpb ?_;exact za_.out):P:=h za_
theorem mK {P A:Prop} (za_:ah A) (h:ah A→P:=by intro za_;rw[hg];exact(aG (qz0 za_))):P:=h za_
theorem wU {P A B:Prop} (za_:ah A) (zb_:ah B) (h:ah A→ah B→P:=by intro za_ zb_;rw[hg];exact(aG (qz4 za_ zb_))):P:=h za_ zb_
theorem yR {P A:Prop} (za_:ah A) (h:ah A→P:=by intro za_;rw[hg];exact(iw (w:=w) (g:=g) (row:=none) (mM za_))):P:=h za_
theorem adD {P A:Prop} (za_:ah A) (h:ah A→P:=by intro za_;rw[hg];exact Nat.ne_of_lt (dK.lt (show dK w0 _ g dX bH from IX za_))):P:=h za_
theorem adE {P A:Prop} (za_:ah A) (h:ah A→P:=by intro za_;rw[hg];exact Nat.ne_of_gt (dK.lt (show dK w0 _ g dX bH from IX za_))):P:=h za_
theorem UC {P A B C:Prop} (za_:ah A) (zb_:ah B) (zc_:ah C) (h:ah A→ah B→ah C→P:=by intro za_ zb_ zc_;repeat(first|exact(Kd.gX za_.out (qz4 zb_ zc_))|(with_reducible refine Kd.oJ ?_ _)|(with_reducible refine Kd.qE ?_ _)|(with_reducible refine Kd.uT ?_))):P:=h za_ zb_ zc_
theorem aae {P A:Prop} (za_:ah A) (h:ah A→P:=by intro za_;rw[hg];exact Nat.ne_of_lt (fT.lt (show fT w0 _ g dX bH from sF za_))):P:=h za_
theorem aaf {P A:Prop} (za_:ah A) (h:ah A→P:=by intro za_;rw[hg];exact Nat.ne_of_gt (fT.lt (show fT w0 _ g dX bH from sF za_))):P:=h za_
theorem akF {P A:Prop} (za_:ah A) (h:ah A→P:=by intro za_;first|exact Nf|exact of_decide_eq_true (gN)|(have e_:=(Kd.qw za_.out).1;omega)):P:=h za_
theorem agB {P A B:Prop} (za_:ah A) (zb_:ah B) (h:ah A→ah B→P:=by intro za_ zb_;repeat(first|exact(Kd.gX za_.out (qz0 zb_))|(with_reducible refine Kd.oJ ?_ _)|(with_reducible refine Kd.qE ?_ _)|(with_reducible refine Kd.uT ?_))):P:=h za_ zb_
end Go.Proofs.YtalkmhnlgfncmaaGreatDoor
