/- My own texts of this seat and its words, merged: XDrawReg, Xp16, Xp60, Xp34, XDrawOk, XR8Flow, CDrawFl, Xpe0, Xp4. Conditions: as each lemma says. -/
import Derived.Test.YtalkmhnlgfncmaaGreatDoorI21
import Derived.Test.YtalkmhnlgfncmaaGreatDoorI32
import Derived.Test.YtalkmhnlgfncmaaGreatDoorI25
import Derived.Test.YtalkmhnlgfncmaaGreatDoorI26
import Derived.Deep.RegionHeld3
import Derived.Laws.BitsLemmas
import Derived.Test.YtalkmhnlgfncmaaGreatDoorXSlim
set_option linter.unusedVariables false
set_option linter.unusedSimpArgs false
section
/- The region that makes the next flow, and all that may have come up of it. Conditions: as the definitions say. -/
namespace Go.Proofs.YtalkmhnlgfncmaaGreatDoor.X
open Go.RowKit Go.Proofs.YtalkmhnlgfncmaaGreatDoorW.aC Go.Proofs.YtalkmhnlgfncmaaGreatDoorW.aN Go.Proofs.YtalkmhnlgfncmaaGreatDoorW.aT
structure RF (W7:World) (g4:Nat) (A A1:Option Addr) (d:List Int) (ws:List S40) (c c1:Nat) (t:S40) (ℓ:Nat→Bool) (w:World) (u44 u45 u46 u47 u48 u49 u50 u51 u52 u53 u8:Value) (E V M:Nat) (A9 A2:Option Addr) (c9 c2:Nat):Prop where
 bel:Below W7.heap.size W7 w
 s0:ℓ 0=true→u44= .pointer (some ⟨g4,0,none⟩)
 s1:ℓ 1=true→u45= .slice A d.length c
 s2:ℓ 2=true→u46= .slice (some ⟨E,0,none⟩) 0 0
 s2e:ℓ 2=true→W7.heap.size≤E∧E<w.heap.size
 s2b:ℓ 2=true→ℓ 5=false→w.heap[E]?=some (.cells #[] 40 (0,0))
 s3:ℓ 3=true→u47= .pointer (some ⟨g4,1,none⟩)
 s4:ℓ 4=true→u48= .slice A1 ws.length c1
 s5:ℓ 5=true→u49= .slice A9 ws.length c9
 s5r:ℓ 5=true→ℓ 8=false→Kd.R k40 40 w W7.heap.size (fun _=>True) (.slice A9 ws.length c9) ws
 s6:ℓ 6=true→u50= .agg #[.int .i64 t.f0,.int .i64 t.f1,.int .i64 t.f2]
 s7:ℓ 7=true→u51= .slice (some ⟨V,0,none⟩) 1 1
 s7v:ℓ 7=true→V<w.heap.size
 s7b:ℓ 7=true→ℓ 8=false→w.heap[V]?=some (.cells #[.int .i64 t.f0,.int .i64 t.f1,.int .i64 t.f2] 40 (0,0))
 s27:ℓ 2=true→ℓ 7=true→E≠V
 cl:ℓ 8=true→ℓ 5=true
 s8:ℓ 8=true→u52= .slice A2 (ws++[t]).length c2
 s8r:ℓ 8=true→Kd.R k40 40 w W7.heap.size (fun _=>True) (.slice A2 (ws++[t]).length c2) (ws++[t])
 cl9:ℓ 9=true→ℓ 8=true
 yw:ℓ 11=true→ℓ 10=true∧ℓ 8=true
 s9:ℓ 9=true→u53= .agg #[.slice A d.length c,.slice A2 (ws++[t]).length c2]
 s10:ℓ 10=true→u8= .pointer (some ⟨M,0,none⟩)
 yx:ℓ 10=true→W7.heap.size≤M
 vK:ℓ 10=true→ℓ 11=false→w.heap[M]?=some (.cells #[.slice none 0 0,.slice none 0 0] 27 (0,0))
 ze:ℓ 11=true→w.heap[M]?=some (.cells #[.slice A d.length c,.slice A2 (ws++[t]).length c2] 27 (0,0))
variable {W7 w w':World} {g4:Nat} {A A1:Option Addr} {d:List Int} {ws:List S40} {c c1:Nat} {t:S40} {ℓ ℓ':Nat→Bool} {u44 u45 u46 u47 u48 u49 u50 u51 u52 u53 u8:Value} {E V M:Nat} {A9 A2:Option Addr} {c9 c2:Nat}
theorem RZ {α:Type} {k:Kd α} {W:World} {base Z e t:Nat} {ok:Nat→Prop} {v:Value} {xs:List α} {cs:Array Value} (h:Kd.R k e W base ok v xs) (hz:W.heap[Z]?=some (.cells cs t (0,0))) (hne:t≠e):some Z≠v.ownBlock:=by
 intro e0
 obtain⟨c2,q2⟩:=Kd.lC h Z e0.symm
 rw[hz]at q2
 injection q2 with q2
 injection q2 with _ q2
 exact hne q2
theorem afA {α:Type} {k:Kd α} {W:World} {base Z e t:Nat} {v:Value} {xs:List α} {cs:Array Value} (h:Kd.R k e W base (fun _=>True) v xs) (hz:W.heap[Z]?=some (.cells cs t (0,0))) (hne:t≠e) (hE:k.E=[]) (u0 u1:Value):Kd.R k e ((W.setCell ⟨Z,0,none⟩ u0).setCell ⟨Z,1,none⟩ u1) base (fun _=>True) v xs:=
 Kd.bS (Kd.bX (p:=⟨Z,1,none⟩) (Kd.bX (p:=⟨Z,0,none⟩) (Kd.VL h hE (RZ h hz hne)) (fun _ hk=>hk.2) u0) (fun _ hk=>hk.2) u1) (fun _ _=>trivial)
theorem Vm {W:World} {Z t:Nat} {a b:Value} (hz:W.heap[Z]?=some (.cells #[a,b] t (0,0))) (u0 u1:Value):((W.setCell ⟨Z,0,none⟩ u0).setCell ⟨Z,1,none⟩ u1).heap[Z]?=some (.cells #[u0,u1] t (0,0)):=
 aW (cs':=#[u0,u1]) (aW (cs':=#[u0,b]) hz 0 u0 rfl) 1 u1 rfl
theorem Sb {W:World} {X Z e t:Nat} {cs cz:Array Value} (hx:W.heap[X]?=some (.cells cs e (0,0))) (hz:W.heap[Z]?=some (.cells cz t (0,0))) (hne:t≠e):Z≠X:=by
 intro e0
 rw[e0,hx]at hz
 injection hz with q
 injection q with _ q
 exact hne q.symm
theorem Vn {α:Type} (k:Kd α) {W:World} {base X e:Nat} (hX:W.heap[X]?=some (.cells #[] e (0,0))) (hb:base≤X):Kd.R k e W base (fun _=>True) (.slice (some ⟨X,0,none⟩) 0 0) ([]:List α):=
 ⟨fun _ _=>trivial,[],⟨by simp,.inr ⟨X,0,#[],rfl,hb,hX,Nat.le_refl _,by simp[maxLen],by simp,by simp⟩⟩,jO.none _ _⟩
theorem RF.p0 (F:RF W7 g4 A A1 d ws c c1 t ℓ w u44 u45 u46 u47 u48 u49 u50 u51 u52 u53 u8 E V M A9 A2 c9 c2) (hne:∀ j,j≠0→ℓ' j=ℓ j) (hk1:ℓ' 0=true) (hk0:ℓ 0=false):RF W7 g4 A A1 d ws c c1 t ℓ' w (.pointer (some ⟨g4,0,none⟩)) u45 u46 u47 u48 u49 u50 u51 u52 u53 u8 E V M A9 A2 c9 c2:=by
 have e1:=hne 1 (by decide)
 have e2:=hne 2 (by decide)
 have e3:=hne 3 (by decide)
 have e4:=hne 4 (by decide)
 have e5:=hne 5 (by decide)
 have e6:=hne 6 (by decide)
 have e7:=hne 7 (by decide)
 have e8:=hne 8 (by decide)
 have e9:=hne 9 (by decide)
 have e10:=hne 10 (by decide)
 have e11:=hne 11 (by decide)
 constructor
 case bel=>exact F.bel
 case s0=>exact fun _=>rfl
 case s1=>rw[e1];exact F.s1
 case s2=>rw[e2];exact F.s2
 case s2e=>rw[e2];exact F.s2e
 case s2b=>rw[e2,e5];exact F.s2b
 case s3=>rw[e3];exact F.s3
 case s4=>rw[e4];exact F.s4
 case s5=>rw[e5];exact F.s5
 case s5r=>rw[e5,e8];exact F.s5r
 case s6=>rw[e6];exact F.s6
 case s7=>rw[e7];exact F.s7
 case s7v=>rw[e7];exact F.s7v
 case s7b=>rw[e7,e8];exact F.s7b
 case s27=>rw[e2,e7];exact F.s27
 case cl=>rw[e8,e5];exact F.cl
 case s8=>rw[e8];exact F.s8
 case s8r=>rw[e8];exact F.s8r
 case cl9=>rw[e9,e8];exact F.cl9
 case yw=>rw[e11,e10,e8];exact F.yw
 case s9=>rw[e9];exact F.s9
 case s10=>rw[e10];exact F.s10
 case yx=>rw[e10];exact F.yx
 case vK=>rw[e10,e11];exact F.vK
 case ze=>rw[e11];exact F.ze
theorem RF.p1 (F:RF W7 g4 A A1 d ws c c1 t ℓ w u44 u45 u46 u47 u48 u49 u50 u51 u52 u53 u8 E V M A9 A2 c9 c2) (hne:∀ j,j≠1→ℓ' j=ℓ j) (hk1:ℓ' 1=true) (hk0:ℓ 1=false):RF W7 g4 A A1 d ws c c1 t ℓ' w u44 (.slice A d.length c) u46 u47 u48 u49 u50 u51 u52 u53 u8 E V M A9 A2 c9 c2:=by
 have e0:=hne 0 (by decide)
 have e2:=hne 2 (by decide)
 have e3:=hne 3 (by decide)
 have e4:=hne 4 (by decide)
 have e5:=hne 5 (by decide)
 have e6:=hne 6 (by decide)
 have e7:=hne 7 (by decide)
 have e8:=hne 8 (by decide)
 have e9:=hne 9 (by decide)
 have e10:=hne 10 (by decide)
 have e11:=hne 11 (by decide)
 constructor
 case bel=>exact F.bel
 case s0=>rw[e0];exact F.s0
 case s1=>exact fun _=>rfl
 case s2=>rw[e2];exact F.s2
 case s2e=>rw[e2];exact F.s2e
 case s2b=>rw[e2,e5];exact F.s2b
 case s3=>rw[e3];exact F.s3
 case s4=>rw[e4];exact F.s4
 case s5=>rw[e5];exact F.s5
 case s5r=>rw[e5,e8];exact F.s5r
 case s6=>rw[e6];exact F.s6
 case s7=>rw[e7];exact F.s7
 case s7v=>rw[e7];exact F.s7v
 case s7b=>rw[e7,e8];exact F.s7b
 case s27=>rw[e2,e7];exact F.s27
 case cl=>rw[e8,e5];exact F.cl
 case s8=>rw[e8];exact F.s8
 case s8r=>rw[e8];exact F.s8r
 case cl9=>rw[e9,e8];exact F.cl9
 case yw=>rw[e11,e10,e8];exact F.yw
 case s9=>rw[e9];exact F.s9
 case s10=>rw[e10];exact F.s10
 case yx=>rw[e10];exact F.yx
 case vK=>rw[e10,e11];exact F.vK
 case ze=>rw[e11];exact F.ze
theorem RF.p3 (F:RF W7 g4 A A1 d ws c c1 t ℓ w u44 u45 u46 u47 u48 u49 u50 u51 u52 u53 u8 E V M A9 A2 c9 c2) (hne:∀ j,j≠3→ℓ' j=ℓ j) (hk1:ℓ' 3=true) (hk0:ℓ 3=false):RF W7 g4 A A1 d ws c c1 t ℓ' w u44 u45 u46 (.pointer (some ⟨g4,1,none⟩)) u48 u49 u50 u51 u52 u53 u8 E V M A9 A2 c9 c2:=by
 have e0:=hne 0 (by decide)
 have e1:=hne 1 (by decide)
 have e2:=hne 2 (by decide)
 have e4:=hne 4 (by decide)
 have e5:=hne 5 (by decide)
 have e6:=hne 6 (by decide)
 have e7:=hne 7 (by decide)
 have e8:=hne 8 (by decide)
 have e9:=hne 9 (by decide)
 have e10:=hne 10 (by decide)
 have e11:=hne 11 (by decide)
 constructor
 case bel=>exact F.bel
 case s0=>rw[e0];exact F.s0
 case s1=>rw[e1];exact F.s1
 case s2=>rw[e2];exact F.s2
 case s2e=>rw[e2];exact F.s2e
 case s2b=>rw[e2,e5];exact F.s2b
 case s3=>exact fun _=>rfl
 case s4=>rw[e4];exact F.s4
 case s5=>rw[e5];exact F.s5
 case s5r=>rw[e5,e8];exact F.s5r
 case s6=>rw[e6];exact F.s6
 case s7=>rw[e7];exact F.s7
 case s7v=>rw[e7];exact F.s7v
 case s7b=>rw[e7,e8];exact F.s7b
 case s27=>rw[e2,e7];exact F.s27
 case cl=>rw[e8,e5];exact F.cl
 case s8=>rw[e8];exact F.s8
 case s8r=>rw[e8];exact F.s8r
 case cl9=>rw[e9,e8];exact F.cl9
 case yw=>rw[e11,e10,e8];exact F.yw
 case s9=>rw[e9];exact F.s9
 case s10=>rw[e10];exact F.s10
 case yx=>rw[e10];exact F.yx
 case vK=>rw[e10,e11];exact F.vK
 case ze=>rw[e11];exact F.ze
theorem RF.p4 (F:RF W7 g4 A A1 d ws c c1 t ℓ w u44 u45 u46 u47 u48 u49 u50 u51 u52 u53 u8 E V M A9 A2 c9 c2) (hne:∀ j,j≠4→ℓ' j=ℓ j) (hk1:ℓ' 4=true) (hk0:ℓ 4=false):RF W7 g4 A A1 d ws c c1 t ℓ' w u44 u45 u46 u47 (.slice A1 ws.length c1) u49 u50 u51 u52 u53 u8 E V M A9 A2 c9 c2:=by
 have e0:=hne 0 (by decide)
 have e1:=hne 1 (by decide)
 have e2:=hne 2 (by decide)
 have e3:=hne 3 (by decide)
 have e5:=hne 5 (by decide)
 have e6:=hne 6 (by decide)
 have e7:=hne 7 (by decide)
 have e8:=hne 8 (by decide)
 have e9:=hne 9 (by decide)
 have e10:=hne 10 (by decide)
 have e11:=hne 11 (by decide)
 constructor
 case bel=>exact F.bel
 case s0=>rw[e0];exact F.s0
 case s1=>rw[e1];exact F.s1
 case s2=>rw[e2];exact F.s2
 case s2e=>rw[e2];exact F.s2e
 case s2b=>rw[e2,e5];exact F.s2b
 case s3=>rw[e3];exact F.s3
 case s4=>exact fun _=>rfl
 case s5=>rw[e5];exact F.s5
 case s5r=>rw[e5,e8];exact F.s5r
 case s6=>rw[e6];exact F.s6
 case s7=>rw[e7];exact F.s7
 case s7v=>rw[e7];exact F.s7v
 case s7b=>rw[e7,e8];exact F.s7b
 case s27=>rw[e2,e7];exact F.s27
 case cl=>rw[e8,e5];exact F.cl
 case s8=>rw[e8];exact F.s8
 case s8r=>rw[e8];exact F.s8r
 case cl9=>rw[e9,e8];exact F.cl9
 case yw=>rw[e11,e10,e8];exact F.yw
 case s9=>rw[e9];exact F.s9
 case s10=>rw[e10];exact F.s10
 case yx=>rw[e10];exact F.yx
 case vK=>rw[e10,e11];exact F.vK
 case ze=>rw[e11];exact F.ze
theorem RF.p6 (F:RF W7 g4 A A1 d ws c c1 t ℓ w u44 u45 u46 u47 u48 u49 u50 u51 u52 u53 u8 E V M A9 A2 c9 c2) (hne:∀ j,j≠6→ℓ' j=ℓ j) (hk1:ℓ' 6=true) (hk0:ℓ 6=false):RF W7 g4 A A1 d ws c c1 t ℓ' w u44 u45 u46 u47 u48 u49 (.agg #[.int .i64 t.f0,.int .i64 t.f1,.int .i64 t.f2]) u51 u52 u53 u8 E V M A9 A2 c9 c2:=by
 have e0:=hne 0 (by decide)
 have e1:=hne 1 (by decide)
 have e2:=hne 2 (by decide)
 have e3:=hne 3 (by decide)
 have e4:=hne 4 (by decide)
 have e5:=hne 5 (by decide)
 have e7:=hne 7 (by decide)
 have e8:=hne 8 (by decide)
 have e9:=hne 9 (by decide)
 have e10:=hne 10 (by decide)
 have e11:=hne 11 (by decide)
 constructor
 case bel=>exact F.bel
 case s0=>rw[e0];exact F.s0
 case s1=>rw[e1];exact F.s1
 case s2=>rw[e2];exact F.s2
 case s2e=>rw[e2];exact F.s2e
 case s2b=>rw[e2,e5];exact F.s2b
 case s3=>rw[e3];exact F.s3
 case s4=>rw[e4];exact F.s4
 case s5=>rw[e5];exact F.s5
 case s5r=>rw[e5,e8];exact F.s5r
 case s6=>exact fun _=>rfl
 case s7=>rw[e7];exact F.s7
 case s7v=>rw[e7];exact F.s7v
 case s7b=>rw[e7,e8];exact F.s7b
 case s27=>rw[e2,e7];exact F.s27
 case cl=>rw[e8,e5];exact F.cl
 case s8=>rw[e8];exact F.s8
 case s8r=>rw[e8];exact F.s8r
 case cl9=>rw[e9,e8];exact F.cl9
 case yw=>rw[e11,e10,e8];exact F.yw
 case s9=>rw[e9];exact F.s9
 case s10=>rw[e10];exact F.s10
 case yx=>rw[e10];exact F.yx
 case vK=>rw[e10,e11];exact F.vK
 case ze=>rw[e11];exact F.ze
theorem RF.p9 (F:RF W7 g4 A A1 d ws c c1 t ℓ w u44 u45 u46 u47 u48 u49 u50 u51 u52 u53 u8 E V M A9 A2 c9 c2) (hne:∀ j,j≠9→ℓ' j=ℓ j) (hk1:ℓ' 9=true) (hk0:ℓ 9=false) (h8:ℓ 8=true):RF W7 g4 A A1 d ws c c1 t ℓ' w u44 u45 u46 u47 u48 u49 u50 u51 u52 (.agg #[.slice A d.length c,.slice A2 (ws++[t]).length c2]) u8 E V M A9 A2 c9 c2:=by
 have e0:=hne 0 (by decide)
 have e1:=hne 1 (by decide)
 have e2:=hne 2 (by decide)
 have e3:=hne 3 (by decide)
 have e4:=hne 4 (by decide)
 have e5:=hne 5 (by decide)
 have e6:=hne 6 (by decide)
 have e7:=hne 7 (by decide)
 have e8:=hne 8 (by decide)
 have e10:=hne 10 (by decide)
 have e11:=hne 11 (by decide)
 constructor
 case bel=>exact F.bel
 case s0=>rw[e0];exact F.s0
 case s1=>rw[e1];exact F.s1
 case s2=>rw[e2];exact F.s2
 case s2e=>rw[e2];exact F.s2e
 case s2b=>rw[e2,e5];exact F.s2b
 case s3=>rw[e3];exact F.s3
 case s4=>rw[e4];exact F.s4
 case s5=>rw[e5];exact F.s5
 case s5r=>rw[e5,e8];exact F.s5r
 case s6=>rw[e6];exact F.s6
 case s7=>rw[e7];exact F.s7
 case s7v=>rw[e7];exact F.s7v
 case s7b=>rw[e7,e8];exact F.s7b
 case s27=>rw[e2,e7];exact F.s27
 case cl=>rw[e8,e5];exact F.cl
 case s8=>rw[e8];exact F.s8
 case s8r=>rw[e8];exact F.s8r
 case cl9=>rw[e8];exact fun _=>h8
 case yw=>rw[e11,e10,e8];exact F.yw
 case s9=>exact fun _=>rfl
 case s10=>rw[e10];exact F.s10
 case yx=>rw[e10];exact F.yx
 case vK=>rw[e10,e11];exact F.vK
 case ze=>rw[e11];exact F.ze
theorem RF.m2 (F:RF W7 g4 A A1 d ws c c1 t ℓ w u44 u45 u46 u47 u48 u49 u50 u51 u52 u53 u8 E V M A9 A2 c9 c2) (hne:∀ j,j≠2→ℓ' j=ℓ j) (hk1:ℓ' 2=true) (hk0:ℓ 2=false):RF W7 g4 A A1 d ws c c1 t ℓ' (w.alloc (.cells #[] 40)) u44 u45 (.slice (some ⟨w.heap.size,0,none⟩) 0 0) u47 u48 u49 u50 u51 u52 u53 u8 w.heap.size V M A9 A2 c9 c2:=by
 have e0:=hne 0 (by decide)
 have e1:=hne 1 (by decide)
 have e3:=hne 3 (by decide)
 have e4:=hne 4 (by decide)
 have e5:=hne 5 (by decide)
 have e6:=hne 6 (by decide)
 have e7:=hne 7 (by decide)
 have e8:=hne 8 (by decide)
 have e9:=hne 9 (by decide)
 have e10:=hne 10 (by decide)
 have e11:=hne 11 (by decide)
 have hsz:(w.alloc (.cells #[] 40)).heap.size=w.heap.size+1:=by simp
 have hbs:=aG F.bel
 constructor
 case bel=>exact bg F.bel _
 case s0=>rw[e0];exact F.s0
 case s1=>rw[e1];exact F.s1
 case s2=>exact fun _=>rfl
 case s2e=>exact fun _=>⟨hbs,by omega⟩
 case s2b=>exact fun _ _=>qC w _
 case s3=>rw[e3];exact F.s3
 case s4=>rw[e4];exact F.s4
 case s5=>rw[e5];exact F.s5
 case s5r=>rw[e5,e8];exact fun h5 h8=>Kd.qD (F.s5r h5 h8) _
 case s6=>rw[e6];exact F.s6
 case s7=>rw[e7];exact F.s7
 case s7v=>rw[e7];exact fun h7=>by have:=F.s7v h7;omega
 case s7b=>rw[e7,e8];exact fun h7 h8=>fV (F.s7b h7 h8) _
 case s27=>rw[e7];exact fun _ h7=>by have:=F.s7v h7;omega
 case cl=>rw[e8,e5];exact F.cl
 case s8=>rw[e8];exact F.s8
 case s8r=>rw[e8];exact fun h8=>Kd.qD (F.s8r h8) _
 case cl9=>rw[e9,e8];exact F.cl9
 case yw=>rw[e11,e10,e8];exact F.yw
 case s9=>rw[e9];exact F.s9
 case s10=>rw[e10];exact F.s10
 case yx=>rw[e10];exact F.yx
 case vK=>rw[e10,e11];exact fun h10 h11=>fV (F.vK h10 h11) _
 case ze=>rw[e11];exact fun h11=>fV (F.ze h11) _
theorem RF.m7 (F:RF W7 g4 A A1 d ws c c1 t ℓ w u44 u45 u46 u47 u48 u49 u50 u51 u52 u53 u8 E V M A9 A2 c9 c2) (hne:∀ j,j≠7→ℓ' j=ℓ j) (hk1:ℓ' 7=true) (hk0:ℓ 7=false):RF W7 g4 A A1 d ws c c1 t ℓ' (w.alloc (.cells #[.int .i64 t.f0,.int .i64 t.f1,.int .i64 t.f2] 40)) u44 u45 u46 u47 u48 u49 u50 (.slice (some ⟨w.heap.size,0,none⟩) 1 1) u52 u53 u8 E w.heap.size M A9 A2 c9 c2:=by
 have e0:=hne 0 (by decide)
 have e1:=hne 1 (by decide)
 have e2:=hne 2 (by decide)
 have e3:=hne 3 (by decide)
 have e4:=hne 4 (by decide)
 have e5:=hne 5 (by decide)
 have e6:=hne 6 (by decide)
 have e8:=hne 8 (by decide)
 have e9:=hne 9 (by decide)
 have e10:=hne 10 (by decide)
 have e11:=hne 11 (by decide)
 have hsz:(w.alloc (.cells #[.int .i64 t.f0,.int .i64 t.f1,.int .i64 t.f2] 40)).heap.size=w.heap.size+1:=by simp
 have hbs:=aG F.bel
 constructor
 case bel=>exact bg F.bel _
 case s0=>rw[e0];exact F.s0
 case s1=>rw[e1];exact F.s1
 case s2=>rw[e2];exact F.s2
 case s2e=>rw[e2];exact fun h2=>⟨(F.s2e h2).1,by have:=(F.s2e h2).2;omega⟩
 case s2b=>rw[e2,e5];exact fun h2 h5=>fV (F.s2b h2 h5) _
 case s3=>rw[e3];exact F.s3
 case s4=>rw[e4];exact F.s4
 case s5=>rw[e5];exact F.s5
 case s5r=>rw[e5,e8];exact fun h5 h8=>Kd.qD (F.s5r h5 h8) _
 case s6=>rw[e6];exact F.s6
 case s7=>exact fun _=>rfl
 case s7v=>exact fun _=>by omega
 case s7b=>exact fun _ _=>qC w _
 case s27=>rw[e2];exact fun h2 _=>by have:=(F.s2e h2).2;omega
 case cl=>rw[e8,e5];exact F.cl
 case s8=>rw[e8];exact F.s8
 case s8r=>rw[e8];exact fun h8=>Kd.qD (F.s8r h8) _
 case cl9=>rw[e9,e8];exact F.cl9
 case yw=>rw[e11,e10,e8];exact F.yw
 case s9=>rw[e9];exact F.s9
 case s10=>rw[e10];exact F.s10
 case yx=>rw[e10];exact F.yx
 case vK=>rw[e10,e11];exact fun h10 h11=>fV (F.vK h10 h11) _
 case ze=>rw[e11];exact fun h11=>fV (F.ze h11) _
theorem RF.m10 (F:RF W7 g4 A A1 d ws c c1 t ℓ w u44 u45 u46 u47 u48 u49 u50 u51 u52 u53 u8 E V M A9 A2 c9 c2) (hne:∀ j,j≠10→ℓ' j=ℓ j) (hk1:ℓ' 10=true) (hk0:ℓ 10=false):RF W7 g4 A A1 d ws c c1 t ℓ' (w.alloc (.cells #[.slice none 0 0,.slice none 0 0] 27)) u44 u45 u46 u47 u48 u49 u50 u51 u52 u53 (.pointer (some ⟨w.heap.size,0,none⟩)) E V w.heap.size A9 A2 c9 c2:=by
 have e0:=hne 0 (by decide)
 have e1:=hne 1 (by decide)
 have e2:=hne 2 (by decide)
 have e3:=hne 3 (by decide)
 have e4:=hne 4 (by decide)
 have e5:=hne 5 (by decide)
 have e6:=hne 6 (by decide)
 have e7:=hne 7 (by decide)
 have e8:=hne 8 (by decide)
 have e9:=hne 9 (by decide)
 have e11:=hne 11 (by decide)
 have hsz:(w.alloc (.cells #[.slice none 0 0,.slice none 0 0] 27)).heap.size=w.heap.size+1:=by simp
 have hbs:=aG F.bel
 constructor
 case bel=>exact bg F.bel _
 case s0=>rw[e0];exact F.s0
 case s1=>rw[e1];exact F.s1
 case s2=>rw[e2];exact F.s2
 case s2e=>rw[e2];exact fun h2=>⟨(F.s2e h2).1,by have:=(F.s2e h2).2;omega⟩
 case s2b=>rw[e2,e5];exact fun h2 h5=>fV (F.s2b h2 h5) _
 case s3=>rw[e3];exact F.s3
 case s4=>rw[e4];exact F.s4
 case s5=>rw[e5];exact F.s5
 case s5r=>rw[e5,e8];exact fun h5 h8=>Kd.qD (F.s5r h5 h8) _
 case s6=>rw[e6];exact F.s6
 case s7=>rw[e7];exact F.s7
 case s7v=>rw[e7];exact fun h7=>by have:=F.s7v h7;omega
 case s7b=>rw[e7,e8];exact fun h7 h8=>fV (F.s7b h7 h8) _
 case s27=>rw[e2,e7];exact F.s27
 case cl=>rw[e8,e5];exact F.cl
 case s8=>rw[e8];exact F.s8
 case s8r=>rw[e8];exact fun h8=>Kd.qD (F.s8r h8) _
 case cl9=>rw[e9,e8];exact F.cl9
 case yw=>rw[e11,e8];exact fun h=>⟨hk1,(F.yw h).2⟩
 case s9=>rw[e9];exact F.s9
 case s10=>exact fun _=>rfl
 case yx=>exact fun _=>hbs
 case vK=>exact fun _ _=>qC w _
 case ze=>rw[e11];exact fun h11=>absurd (F.yw h11).1 (by rw[hk0];decide)
theorem RF.a5 (F:RF W7 g4 A A1 d ws c c1 t ℓ w u44 u45 u46 u47 u48 u49 u50 u51 u52 u53 u8 E V M A9 A2 c9 c2) (hne:∀ j,j≠5→ℓ' j=ℓ j) (hk1:ℓ' 5=true) (hk0:ℓ 5=false) (h2:ℓ 2=true) {A9':Option Addr} {c9':Nat} (hb:Below W7.heap.size W7 w') (hg:w.grownBy w' (some E)) (hsz:w.heap.size≤w'.heap.size) (hR:Kd.R k40 40 w' W7.heap.size (fun _=>True) (.slice A9' ws.length c9') ws):RF W7 g4 A A1 d ws c c1 t ℓ' w' u44 u45 u46 u47 u48 (.slice A9' ws.length c9') u50 u51 u52 u53 u8 E V M A9' A2 c9' c2:=by
 have e0:=hne 0 (by decide)
 have e1:=hne 1 (by decide)
 have e2:=hne 2 (by decide)
 have e3:=hne 3 (by decide)
 have e4:=hne 4 (by decide)
 have e6:=hne 6 (by decide)
 have e7:=hne 7 (by decide)
 have e8:=hne 8 (by decide)
 have e9:=hne 9 (by decide)
 have e10:=hne 10 (by decide)
 have e11:=hne 11 (by decide)
 constructor
 case bel=>exact hb
 case s0=>rw[e0];exact F.s0
 case s1=>rw[e1];exact F.s1
 case s2=>rw[e2];exact F.s2
 case s2e=>rw[e2];exact fun h=>⟨(F.s2e h).1,by have:=(F.s2e h).2;omega⟩
 case s2b=>exact fun _ h5=>absurd h5 (by rw[hk1];decide)
 case s3=>rw[e3];exact F.s3
 case s4=>rw[e4];exact F.s4
 case s5=>exact fun _=>rfl
 case s5r=>exact fun _ _=>hR
 case s6=>rw[e6];exact F.s6
 case s7=>rw[e7];exact F.s7
 case s7v=>rw[e7];exact fun h7=>by have:=F.s7v h7;omega
 case s7b=>rw[e7,e8];exact fun h7 h8=>dQ (F.s7b h7 h8) hg (fun e=>F.s27 h2 h7 (Option.some.inj e).symm)
 case s27=>rw[e2,e7];exact F.s27
 case cl=>exact fun _=>hk1
 case s8=>rw[e8];exact F.s8
 case s8r=>rw[e8];exact fun h8=>absurd (F.cl h8) (by rw[hk0];decide)
 case cl9=>rw[e9,e8];exact F.cl9
 case yw=>rw[e11,e10,e8];exact F.yw
 case s9=>rw[e9];exact F.s9
 case s10=>rw[e10];exact F.s10
 case yx=>rw[e10];exact F.yx
 case vK=>rw[e10,e11];exact fun h10 h11=>dQ (F.vK h10 h11) hg (fun e=>Sb (F.s2b h2 hk0) (F.vK h10 h11) (by decide) (Option.some.inj e))
 case ze=>rw[e11];exact fun h11=>dQ (F.ze h11) hg (fun e=>Sb (F.s2b h2 hk0) (F.ze h11) (by decide) (Option.some.inj e))
theorem RF.a8 (F:RF W7 g4 A A1 d ws c c1 t ℓ w u44 u45 u46 u47 u48 u49 u50 u51 u52 u53 u8 E V M A9 A2 c9 c2) (hne:∀ j,j≠8→ℓ' j=ℓ j) (hk1:ℓ' 8=true) (hk0:ℓ 8=false) (h5:ℓ 5=true) {A2':Option Addr} {c2':Nat} (hb:Below W7.heap.size W7 w') (hg:w.grownBy w' (Value.slice A9 ws.length c9).ownBlock) (hsz:w.heap.size≤w'.heap.size) (hR:Kd.R k40 40 w' W7.heap.size (fun _=>True) (.slice A2' (ws++[t]).length c2') (ws++[t])):RF W7 g4 A A1 d ws c c1 t ℓ' w' u44 u45 u46 u47 u48 u49 u50 u51 (.slice A2' (ws++[t]).length c2') u53 u8 E V M A9 A2' c9 c2':=by
 have e0:=hne 0 (by decide)
 have e1:=hne 1 (by decide)
 have e2:=hne 2 (by decide)
 have e3:=hne 3 (by decide)
 have e4:=hne 4 (by decide)
 have e5:=hne 5 (by decide)
 have e6:=hne 6 (by decide)
 have e7:=hne 7 (by decide)
 have e9:=hne 9 (by decide)
 have e10:=hne 10 (by decide)
 have e11:=hne 11 (by decide)
 constructor
 case bel=>exact hb
 case s0=>rw[e0];exact F.s0
 case s1=>rw[e1];exact F.s1
 case s2=>rw[e2];exact F.s2
 case s2e=>rw[e2];exact fun h=>⟨(F.s2e h).1,by have:=(F.s2e h).2;omega⟩
 case s2b=>rw[e5];exact fun _ q5=>absurd q5 (by rw[h5];decide)
 case s3=>rw[e3];exact F.s3
 case s4=>rw[e4];exact F.s4
 case s5=>rw[e5];exact F.s5
 case s5r=>exact fun _ h8=>absurd h8 (by rw[hk1];decide)
 case s6=>rw[e6];exact F.s6
 case s7=>rw[e7];exact F.s7
 case s7v=>rw[e7];exact fun h7=>by have:=F.s7v h7;omega
 case s7b=>exact fun _ h8=>absurd h8 (by rw[hk1];decide)
 case s27=>rw[e2,e7];exact F.s27
 case cl=>exact fun _=>by rw[e5];exact h5
 case s8=>exact fun _=>rfl
 case s8r=>exact fun _=>hR
 case cl9=>exact fun _=>hk1
 case yw=>rw[e11,e10];exact fun h=>⟨(F.yw h).1,hk1⟩
 case s9=>rw[e9];exact fun q=>absurd (F.cl9 q) (by rw[hk0];decide)
 case s10=>rw[e10];exact F.s10
 case yx=>rw[e10];exact F.yx
 case vK=>rw[e10,e11];exact fun q10 q11=>dQ (F.vK q10 q11) hg (RZ (F.s5r h5 hk0) (F.vK q10 q11) (by decide))
 case ze=>rw[e11];exact fun q=>absurd (F.yw q).2 (by rw[hk0];decide)
theorem RF.t11 (F:RF W7 g4 A A1 d ws c c1 t ℓ w u44 u45 u46 u47 u48 u49 u50 u51 u52 u53 u8 E V M A9 A2 c9 c2) (hne:∀ j,j≠11→ℓ' j=ℓ j) (hk1:ℓ' 11=true) (hk0:ℓ 11=false) (h5:ℓ 5=true) (h8:ℓ 8=true) (h10:ℓ 10=true):RF W7 g4 A A1 d ws c c1 t ℓ' ((w.setCell ⟨M,0,none⟩ (.slice A d.length c)).setCell ⟨M,1,none⟩ (.slice A2 (ws++[t]).length c2)) u44 u45 u46 u47 u48 u49 u50 u51 u52 u53 u8 E V M A9 A2 c9 c2:=by
 have e0:=hne 0 (by decide)
 have e1:=hne 1 (by decide)
 have e2:=hne 2 (by decide)
 have e3:=hne 3 (by decide)
 have e4:=hne 4 (by decide)
 have e5:=hne 5 (by decide)
 have e6:=hne 6 (by decide)
 have e7:=hne 7 (by decide)
 have e8:=hne 8 (by decide)
 have e9:=hne 9 (by decide)
 have e10:=hne 10 (by decide)
 constructor
 case bel=>exact(F.bel.setCell (p:=⟨M,0,none⟩) (F.yx h10) _).setCell (p:=⟨M,1,none⟩) (F.yx h10) _
 case s0=>rw[e0];exact F.s0
 case s1=>rw[e1];exact F.s1
 case s2=>rw[e2];exact F.s2
 case s2e=>rw[e2];exact fun h=>⟨(F.s2e h).1,by simpa using(F.s2e h).2⟩
 case s2b=>rw[e5];exact fun _ q=>absurd q (by rw[h5];decide)
 case s3=>rw[e3];exact F.s3
 case s4=>rw[e4];exact F.s4
 case s5=>rw[e5];exact F.s5
 case s5r=>rw[e8];exact fun _ q=>absurd q (by rw[h8];decide)
 case s6=>rw[e6];exact F.s6
 case s7=>rw[e7];exact F.s7
 case s7v=>rw[e7];exact fun h7=>by simpa using F.s7v h7
 case s7b=>rw[e8];exact fun _ q=>absurd q (by rw[h8];decide)
 case s27=>rw[e2,e7];exact F.s27
 case cl=>rw[e8,e5];exact F.cl
 case s8=>rw[e8];exact F.s8
 case s8r=>rw[e8];exact fun q=>afA (F.s8r q) (F.vK h10 hk0) (by decide) rfl _ _
 case cl9=>rw[e9,e8];exact F.cl9
 case yw=>rw[e10,e8];exact fun _=>⟨h10,h8⟩
 case s9=>rw[e9];exact F.s9
 case s10=>rw[e10];exact F.s10
 case yx=>rw[e10];exact F.yx
 case vK=>exact fun _ q=>absurd q (by rw[hk1];decide)
 case ze=>exact fun _=>Vm (F.vK h10 hk0) _ _
def nX (a:Array Value) (u44 u45 u46 u47 u48 u49 u50 u51 u52 u53 u8:Value):Array Value:=(((((((((((a.setIfInBounds 44 u44).setIfInBounds 45 u45).setIfInBounds 46 u46).setIfInBounds 47 u47).setIfInBounds 48 u48).setIfInBounds 49 u49).setIfInBounds 50 u50).setIfInBounds 51 u51).setIfInBounds 52 u52).setIfInBounds 53 u53).setIfInBounds 8 u8)
theorem Vo (a:Array Value) (i:Nat):a.setIfInBounds i (a.getD i undef)=a:=by
 apply Array.ext_getElem?
 intro j
 rw[Array.getElem?_setIfInBounds]
 by_cases h:i=j
 ·subst h
  rw[if_pos rfl]
  by_cases hi:i<a.size
  ·rw[if_pos hi,Array.getD_eq_getD_getElem?,Array.getElem?_eq_getElem hi];rfl
  rw[if_neg hi,Array.getElem?_eq_none (by omega)]
 rw[if_neg h]
theorem MZ (a:Array Value):nX a (a.getD 44 undef) (a.getD 45 undef) (a.getD 46 undef) (a.getD 47 undef) (a.getD 48 undef) (a.getD 49 undef) (a.getD 50 undef) (a.getD 51 undef) (a.getD 52 undef) (a.getD 53 undef) (a.getD 8 undef)=a:=by
 unfold nX
 simp only[Vo]
def RJ (W7:World) (g4:Nat) (A A1:Option Addr) (d:List Int) (ws:List S40) (c c1:Nat) (t:S40) (a0:Act) (L:Array Bool) (a:Act) (w:World):Prop:=L.size=12∧∃ (u44 u45 u46 u47 u48 u49 u50 u51 u52 u53 u8:Value) (E V M:Nat) (A9 A2:Option Addr) (c9 c2:Nat),a={ tmps:=nX a0.tmps u44 u45 u46 u47 u48 u49 u50 u51 u52 u53 u8,defers:=a0.defers }∧RF W7 g4 A A1 d ws c c1 t (fun j=>L.getD j false) w u44 u45 u46 u47 u48 u49 u50 u51 u52 u53 u8 E V M A9 A2 c9 c2
theorem Vp (a0:Act) (w:World) (hb:Below W7.heap.size W7 w):RJ W7 g4 A A1 d ws c c1 t a0 (Array.replicate 12 false) a0 w:=by
 refine⟨by simp,a0.tmps.getD 44 undef,a0.tmps.getD 45 undef,a0.tmps.getD 46 undef,a0.tmps.getD 47 undef,a0.tmps.getD 48 undef,a0.tmps.getD 49 undef,a0.tmps.getD 50 undef,a0.tmps.getD 51 undef,a0.tmps.getD 52 undef,a0.tmps.getD 53 undef,a0.tmps.getD 8 undef,0,0,0,none,none,0,0,by rw[MZ],?_⟩
 have e:∀ j,(Array.replicate 12 false).getD j false=false:=getD_replicate_false 12
 constructor
 case bel=>exact hb
 case s0=>exact fun h=>absurd h zf
 case s1=>exact fun h=>absurd h zf
 case s2=>exact fun h=>absurd h zf
 case s2e=>exact fun h=>absurd h zf
 case s2b=>exact fun h=>absurd h zf
 case s3=>exact fun h=>absurd h zf
 case s4=>exact fun h=>absurd h zf
 case s5=>exact fun h=>absurd h zf
 case s5r=>exact fun h=>absurd h zf
 case s6=>exact fun h=>absurd h zf
 case s7=>exact fun h=>absurd h zf
 case s7v=>exact fun h=>absurd h zf
 case s7b=>exact fun h=>absurd h zf
 case s27=>exact fun h=>absurd h zf
 case cl=>exact fun h=>absurd h zf
 case s8=>exact fun h=>absurd h zf
 case s8r=>exact fun h=>absurd h zf
 case cl9=>exact fun h=>absurd h zf
 case yw=>exact fun h=>absurd h zf
 case s9=>exact fun h=>absurd h zf
 case s10=>exact fun h=>absurd h zf
 case yx=>exact fun h=>absurd h zf
 case vK=>exact fun h=>absurd h zf
 case ze=>exact fun h=>absurd h zf
theorem Vq {L:Array Bool} {k:Nat} (h:L.getD k true=false):(∀ j,j≠k→(fun j=>(L.setIfInBounds k true).getD j false) j=(fun j=>L.getD j false) j)∧(fun j=>(L.setIfInBounds k true).getD j false) k=true∧(fun j=>L.getD j false) k=false:=by
 have hlt:k<L.size:=by
  rcases Nat.lt_or_ge k L.size with h'|h'
  ·exact h'
  rw[Array.getD_eq_getD_getElem?,Array.getElem?_eq_none h']at h;cases h
 refine⟨fun j hj=>getD_set_ne false (Ne.symm hj),?_,?_⟩
 ·show (L.setIfInBounds k true).getD k false=true
  rw[Array.getD_eq_getD_getElem?,Array.getElem?_setIfInBounds_self_of_lt hlt];rfl
 show L.getD k false=false
 rw[Array.getD_eq_getD_getElem?,Array.getElem?_eq_getElem hlt]at h ⊢
 exact h
theorem rZ {P:Program} {ops:Array Oper} {Q:Exit→Act→World→Prop} {i:Nat} {J:Act→World→Prop} {a:Act} {w:World} {o:Oper} (ho:ops[i]?=some o)
  (h:∀ K:Act→World→Prop,(∀ a w,J a w→K a w)→(if Region.wanted o (yielded ops a.tmps)=true then o.wp P a w K Q else K (a.put o.dst undef) w)):wpOp P ops Q i J a w:=by
 have:=h J (fun _ _ h=>h)
 unfold wpOp
 rw[ho]
 by_cases hw:Region.wanted o (yielded ops a.tmps)=true
 ·rw[if_pos hw]at this
  simp only[hw,if_true]
  exact .inl this
 ·rw[if_neg hw]at this
  simp only[hw]
  exact this
/-- Where nothing is ready, all has come up. -/
theorem afB {ops:Array Oper} {L:Array Bool} (hs:L.size=ops.size) (hB:((List.range ops.size).all fun i=>match ops[i]? with|some o=>o.after.all fun e=> !Region.binds .any e||decide (e.on<i)|none=>false)=true) (hr:Region.ready .any ops L=[]):∀ i,i<ops.size→L.getD i false=true:=by
 intro i
 induction i using Nat.strongRecOn with
 |_ i ih=>
  intro hi
  cases hL:L.getD i false with
  |true=>rfl
  |false=>
   exfalso
   have h1:=List.all_eq_true.mp hB i (List.mem_range.mpr hi)
   have hm:i∈Region.ready .any ops L:=by
    rw[mem_ready]
    refine⟨getD_in (by omega) hL,ops[i],Array.getElem?_eq_getElem hi,fun e he hb=>?_⟩
    rw[Array.getElem?_eq_getElem hi]at h1
    have h2:=Array.all_eq_true'.mp h1 e he
    rw[hb]at h2
    have h3:e.on<i:=by simpa using h2
    exact ih e.on h3 (by omega)
   rw[hr]at hm;cases hm
end Go.Proofs.YtalkmhnlgfncmaaGreatDoor.X
end
section
namespace Go.Proofs.YtalkmhnlgfncmaaGreatDoor.X
open Go.RowKit Go.Proofs.YtalkmhnlgfncmaaGreatDoorW.aC Go.Proofs.YtalkmhnlgfncmaaGreatDoorW.aN Go.Proofs.YtalkmhnlgfncmaaGreatDoorW.aT
attribute [local go_sem] fq fu gJ gK dN dO fA fB
/-- A state of type 72 at block g of W; what its slices lead to came in by w0. -/
def iA (w0 W:World) (g:Nat) (f0:List Int) (f1:Int) (f2:Int):Prop:=∃ A0 c0,W.heap[g]?=some (.cells #[.slice A0 f0.length c0,.int .i64 f1,.int .u64 f2] 72 (0,0))∧w0.heap.size≤g∧Kd.C (Kd.int .u8) w0 A0 f0.length f0
theorem iA.grown {w0 W:World} {g:Nat} {f0:List Int} {f1:Int} {f2:Int} {W1:World} {row:Option Nat} (h:iA w0 W g f0 f1 f2) (hw:W.grownBy W1 row) (hne:some g≠row):iA w0 W1 g f0 f1 f2:=by
 obtain⟨A0,c0,hb,hg,hr0⟩:=h
 exact⟨A0,c0,dQ hb hw hne,hg,hr0⟩
theorem iA.fresh {w0 W:World} {g:Nat} {f0:List Int} {f1:Int} {f2:Int} (h:iA w0 W g f0 f1 f2):∀ k,W.heap.size≤k→k≠g:=by
 obtain⟨A0,c0,hb,hg,hr0⟩:=h
 exact Kd.FX hb
theorem iA.kept {w0 W:World} {g:Nat} {f0:List Int} {f1:Int} {f2:Int} {W1:World} {S:Nat→Prop} (h:iA w0 W g f0 f1 f2) (hk:Kept W W1 S) (hne:¬S g):iA w0 W1 g f0 f1 f2:=by
 obtain⟨A0,c0,hb,hg,hr0⟩:=h
 exact⟨A0,c0,uN hb hk hne,hg,hr0⟩
theorem iA.below {w0 W:World} {g:Nat} {f0:List Int} {f1:Int} {f2:Int} {W1:World} (h:iA w0 W g f0 f1 f2) (hw:Below W.heap.size W W1):iA w0 W1 g f0 f1 f2:=h.grown (oD hw none) (by simp)
theorem iA.alloc {w0 W:World} {g:Nat} {f0:List Int} {f1:Int} {f2:Int} (h:iA w0 W g f0 f1 f2) (o:Obj):iA w0 (W.alloc o) g f0 f1 f2:=h.below (bg (Below.refl _ _) o)
theorem iA.drewN {w0 W:World} {g:Nat} {f0:List Int} {f1:Int} {f2:Int} (h:iA w0 W g f0 f1 f2) (m:Nat):iA w0 (W.drewN m) g f0 f1 f2:=h
theorem iA.drew {w0 W:World} {g:Nat} {f0:List Int} {f1:Int} {f2:Int} (h:iA w0 W g f0 f1 f2):iA w0 W.drew g f0 f1 f2:=h
theorem iA.at_ {w0 W:World} {g:Nat} {f0:List Int} {f1:Int} {f2:Int} {w':World} {m:Nat} (hq:W.drewN m=w') (h:iA w0 W g f0 f1 f2):iA w0 w' g f0 f1 f2:=by subst hq;exact iA.drewN h m
theorem iA.apart {w0 W:World} {g:Nat} {f0:List Int} {f1:Int} {f2:Int} {α:Type} {d:Kd α} {e:Nat} {base:Nat} {ok:Nat→Prop} {v:Value} {xs:List α} (h:iA w0 W g f0 f1 f2) (ho:d.R e W base ok v xs) (ht:∀ q,q∈e::d.E→q≠72):d.R e W base (fun k=>ok k∧k≠g) v xs:=by
 obtain⟨A0,c0,hb,hg,hr0⟩:=h
 exact Kd.cO ho hb ht
theorem iA.own_ne {w0 W:World} {g:Nat} {f0:List Int} {f1:Int} {f2:Int} {α:Type} {d:Kd α} {e:Nat} {base:Nat} {ok:Nat→Prop} {v:Value} {xs:List α} (h:iA w0 W g f0 f1 f2) (ho:d.R e W base ok v xs) (ht:e≠72):some g≠v.ownBlock:=by
 obtain⟨A0,c0,hb,hg,hr0⟩:=h
 exact Kd.wT ho hb ht
theorem iA.lt {w0 W:World} {g:Nat} {f0:List Int} {f1:Int} {f2:Int} (h:iA w0 W g f0 f1 f2):g<W.heap.size:=by
 obtain⟨A0,c0,hb,hg,hr0⟩:=h
 exact gD hb
theorem iA.ge {w0 W:World} {g:Nat} {f0:List Int} {f1:Int} {f2:Int} (h:iA w0 W g f0 f1 f2):w0.heap.size≤g:=by
 obtain⟨A0,c0,hb,hg,hr0⟩:=h
 exact hg
theorem iA.zU {w0 W:World} {g:Nat} {f0:List Int} {f1:Int} {f2:Int} {a:Nat} {cs:Array Value} {t:TypeId} {fr:Nat×Nat} (h:iA w0 W g f0 f1 f2) (hb2:W.heap[a]?=some (.cells cs t fr)) (ht:t≠72):g≠a:=by
 obtain⟨A0,c0,hb,hg,hr0⟩:=h
 rintro rfl
 rw[hb]at hb2
 injection hb2 with hb2
 injection hb2 with _ ht2
 exact ht ht2.symm
theorem iA.far {w0 W:World} {g:Nat} {f0:List Int} {f1:Int} {f2:Int} {p:Addr} (h:iA w0 W g f0 f1 f2) (hne:g≠p.block) (u:Value):iA w0 (W.setCell p u) g f0 f1 f2:=by
 obtain⟨A0,c0,hb,hg,hr0⟩:=h
 exact⟨A0,c0,dJ hb hne u,hg,hr0⟩
theorem Bz {W:World} {g:Nat} {A0:Option Addr} {c0:Nat} {f0:List Int} {f1:Int} {f2:Int} (h:W.heap[g]?=some (.cells #[.slice A0 f0.length c0,.int .i64 f1,.int .u64 f2] 72 (0,0))):W.cell? ⟨g,0,none⟩=some (.slice A0 f0.length c0):=(aj h 0).trans rfl
theorem BA {W:World} {g:Nat} {A0:Option Addr} {c0:Nat} {f0:List Int} {f1:Int} {f2:Int} (h:W.heap[g]?=some (.cells #[.slice A0 f0.length c0,.int .i64 f1,.int .u64 f2] 72 (0,0))):W.cell? ⟨g,1,none⟩=some (.int .i64 f1):=(aj h 1).trans rfl
theorem iA.ams {w0 W:World} {g:Nat} {f0:List Int} {f1:Int} {f2:Int} (h:iA w0 W g f0 f1 f2) (x:Int):iA w0 (W.setCell ⟨g,1,none⟩ (.int .i64 x)) g f0 x f2:=by
 obtain⟨A0,c0,hb,hg,hr0⟩:=h
 exact⟨A0,c0,by simpa using Ir hb 1 (.int .i64 x),hg,hr0⟩
theorem BD {W:World} {g:Nat} {A0:Option Addr} {c0:Nat} {f0:List Int} {f1:Int} {f2:Int} (h:W.heap[g]?=some (.cells #[.slice A0 f0.length c0,.int .i64 f1,.int .u64 f2] 72 (0,0))):W.cell? ⟨g,2,none⟩=some (.int .u64 f2):=(aj h 2).trans rfl
theorem iA.amt {w0 W:World} {g:Nat} {f0:List Int} {f1:Int} {f2:Int} (h:iA w0 W g f0 f1 f2) (x:Int):iA w0 (W.setCell ⟨g,2,none⟩ (.int .u64 x)) g f0 f1 x:=by
 obtain⟨A0,c0,hb,hg,hr0⟩:=h
 exact⟨A0,c0,by simpa using Ir hb 2 (.int .u64 x),hg,hr0⟩
theorem iA.new (w0 W:World) (A0:Option Addr) (c0:Nat) (f0:List Int) (f1:Int) (f2:Int) (hB:Below w0.heap.size w0 W) (hr0:Kd.C (Kd.int .u8) w0 A0 f0.length f0):iA w0 (W.alloc (.cells #[.slice A0 f0.length c0,.int .i64 f1,.int .u64 f2] 72)) W.heap.size f0 f1 f2:=⟨A0,c0,by simpa using heap_alloc_new W _,hB.size,hr0⟩
/-! ### spec_l00From: function 16 -/
def qB.f (l0:List Int):Option (List Int×Int×Int):=some (l0,0,0)
set_option maxHeartbeats 8000000 in
set_option maxRecDepth 100000 in
theorem qB.calls (A0:Option Addr) (c0:Nat) (l0:List Int) (r1:List Int) (r2:Int) (r3:Int) (w0 w:World) (hB:Below w0.heap.size w0 w) (hr0:Kd.C (Kd.int .u8) w0 A0 l0.length l0) (hc0:l0.length≤c0) (h:qB.f l0=some (r1,r2,r3)):
  Calls Tryz.prog 16 #[.slice A0 l0.length c0] w fun e w'=>∃ g_:Nat,e= .returned (.pointer (some ⟨g_,0,none⟩))∧iA w0 w' g_ r1 r2 r3∧Below w0.heap.size w0 w'∧Below w.heap.size w w':=by
 have avW:=Tryz.underlying72
 have HR0:=ah.mk hr0
 have HC0:=ah.mk hc0
 clear hr0 hc0
 have HBW:=ah.mk (Below.refl w.heap.size w)
 have HW0:=ah.mk hB.size
 have HB:=ah.mk hB
 clear hB
 have H:(some (l0,0,0))=some (r1,r2,r3):=h
 clear h
 simp only[Option.some.injEq,Prod.mk.injEq]at H
 obtain⟨rfl,rfl,rfl⟩:=H
 go_enter Tryz.func16,Tryz.ntmps16
 go_wp2_with (first|((with_reducible refine aH (N:=5) rfl ?_);refine qbx (N:=5) (cs:=#[.slice A0 l0.length c0,.int .i64 0,.int .u64 0]) (t:=72) ?_;intro Vr hg w2 bR hb;replace HB:=ah.mk (av (qz0 HB) hb);have amu:=ah.mk (bR);have amv:=ah.mk ((mK HBW:w.heap.size≤Vr));have afC:=ah.mk ((Nat.le_trans HW0.out (mK HBW:w.heap.size≤Vr):w0.heap.size≤Vr));replace HBW:=ah.mk (av HBW.out hb);clear hb bR hg))
 go_ret
 exact⟨_,rfl,(show iA w0 _ Vr l0 0 0 from⟨_,_,dP amu,afC.out,HR0.out⟩),qz4 HB afC,qz4 HBW amv⟩
end Go.Proofs.YtalkmhnlgfncmaaGreatDoor.X
end
section
namespace Go.Proofs.YtalkmhnlgfncmaaGreatDoor.X
open Go.RowKit Go.Proofs.YtalkmhnlgfncmaaGreatDoorW.aC Go.Proofs.YtalkmhnlgfncmaaGreatDoorW.aN Go.Proofs.YtalkmhnlgfncmaaGreatDoorW.aT
attribute [local go_sem] fq fu gJ gK dN dO fA fB
/-! ### spec_l00Src_next: function 60 -/
def fU.f (dX:List Int) (bH:Int) (BF:Int):Option (Int×Int×Int):=if bH<(dX.length:Int)then(if 0≤bH then(if (wrap64 (bH+1))≤(dX.length:Int)then(some (wrap64 (rd dX bH),wrap64 (bH+1),IntKind.u64.wrap ((IntKind.u64.wrap ((IntKind.u64.wrap (BF*6364136223846793005))+(IntKind.u64.wrap (wrap64 (rd dX bH)))))+1442695040888963407)))else(some (wrap64 (Go.bits .and .u64 ((IntKind.u64.wrap ((IntKind.u64.wrap ((IntKind.u64.wrap (BF*6364136223846793005))+(IntKind.u64.wrap (wrap64 (rd dX bH)))))+1442695040888963407)) / 1099511627776) 255),wrap64 (bH+1),IntKind.u64.wrap ((IntKind.u64.wrap ((IntKind.u64.wrap (BF*6364136223846793005))+(IntKind.u64.wrap (wrap64 (rd dX bH)))))+1442695040888963407))))else(none))else(if (wrap64 (bH+1))≤(dX.length:Int)then(none)else(some (wrap64 (Go.bits .and .u64 ((IntKind.u64.wrap ((IntKind.u64.wrap (IntKind.u64.wrap (BF*6364136223846793005)))+1442695040888963407)) / 1099511627776) 255),wrap64 (bH+1),IntKind.u64.wrap ((IntKind.u64.wrap (IntKind.u64.wrap (BF*6364136223846793005)))+1442695040888963407))))
set_option maxHeartbeats 8000000 in
set_option maxRecDepth 100000 in
theorem fU.calls (g:Nat) (dX:List Int) (bH:Int) (BF:Int) (r1:Int) (r2:Int) (r3:Int) (w0 w:World) (hI:iA w0 w g dX bH BF) (hB:Below w0.heap.size w0 w) (h:fU.f dX bH BF=some (r1,r2,r3)):
  Calls Tryz.prog 60 #[.pointer (some ⟨g,0,none⟩)] w fun e w'=>e= .returned (.int .i64 r1)∧iA w0 w' g dX r2 r3∧Below w0.heap.size w0 w'∧aI w w' g none:=by
 have HI0:=ah.mk hI
 have HK:=ah.mk (aI.refl w g none)
 have HL:=ah.mk hB.size
 clear hI
 have HW0:=ah.mk hB.size
 have HB:=ah.mk hB
 clear hB
 have H:(if bH<(dX.length:Int)then(if 0≤bH then(if (wrap64 (bH+1))≤(dX.length:Int)then(some (wrap64 (rd dX bH),wrap64 (bH+1),IntKind.u64.wrap ((IntKind.u64.wrap ((IntKind.u64.wrap (BF*6364136223846793005))+(IntKind.u64.wrap (wrap64 (rd dX bH)))))+1442695040888963407)))else(some (wrap64 (Go.bits .and .u64 ((IntKind.u64.wrap ((IntKind.u64.wrap ((IntKind.u64.wrap (BF*6364136223846793005))+(IntKind.u64.wrap (wrap64 (rd dX bH)))))+1442695040888963407)) / 1099511627776) 255),wrap64 (bH+1),IntKind.u64.wrap ((IntKind.u64.wrap ((IntKind.u64.wrap (BF*6364136223846793005))+(IntKind.u64.wrap (wrap64 (rd dX bH)))))+1442695040888963407))))else(none))else(if (wrap64 (bH+1))≤(dX.length:Int)then(none)else(some (wrap64 (Go.bits .and .u64 ((IntKind.u64.wrap ((IntKind.u64.wrap (IntKind.u64.wrap (BF*6364136223846793005)))+1442695040888963407)) / 1099511627776) 255),wrap64 (bH+1),IntKind.u64.wrap ((IntKind.u64.wrap (IntKind.u64.wrap (BF*6364136223846793005)))+1442695040888963407)))))=some (r1,r2,r3):=h
 clear h
 by_cases c2:bH<(dX.length:Int)
 ·rw[if_pos c2]at H
  have ajd:decide (bH<(dX.length:Int))=true:=decide_eq_true c2
  clear c2
  by_cases c3:0≤bH
  ·rw[if_pos c3]at H
   have Cy:decide (0≤bH)=true:=decide_eq_true c3
   clear c3
   by_cases c4:(wrap64 (bH+1))≤(dX.length:Int)
   ·rw[if_pos c4]at H
    have Il:decide ((wrap64 (bH+1))≤(dX.length:Int))=true:=decide_eq_true c4
    clear c4
    simp only[Option.some.injEq,Prod.mk.injEq]at H
    obtain⟨rfl,rfl,rfl⟩:=H
    obtain⟨WG,WH,Tn,ajV,Qa⟩:=HI0.out
    have GJ:=Bz Tn
    have GK:=BA Tn
    have aoJ:=BD Tn
    have Rj:=ak Tn 1
    have aoK:=ak Tn 2
    clear Tn ajV
    have aa3:0≤(bH:Int):=of_decide_eq_true gN
    have aa4:bH<(dX.length:Int):=of_decide_eq_true gN
    obtain⟨amw,e152,BH⟩:=Kd.iC Qa bH aa3 aa4
    cases e152
    replace BH:=aV HB.out BH
    replace aa3:=eq_true aa3
    replace aa4:=eq_true aa4
    go_enter Tryz.func60,Tryz.ntmps60
    go_wp2
    repeat(go_quiet (fail);try go_wp2)
    go_ret
    exact⟨qz7,Vs HI0,Vt HB HI0,mM HK⟩
   rw[if_neg c4]at H
   have Il:decide ((wrap64 (bH+1))≤(dX.length:Int))=false:=decide_eq_false c4
   clear c4
   simp only[Option.some.injEq,Prod.mk.injEq]at H
   obtain⟨rfl,rfl,rfl⟩:=H
   obtain⟨Wj,Wm,KW,ady,OA⟩:=HI0.out
   have vZ:=Bz KW
   have wh:=BA KW
   have aoL:=BD KW
   have adX:=ak KW 1
   have aoM:=ak KW 2
   clear KW ady
   have aa3:0≤(bH:Int):=of_decide_eq_true gN
   have aa4:bH<(dX.length:Int):=of_decide_eq_true gN
   obtain⟨amw,e152,BH⟩:=Kd.iC OA bH aa3 aa4
   cases e152
   replace BH:=aV HB.out BH
   replace aa3:=eq_true aa3
   replace aa4:=eq_true aa4
   go_enter Tryz.func60,Tryz.ntmps60
   go_wp2
   repeat(go_quiet (fail);try go_wp2)
   go_ret
   exact⟨qz7,Vs HI0,Vt HB HI0,mM HK⟩
  rw[if_neg c3]at H
  exact absurd H (by simp)
 ·rw[if_neg c2]at H
  have ajd:decide (bH<(dX.length:Int))=false:=decide_eq_false c2
  clear c2
  by_cases c7:(wrap64 (bH+1))≤(dX.length:Int)
  ·rw[if_pos c7]at H
   exact absurd H (by simp)
  rw[if_neg c7]at H
  have aah:decide ((wrap64 (bH+1))≤(dX.length:Int))=false:=decide_eq_false c7
  clear c7
  simp only[Option.some.injEq,Prod.mk.injEq]at H
  obtain⟨rfl,rfl,rfl⟩:=H
  obtain⟨aoN,aoO,acp,as1,aoP⟩:=HI0.out
  have VT:=Bz acp
  have VU:=BA acp
  have ac3:=BD acp
  have VW:=ak acp 1
  have ac5:=ak acp 2
  clear acp as1
  go_enter Tryz.func60,Tryz.ntmps60
  go_wp2
  repeat(go_quiet (fail);try go_wp2)
  go_ret
  exact⟨qz7,Vs HI0,Vt HB HI0,mM HK⟩
end Go.Proofs.YtalkmhnlgfncmaaGreatDoor.X
end
section
namespace Go.Proofs.YtalkmhnlgfncmaaGreatDoor.X
open Go.RowKit Go.Proofs.YtalkmhnlgfncmaaGreatDoorW.aC Go.Proofs.YtalkmhnlgfncmaaGreatDoorW.aN Go.Proofs.YtalkmhnlgfncmaaGreatDoorW.aT
attribute [local go_sem] fq fu gJ gK dN dO fA fB
/-! ### spec_l00Src_pick: function 34 -/
def dI.f (dX:List Int) (bH:Int) (BF:Int) (a1:Int):Option (Int×Int×Int):=if a1≤1 then(some (0,bH,BF))else((fU.f dX bH BF).bind fun xQ=>(if a1>200 then((fU.f dX xQ.2.1 xQ.2.2).bind fun KF=>(if a1=0 then(none)else(some (Int.tmod (wrap64 ((wrap64 (xQ.1*256))+KF.1)) a1,KF.2.1,KF.2.2))))else(if a1=0 then(none)else(some (Int.tmod xQ.1 a1,xQ.2.1,xQ.2.2)))))
set_option maxHeartbeats 8000000 in
set_option maxRecDepth 100000 in
theorem dI.calls (g:Nat) (dX:List Int) (bH:Int) (BF:Int) (a1:Int) (r1:Int) (r2:Int) (r3:Int) (w0 w:World) (hI:iA w0 w g dX bH BF) (hB:Below w0.heap.size w0 w) (h:dI.f dX bH BF a1=some (r1,r2,r3)):
  Calls Tryz.prog 34 #[.pointer (some ⟨g,0,none⟩),.int .i64 a1] w fun e w'=>e= .returned (.int .i64 r1)∧iA w0 w' g dX r2 r3∧Below w0.heap.size w0 w'∧aI w w' g none:=by
 have HI0:=ah.mk hI
 have HK:=ah.mk (aI.refl w g none)
 have HL:=ah.mk hB.size
 clear hI
 have HW0:=ah.mk hB.size
 have HB:=ah.mk hB
 clear hB
 have H:(if a1≤1 then(some (0,bH,BF))else((fU.f dX bH BF).bind fun xQ=>(if a1>200 then((fU.f dX xQ.2.1 xQ.2.2).bind fun KF=>(if a1=0 then(none)else(some (Int.tmod (wrap64 ((wrap64 (xQ.1*256))+KF.1)) a1,KF.2.1,KF.2.2))))else(if a1=0 then(none)else(some (Int.tmod xQ.1 a1,xQ.2.1,xQ.2.2))))))=some (r1,r2,r3):=h
 clear h
 by_cases c3:a1≤1
 ·rw[if_pos c3]at H
  have Cy:decide (a1≤1)=true:=decide_eq_true c3
  clear c3
  simp only[Option.some.injEq,Prod.mk.injEq]at H
  obtain⟨rfl,rfl,rfl⟩:=H
  go_enter Tryz.func34,Tryz.ntmps34
  go_wp2
  go_ret
  exact⟨qz7,Vs HI0,Vt HB HI0,mM HK⟩
 ·rw[if_neg c3]at H
  have Cy:decide (a1≤1)=false:=decide_eq_false c3
  clear c3
  obtain⟨⟨aoQ,t154,amx⟩,A40,H⟩:=Option.bind_eq_some_iff.mp H
  try dsimp only at H
  have A4:=ah.mk A40
  clear A40
  by_cases c5:a1>200
  ·rw[if_pos c5]at H
   have Cx:decide (200<a1)=true:=decide_eq_true c5
   clear c5
   obtain⟨⟨t156,t157,as2⟩,A60,H⟩:=Option.bind_eq_some_iff.mp H
   try dsimp only at H
   have A6:=ah.mk A60
   clear A60
   by_cases c7:a1=0
   ·rw[if_pos c7]at H
    exact absurd H (by simp)
   rw[if_neg c7]at H
   have aah:(a1==0)=false:=beq_eq_false_iff_ne.mpr c7
   have avX:(a1 !=0)=true:=bne_iff_ne.mpr c7
   simp only[Option.some.injEq,Prod.mk.injEq]at H
   obtain⟨rfl,rfl,rfl⟩:=H
   go_enter Tryz.func34,Tryz.ntmps34
   go_wp2_with (first|((with_reducible refine aK (f:=60) rfl ?_);refine dH (some 9) rfl rfl Tryz.func60 qz9 rfl #[.pointer (some ⟨g,0,none⟩)] rfl jh ?_;(with_reducible refine(fU.calls g dX bH BF aoQ t154 amx w0 _ ?bT ?bU A4.out).mono ?_);(case bT=>exact Vs HI0);(case bU=>exact Vt HB HI0);rintro e w8 ⟨rfl,hi,hb,hk⟩;refine⟨_,rfl,?_⟩;replace HK:=ah.mk (aI.trans (mM HK) hk (.inl rfl));replace HB:=ah.mk (hb);replace HI0:=ah.mk (hi);(try clear hb);(try clear hb2);(try clear hk);(try clear hi))|((with_reducible refine aK (f:=60) rfl ?_);refine dH (some 15) rfl rfl Tryz.func60 qz9 rfl #[.pointer (some ⟨g,0,none⟩)] rfl jh ?_;(with_reducible refine(fU.calls g dX t154 amx t156 t157 as2 w0 _ ?bT ?bU A6.out).mono ?_);(case bT=>exact Vs HI0);(case bU=>exact Vt HB HI0);rintro e w9 ⟨rfl,hi,hb,hk⟩;refine⟨_,rfl,?_⟩;replace HK:=ah.mk (aI.trans (mM HK) hk (.inl rfl));replace HB:=ah.mk (hb);replace HI0:=ah.mk (hi);(try clear hb);(try clear hb2);(try clear hk);(try clear hi)))
   go_ret
   exact⟨qz7,Vs HI0,Vt HB HI0,mM HK⟩
  rw[if_neg c5]at H
  have Cx:decide (200<a1)=false:=decide_eq_false c5
  clear c5
  by_cases c10:a1=0
  ·rw[if_pos c10]at H
   exact absurd H (by simp)
  rw[if_neg c10]at H
  have XZ:(a1==0)=false:=beq_eq_false_iff_ne.mpr c10
  have as3:(a1 !=0)=true:=bne_iff_ne.mpr c10
  simp only[Option.some.injEq,Prod.mk.injEq]at H
  obtain⟨rfl,rfl,rfl⟩:=H
  go_enter Tryz.func34,Tryz.ntmps34
  go_wp2_with (first|((with_reducible refine aK (f:=60) rfl ?_);refine dH (some 9) rfl rfl Tryz.func60 qz9 rfl #[.pointer (some ⟨g,0,none⟩)] rfl jh ?_;(with_reducible refine(fU.calls g dX bH BF aoQ t154 amx w0 _ ?bT ?bU A4.out).mono ?_);(case bT=>exact Vs HI0);(case bU=>exact Vt HB HI0);rintro e w11 ⟨rfl,hi,hb,hk⟩;refine⟨_,rfl,?_⟩;replace HK:=ah.mk (aI.trans (mM HK) hk (.inl rfl));replace HB:=ah.mk (hb);replace HI0:=ah.mk (hi);(try clear hb);(try clear hb2);(try clear hk);(try clear hi)))
  go_ret
  exact⟨qz7,Vs HI0,Vt HB HI0,mM HK⟩
end Go.Proofs.YtalkmhnlgfncmaaGreatDoor.X
end
section
/- The reference's l08DrawOk: a drawn flow. Conditions: as the definitions say. -/
namespace Go.Proofs.YtalkmhnlgfncmaaGreatDoor.X
open Go.RowKit Go.Proofs.YtalkmhnlgfncmaaGreatDoorW.aC Go.Proofs.YtalkmhnlgfncmaaGreatDoorW.aN Go.Proofs.YtalkmhnlgfncmaaGreatDoorW.aT
/-- The delays, drawn one by one. -/
def yA (code:List Int) (n:Int):Nat→Nat→List Int→Int→Int→Option (List Int×Int×Int)
 |0,_,_,_,_=>none
 |e+1,v,d,a,s=>if (v:Int)<n then(if v<1000000∧d.length<1000000 then(dI.f code a s 9).bind fun p=>yA code n e (v+1) (d++[p.1]) p.2.1 p.2.2 else none)else some (d,a,s)
/-- The wires, drawn one by one; those that make a ring are left out. -/
def wO (K:Nat) (code:List Int) (n:Int) (d:List Int):Nat→List S40→Int→Int→Option (List S40)
 |0,ws,_,_=>some ws
 |e+1,ws,a,s=>if ws.length<1000000 then(dI.f code a s n).bind fun p=>(dI.f code p.2.1 p.2.2 n).bind fun q=>(dI.f code q.2.1 q.2.2 3).bind fun r=>
  (bN.f K d (ws++[⟨p.1,q.1,r.1⟩])).bind fun b=>wO K code n d e (if b=true then ws++[⟨p.1,q.1,r.1⟩]else ws) r.2.1 r.2.2 else none
def Ic (K:Nat) (code:List Int) (a s:Int):Option (List Int×List S40):=
 (dI.f code a s 5).bind fun p=>(yA code (wrap64 (1+p.1)) K 0 [] p.2.1 p.2.2).bind fun q=>(dI.f code q.2.1 q.2.2 9).bind fun r=>if 0≤r.1∧r.1≤1000000 then(wO K code (wrap64 (1+p.1)) q.1 r.1.toNat [] r.2.1 r.2.2).bind fun ws=>some (q.1,ws)else none
/-- What the boxes hold. -/
structure DrW (w0 we:World) (code:List Int) (g g2 g4:Nat) (a s:Int) (d:List Int) (ws:List S40) (w:World):Prop where
 I:iA w0 w g code a s
 bel:Below w0.heap.size w0 w
 kb:aI we w g none
 b4:∃ A c A1 c1,w.heap[g4]?=some (.cells #[.slice A d.length c,.slice A1 ws.length c1] 27 (0,0))∧Kd.R (Kd.int .i64) 2 w we.heap.size (fun k=>k≠g∧k≠g4) (.slice A d.length c) d∧Kd.R k40 40 w we.heap.size (fun k=>k≠g∧k≠g4) (.slice A1 ws.length c1) ws
 h4:we.heap.size≤g4
 ne:g4≠g
 b2:w.heap[g2]?=some (.cells #[.slice none 0 0,.slice none 0 0] 27 (0,0))
 h2:we.heap.size≤g2
 ne2:g2≠g
 aa5:g2≠g4
 h0:w0.heap.size≤we.heap.size
variable {w0 we w w1:World} {code:List Int} {g g2 g4:Nat} {a s:Int} {d:List Int} {ws:List S40}
theorem DrW.move (h:DrW w0 we code g g2 g4 a s d ws w) (hb:Below w.heap.size w w1):DrW w0 we code g g2 g4 a s d ws w1:=by
 obtain⟨A,c,A1,c1,q1,q2,q3⟩:=h.b4
 exact⟨h.I.below hb,av h.bel hb,h.kb.trans (aI.of_below hb g none) (.inl rfl),⟨A,c,A1,c1,aA q1 hb,Kd.aM q2 hb,Kd.aM q3 hb⟩,h.h4,h.ne,aA h.b2 hb,h.h2,h.ne2,h.aa5,h.h0⟩
theorem DrW.pick (h:DrW w0 we code g g2 g4 a s d ws w) {a' s':Int} (hi:iA w0 w1 g code a' s') (hb:Below w0.heap.size w0 w1) (hk:aI w w1 g none):DrW w0 we code g g2 g4 a' s' d ws w1:=by
 obtain⟨A,c,A1,c1,q1,q2,q3⟩:=h.b4
 exact⟨hi,hb,h.kb.trans hk (.inl rfl),⟨A,c,A1,c1,hk.blk q1 h.ne (by simp),Kd.vQ q2 (fun k ho hl=>hk.2 k hl ho.1 (by simp)),Kd.vQ q3 (fun k ho hl=>hk.2 k hl ho.1 (by simp))⟩,h.h4,h.ne,hk.blk h.b2 h.ne2 (by simp),h.h2,h.ne2,h.aa5,h.h0⟩
theorem DrW.as4 (h:DrW w0 we code g g2 g4 a s d ws w) {A A2:Option Addr} {c c2:Nat} {ws2:List S40} (q2:Kd.R (Kd.int .i64) 2 w we.heap.size (fun k=>k≠g∧k≠g4) (.slice A d.length c) d) (q3:Kd.R k40 40 w we.heap.size (fun k=>k≠g∧k≠g4) (.slice A2 ws2.length c2) ws2):DrW w0 we code g g2 g4 a s d ws2 ((w.setCell ⟨g4,0,none⟩ (.slice A d.length c)).setCell ⟨g4,1,none⟩ (.slice A2 ws2.length c2)):=by
 obtain⟨A0,c0,A1,c1,p1,_,_⟩:=h.b4
 have h04:w0.heap.size≤g4:=Nat.le_trans h.h0 h.h4
 exact⟨(h.I.far (p:=⟨g4,0,none⟩) h.ne.symm _).far (p:=⟨g4,1,none⟩) h.ne.symm _,(h.bel.setCell (p:=⟨g4,0,none⟩) h04 _).setCell (p:=⟨g4,1,none⟩) h04 _,jW (p:=⟨g4,1,none⟩) (jW (p:=⟨g4,0,none⟩) h.kb h.h4 _) h.h4 _,
  ⟨A,c,A2,c2,aW (cs':=#[.slice A d.length c,.slice A2 ws2.length c2]) (aW (cs':=#[.slice A d.length c,.slice A1 ws.length c1]) p1 0 _ rfl) 1 _ rfl,Kd.bX (p:=⟨g4,1,none⟩) (Kd.bX (p:=⟨g4,0,none⟩) q2 (fun _ hk=>hk.2) _) (fun _ hk=>hk.2) _,Kd.bX (p:=⟨g4,1,none⟩) (Kd.bX (p:=⟨g4,0,none⟩) q3 (fun _ hk=>hk.2) _) (fun _ hk=>hk.2) _⟩,h.h4,h.ne,dJ (dJ h.b2 (p:=⟨g4,0,none⟩) h.aa5 _) (p:=⟨g4,1,none⟩) h.aa5 _,h.h2,h.ne2,h.aa5,h.h0⟩
theorem afE {α:Type} {k:Kd α} {W:World} {base Z e t:Nat} {ok:Nat→Prop} {v:Value} {xs:List α} {cs:Array Value} (h:Kd.R k e W base ok v xs) (hz:W.heap[Z]?=some (.cells cs t (0,0))) (hne:t≠e):some Z≠v.ownBlock:=by
 intro e0
 obtain⟨c2,q2⟩:=Kd.lC h Z e0.symm
 rw[hz]at q2
 injection q2 with q2
 injection q2 with _ q2
 exact hne q2
theorem afF {α:Type} {k:Kd α} {W:World} {base Z e t:Nat} {v:Value} {xs:List α} {cs:Array Value} (h:Kd.R k e W base (fun _=>True) v xs) (hz:W.heap[Z]?=some (.cells cs t (0,0))) (hne:t≠e) (hE:k.E=[]) (u0 u1:Value):Kd.R k e ((W.setCell ⟨Z,0,none⟩ u0).setCell ⟨Z,1,none⟩ u1) base (fun _=>True) v xs:=
 Kd.bS (Kd.bX (p:=⟨Z,1,none⟩) (Kd.bX (p:=⟨Z,0,none⟩) (Kd.VL h hE (afE h hz hne)) (fun _ hk=>hk.2) u0) (fun _ hk=>hk.2) u1) (fun _ _=>trivial)
theorem aa6 {W:World} {Z t:Nat} {a b:Value} (hz:W.heap[Z]?=some (.cells #[a,b] t (0,0))) (u0 u1:Value):((W.setCell ⟨Z,0,none⟩ u0).setCell ⟨Z,1,none⟩ u1).heap[Z]?=some (.cells #[u0,u1] t (0,0)):=
 aW (cs':=#[u0,u1]) (aW (cs':=#[u0,b]) hz 0 u0 rfl) 1 u1 rfl
def afG (w0 w:World) (code:List Int) (g:Nat) (x xa xs:Int) (v:Value) (w':World):Prop:=v= .int .i64 x∧iA w0 w' g code xa xs∧Below w0.heap.size w0 w'∧aI w w' g none
theorem Sc {w0 w:World} {code:List Int} {g:Nat} {a s n x xa xs:Int} (hI:iA w0 w g code a s) (hB:Below w0.heap.size w0 w) (h:dI.f code a s n=some (x,xa,xs)):Calls Tryz.prog 34 (#[.pointer (some ⟨g,0,none⟩),.int .i64 n]++ #[]) w fun e w'=>∃ v,e= .returned v∧afG w0 w code g x xa xs v w':=
 (dI.calls g code a s n x xa xs w0 w hI hB h).mono (fun e w' h=>⟨_,h.1,rfl,h.2⟩)
theorem Gc {α β:Type} {k:Kd α} {k':Kd β} {e e':Nat} {base base':Nat} {ok ok':Nat→Prop} {v v':Value} {xs:List α} {ys:List β} (h:Kd.R k e w base ok v xs) (h':Kd.R k' e' w base' ok' v' ys) (hne:e≠e'):∀ j,v.ownBlock=some j→some j≠v'.ownBlock:=by
 intro j hj e0
 obtain⟨c1,q1⟩:=Kd.lC h j hj
 obtain⟨c2,q2⟩:=Kd.lC h' j e0.symm
 rw[q1]at q2
 injection q2 with q2
 injection q2 with _ q2
 exact hne q2
theorem DrW.fresh (h:DrW w0 we code g g2 g4 a s d ws w) (hb:Below w.heap.size w w1):∀ j,w1.heap.size≤j→j≠g∧j≠g4:=by
 intro j hj
 obtain⟨A,c,A1,c1,q1,_,_⟩:=h.b4
 have h1:=h.I.lt
 have h2:=gD q1
 have h3:=aG hb
 exact⟨by omega,by omega⟩
theorem DrW.as5 (h:DrW w0 we code g g2 g4 a s d ws w) {W w9:World} {A A1 A9:Option Addr} {c c1 c9:Nat} {d':List Int} (hb:Below w.heap.size w W) (q1:w.heap[g4]?=some (.cells #[.slice A d.length c,.slice A1 ws.length c1] 27 (0,0)))
  (q2:Kd.R (Kd.int .i64) 2 w we.heap.size (fun k=>k≠g∧k≠g4) (.slice A d.length c) d) (q3:Kd.R k40 40 w we.heap.size (fun k=>k≠g∧k≠g4) (.slice A1 ws.length c1) ws) (hg:W.grownBy w9 (Value.slice A d.length c).ownBlock)
  (hR:Kd.R (Kd.int .i64) 2 w9 we.heap.size (fun k=>k≠g∧k≠g4) (.slice A9 d'.length c9) d'):w9.heap[g4]?=some (.cells #[.slice A d.length c,.slice A1 ws.length c1] 27 (0,0))∧DrW w0 we code g g2 g4 a s d' ws (w9.setCell ⟨g4,0,none⟩ (.slice A9 d'.length c9)):=by
 have n1:some g≠(Value.slice A d.length c).ownBlock:=fun e=>(q2.1 g e.symm).1 rfl
 have n4:some g4≠(Value.slice A d.length c).ownBlock:=fun e=>(q2.1 g4 e.symm).2 rfl
 have n2:some g2≠(Value.slice A d.length c).ownBlock:=fun e=>by
  obtain⟨cs,q⟩:=Kd.lC q2 g2 e.symm
  rw[h.b2]at q
  injection q with q
  injection q with _ q
  exact absurd q (by decide)
 have hbase:=Kd.iJ q2
 have hq9:=dQ (aA q1 hb) hg n4
 have hI:=(h.I.below hb).grown hg n1
 have h04:w0.heap.size≤g4:=Nat.le_trans h.h0 h.h4
 refine⟨hq9,hI.far (p:=⟨g4,0,none⟩) h.ne.symm _,((av h.bel hb).grown hg (aG (av h.bel hb)) (fun k hk=>Nat.le_trans h.h0 (hbase k hk))).setCell (p:=⟨g4,0,none⟩) h04 _,?_,⟨A9,c9,A1,c1,aW hq9 0 _ rfl,Kd.bX (p:=⟨g4,0,none⟩) hR (fun _ hk=>hk.2) _,Kd.bX (p:=⟨g4,0,none⟩) (Kd.TG (Kd.aM q3 hb) rfl hg (fun k hk=>Gc q2 q3 (by decide) k hk)) (fun _ hk=>hk.2) _⟩,h.h4,h.ne,dJ (dQ (aA h.b2 hb) hg n2) (p:=⟨g4,0,none⟩) h.aa5 _,h.h2,h.ne2,h.aa5,h.h0⟩
 refine jW (p:=⟨g4,0,none⟩) ?_ h.h4 _
 refine(h.kb.trans (aI.of_below hb g none) (.inl rfl)).trans (aI.qZ hg g) ?_
 cases hv:(Value.slice A d.length c).ownBlock with
 |none=>exact .inl rfl
 |some b=>exact .inr ⟨b,rfl,hbase b hv⟩
theorem Xi {α:Type} (k:Kd α) (W:World) (base e:Nat) (hb:base≤W.heap.size) (ok:Nat→Prop) (hok:ok W.heap.size):Kd.R k e (W.alloc (.cells #[] e)) base ok (.slice (some ⟨W.heap.size,0,none⟩) 0 0) ([]:List α):=by
 refine⟨fun j hj=>?_,[],?_,?_⟩
 ·have:W.heap.size=j:=by simpa [Value.ownBlock]using hj
  rw[← this];exact hok
 ·have h:=World.ownsRow_lit (base:=base) (e:=e) (size:=k.sz) W (#[]:Array Value) 0 hb (by simp[maxLen]) (by simp)
  simpa using h
 exact jO.none _ _
set_option maxHeartbeats 8000000 in
set_option maxRecDepth 100000 in
theorem KG (K:Nat) (g:Nat) (code:List Int) (a s:Int) (d:List Int) (ws:List S40) (w0 w:World) (hI:iA w0 w g code a s) (hB:Below w0.heap.size w0 w) (hF:Ic K code a s=some (d,ws)):
  Calls Tryz.prog 17 #[.pointer (some ⟨g,0,none⟩)] w fun e w'=>∃ v0_ v1_:Value,e= .returned (.agg #[v0_,v1_])∧Kd.R (Kd.int .i64) 2 w' w.heap.size (fun _=>True) v0_ d∧Kd.R k40 40 w' w.heap.size (fun _=>True) v1_ ws∧Below w0.heap.size w0 w'∧aI w w' g none:=by
 unfold Ic at hF
 obtain⟨⟨p,pa,ps⟩,h1,hF⟩:=Option.bind_eq_some_iff.mp hF
 obtain⟨⟨dd,qa,qs⟩,h2,hF⟩:=Option.bind_eq_some_iff.mp hF
 obtain⟨⟨r,ra,rs⟩,h3,hF⟩:=Option.bind_eq_some_iff.mp hF
 simp only at h2 h3 hF
 by_cases hr:0≤r∧r≤1000000
 case neg=>rw[if_neg hr]at hF;cases hF
 rw[if_pos hr]at hF
 obtain⟨ws',h4,hF⟩:=Option.bind_eq_some_iff.mp hF
 simp only[Option.some.injEq,Prod.mk.injEq]at hF
 obtain⟨rfl,rfl⟩:=hF
 have H1:=ah.mk h1
 have H2:=ah.mk h2
 have H3:=ah.mk h3
 have H4:=ah.mk h4
 have HI:=ah.mk hI
 have HB:=ah.mk hB
 have HK:=ah.mk (aI.refl w g none)
 have H0:=ah.mk (aG hB)
 clear hI hB h1 h2 h3 h4
 go_enter Tryz.func17,Tryz.ntmps17
 go_upto_region 2 with(first
  |((with_reducible refine aH (N:=2) rfl ?_);refine qbx (N:=2) (cs:=#[.slice none 0 0,.slice none 0 0]) (t:=27) ?_;intro g2 hg wn bR hb;have GE2:=ah.mk (show w.heap.size≤g2 from Mi);clear hg;have BK2:=ah.mk bR;replace HI:=ah.mk (HI.out.below hb);replace HB:=ah.mk (av HB.out hb);replace HK:=ah.mk (show aI w wn g none from aI.of_below hb g none);clear hb bR)
  |(go_at_call 34;(with_reducible refine(dI.calls g code a s 5 p pa ps w0 _ HI.out HB.out H1.out).mono ?_);rintro e w96 ⟨rfl,hi,hb,hk⟩;have n0_:=ah.mk (HK.out.trans hk (.inl rfl));have n1_:=ah.mk (hk.blk BK2.out (HI.out.zU BK2.out (by decide)).symm (by simp));clear HI HB HK BK2 hk;have HI:=ah.mk hi;have HB:=ah.mk hb;have HK:=n0_;have BK2:=n1_;clear hi hb n0_ n1_))
 have HA1:=ah.mk (bg (Below.refl w96.heap.size w96) (.cells #[] 2))
 have HA2:=ah.mk (av HA1.out (bg (Below.refl (w96.alloc (.cells #[] 2)).heap.size (w96.alloc (.cells #[] 2))) (.cells #[] 40)))
 go_upto_region 3 with(first
  |((with_reducible refine aH (N:=4) rfl ?_);refine qbx (N:=4) (cs:=#[.slice none 0 0,.slice none 0 0]) (t:=27) ?_;intro g4 hg wm bR hb;have GE4:=ah.mk (show w.heap.size≤g4 by rw[hg];exact Nat.le_trans HK.out.1 (aG HA2.out));have BK4:=ah.mk bR;have HB4:=ah.mk hb;have Xj:wm.cell? ⟨g4,0,none⟩=some (.slice none 0 0):=(aj bR 0).trans rfl;have Xk:wm.cell? ⟨g4,1,none⟩=some (.slice none 0 0):=(aj bR 1).trans rfl;have aoR:=ak bR 0;have aoS:=ak bR 1;have NE1:=ah.mk (show w96.heap.size≠g4 by rw[hg];simp;omega);have NE2:=ah.mk (show (w96.alloc (.cells #[] 2)).heap.size≠g4 by rw[hg];simp);have HG4:=ah.mk (show ((w96.alloc (.cells #[] 2)).alloc (.cells #[] 40)).heap.size≤g4 from Mi);clear hg bR hb))
 have HD0:=ah.mk (show DrW w0 w code g g2 g4 pa ps [] [] ((wm.setCell ⟨g4,0,none⟩ (.slice (some ⟨w96.heap.size,0,none⟩) 0 0)).setCell ⟨g4,1,none⟩ (.slice (some ⟨w96.heap.size+1,0,none⟩) 0 0)) from by
  have e1:(w96.alloc (.cells #[] 2)).heap.size=w96.heap.size+1:=by simp
  have hbm:=av HA2.out HB4.out
  have hI:=HI.out.below hbm
  have hgg:g≠g4:=hI.zU BK4.out (by decide)
  have hr0:=HI.out.fresh
  have hb2:=aA BK2.out hbm
  have h24:g2≠g4:=fun e=>by have:=gD BK2.out;have:=HG4.out;have:=aG HA2.out;omega
  have h0:w0.heap.size≤g4:=Nat.le_trans (Nat.le_trans (aG HB.out) (aG HA2.out)) HG4.out
  have q1:Kd.R (Kd.int .i64) 2 (w96.alloc (.cells #[] 2)) w.heap.size (fun k=>k≠g∧k≠g4) (.slice (some ⟨w96.heap.size,0,none⟩) 0 0) ([]:List Int):=Xi _ _ _ _ HK.out.1 _ ⟨hr0 _ (Nat.le_refl _),NE1.out⟩
  have q2:Kd.R k40 40 ((w96.alloc (.cells #[] 2)).alloc (.cells #[] 40)) w.heap.size (fun k=>k≠g∧k≠g4) (.slice (some ⟨w96.heap.size+1,0,none⟩) 0 0) ([]:List S40):=by
   have:=Xi k40 (w96.alloc (.cells #[] 2)) w.heap.size 40 (Nat.le_trans HK.out.1 (aG HA1.out)) (fun k=>k≠g∧k≠g4) ⟨hr0 _ (aG HA1.out),NE2.out⟩
   rwa [e1]at this
  refine⟨(hI.far (p:=⟨g4,0,none⟩) hgg _).far (p:=⟨g4,1,none⟩) hgg _,((av HB.out hbm).setCell (p:=⟨g4,0,none⟩) h0 _).setCell (p:=⟨g4,1,none⟩) h0 _,jW (p:=⟨g4,1,none⟩) (jW (p:=⟨g4,0,none⟩) (HK.out.trans (aI.of_below hbm g none) (.inl rfl)) GE4.out _) GE4.out _,⟨some ⟨w96.heap.size,0,none⟩,0,some ⟨w96.heap.size+1,0,none⟩,0,aW (cs':=#[.slice (some ⟨w96.heap.size,0,none⟩) 0 0,.slice (some ⟨w96.heap.size+1,0,none⟩) 0 0]) (aW (cs':=#[.slice (some ⟨w96.heap.size,0,none⟩) 0 0,.slice none 0 0]) BK4.out 0 _ rfl) 1 _ rfl,?_,?_⟩,GE4.out,hgg.symm,dJ (dJ hb2 (p:=⟨g4,0,none⟩) h24 _) (p:=⟨g4,1,none⟩) h24 _,GE2.out,(HI.out.zU BK2.out (by decide)).symm,h24,H0.out⟩
  ·exact Kd.bX (p:=⟨g4,1,none⟩) (Kd.bX (p:=⟨g4,0,none⟩) (Kd.aM (Kd.qD q1 _) HB4.out) (fun _ hk=>hk.2) _) (fun _ hk=>hk.2) _
  exact Kd.bX (p:=⟨g4,1,none⟩) (Kd.bX (p:=⟨g4,0,none⟩) (Kd.aM q2 HB4.out) (fun _ hk=>hk.2) _) (fun _ hk=>hk.2) _)
 generalize (wm.setCell ⟨g4,0,none⟩ (.slice (some ⟨w96.heap.size,0,none⟩) 0 0)).setCell ⟨g4,1,none⟩ (.slice (some ⟨w96.heap.size+1,0,none⟩) 0 0)=W5 at HD0 ⊢
 clear HA1 HA2 GE4 BK4 HB4 Xj Xk aoR aoS NE1 NE2 HG4 HI HB HK BK2 GE2 H1
 obtain⟨n,hn⟩:∃ n,n=wrap64 (1+p):=⟨_,rfl⟩
 rw[← hn]at H2 H4 ⊢
 clear hn
 go_wp2
 go_loopg [5] K (fun kq v5 w'=>∃ (v:Nat) (d:List Int) (a s:Int),v5= .int .i64 v∧ah (yA code n kq v d a s=some (dd,qa,qs))∧ah (DrW w0 w code g g2 g4 a s d [] w'))
 case atStart=>exact⟨0,[],pa,ps,Db,H2,HD0⟩
 case round=>
  clear H2 HD0
  obtain⟨v,d,a,s,rfl,HF,HD⟩:=hrel
  cases gk with
  |zero=>exact absurd HF.out (by simp[yA])
  |succ gq=>
  have hF:=HF.out
  rw[yA]at hF
  by_cases hlt:(v:Int)<n
  ·rw[if_pos hlt]at hF
   by_cases hv:v<1000000∧d.length<1000000
   case neg=>rw[if_neg hv]at hF;cases hF
   rw[if_pos hv]at hF
   obtain⟨⟨x,xa,xs⟩,h1,hF⟩:=Option.bind_eq_some_iff.mp hF
   have HX:=ah.mk h1
   have HF2:=ah.mk hF
   clear h1 hF HF
   obtain⟨hv1,hv2⟩:=hv
   have f1:decide ((v:Int)<n)=true:=decide_eq_true hlt
   have wv:IntKind.i64.wrap ((v:Int)+1)=(v:Int)+1:=IntWalk.i64_in _ ⟨by omega,by omega⟩
   obtain⟨A,c,A1,c1,q1,q2,q3⟩:=HD.out.b4
   obtain⟨L,hL⟩:∃ L,L=d.length:=⟨_,rfl⟩
   rw[← hL]at q1 q2 hv2
   have Q1:=ah.mk q1
   have Q2:=ah.mk q2
   have Q3:=ah.mk q3
   have HL:=ah.mk hL
   have k4:wr.cell? ⟨g4,0,none⟩=some (.slice A L c):=(aj q1 0).trans rfl
   clear q1 q2 q3 hL
   have HKM:∀ (W:World) (y:Int) (cs:List Value),(Kd.int .i64).K W y cs→(Kd.int .i64).M W w.heap.size (fun _=>False) y cs:=fun W y cs h=>h
   have HPC:=ah.mk (Sc HD.out.I.drew (bG HD.out.bel) HX.out)
   go_wp2
   go_region_law (first
    |(refine MW (f:=34) (fn:=Tryz.f34) (caps:=#[]) (x:=.func 34) (zs:=#[.tmp 22,.const (.int .i64 9)]) (ts:=#[44,2]) (R:=afG w0 wr.drew code g x xa xs) rfl Tryz.func34 rfl qz9 #[.pointer (some ⟨g,0,none⟩),.int .i64 9] rfl rfl TU HPC.out ?_;rintro v96 w6 ⟨rfl,hi6,hb6,aoT⟩;have hk6:aI wr w6 g none:=aoT;have HD6:=ah.mk (HD.out.pick hi6 hb6 hk6);have k6:w6.cell? ⟨g4,0,none⟩=some (.slice A L c):=(aj (hk6.blk Q1.out HD.out.ne (by simp)) 0).trans rfl;have k6a:(w6.alloc (.cells #[.int .i64 x] 2)).cell? ⟨g4,0,none⟩=some (.slice A L c):=aV (bg (Below.refl _ _) _) k6)
    |(refine uy (Kd.int .i64) rfl (.tmp 21) (.tmp 24) 24 rfl 2 (.int .i64 0) 8 Tryz.underlying24 sS rfl (by decide) (by decide) w.heap.size w6 (.slice A L c) d [x] (some ⟨w6.heap.size,0,none⟩) 1 1 (fun k=>k≠g∧k≠g4) TU TU (HKM _) (Kd.qD (Kd.vQ Q2.out (fun k ho hl=>hk6.2 k hl ho.1 (by simp))) _) (afz (Kd.int .i64) x (qC w6 (.cells #[.int .i64 x] 2)) rfl) (HD6.out.fresh (bg (Below.refl w6.heap.size w6) _)) ((bg (Below.refl w6.heap.size w6) _).mono HD6.out.kb.1) (Nat.le_trans HD6.out.kb.1 (aG (bg (Below.refl w6.heap.size w6) (.cells #[.int .i64 x] 2)))) (by rw[← HL.out];omega) ?_;intro v9 w9 hR9 hb9 hg9;obtain⟨A9,c9,hv9,_,_⟩:=Kd.sG hR9;subst hv9;have PT:=HD6.out.as5 (d':=d++[x]) (bg (Below.refl w6.heap.size w6) (.cells #[.int .i64 x] 2)) (by rw[← HL.out];exact hk6.blk Q1.out HD.out.ne (by simp)) (by rw[← HL.out];exact Kd.vQ Q2.out (fun k ho hl=>hk6.2 k hl ho.1 (by simp))) (Kd.vQ Q3.out (fun k ho hl=>hk6.2 k hl ho.1 (by simp))) (by rw[← HL.out];exact hg9) hR9;rw[← HL.out]at PT;have k9:w9.cell? ⟨g4,0,none⟩=some (.slice A L c):=(aj PT.1 0).trans rfl;have z9:=ak PT.1 0;have HPT:=ah.mk PT.2;clear PT))
   all_goals
    have HP:=HPT
    clear HPT k9 z9 k6 k6a aoT hk6 HD6 hi6 hb6 hR9 hb9 hg9
    go_wp2
    go_roundg gq
    case measure=>omega
    case rel=>exact⟨v+1,d++[x],xa,xs,by go_num,HF2,by simpa using HP⟩
  rw[if_neg hlt]at hF
  simp only[Option.some.injEq,Prod.mk.injEq]at hF
  obtain⟨rfl,rfl,rfl⟩:=hF
  have f1:decide ((v:Int)<n)=false:=decide_eq_false hlt
  clear HF
  go_wp2_with (go_at_call 34;(with_reducible refine(dI.calls g code a s 9 r ra rs w0 _ HD.out.I HD.out.bel H3.out).mono ?_);rintro e w7 ⟨rfl,hi,hb,hk⟩;have HD7:=ah.mk (HD.out.pick hi hb hk);clear HD hi hb hk)
  obtain⟨rn,rfl⟩:=Int.eq_ofNat_of_zero_le hr.1
  rw[Int.toNat_natCast]at H4
  have hrn:rn≤1000000:=by omega
  clear H3 hr hlt f1
  go_loopg [6] rn (fun kq v6 w'=>∃ (ws:List S40) (a s:Int),v6= .int .i64 kq∧ah (kq≤rn)∧ah (wO K code n d kq ws a s=some ws')∧ah (DrW w0 w code g g2 g4 a s d ws w'))
  case atStart=>exact⟨[],ra,rs,Db,⟨Nat.le_refl _⟩,H4,HD7⟩
  case round=>
   clear H4 HD7
   obtain⟨ws,a,s,rfl,HE,HF,HD⟩:=hrel
   cases gk with
   |zero=>
    have HWE:ah (ws=ws'):=⟨by have h:=HF.out;rw[wO]at h;injection h⟩
    have f1:decide (((0:Nat):Int)>0)=false:=by decide
    obtain⟨A,c,A1,c1,q1,q2,q3⟩:=HD.out.b4
    have Xj:wr.cell? ⟨g4,0,none⟩=some (.slice A d.length c):=(aj q1 0).trans rfl
    have Xk:wr.cell? ⟨g4,1,none⟩=some (.slice A1 ws.length c1):=(aj q1 1).trans rfl
    have as6:wr.cell? ⟨g2,0,none⟩=some (.slice none 0 0):=(aj HD.out.b2 0).trans rfl
    have as7:wr.cell? ⟨g2,1,none⟩=some (.slice none 0 0):=(aj HD.out.b2 1).trans rfl
    have as8:=ak HD.out.b2 0
    have as9:=ak HD.out.b2 1
    have P2:=ah.mk (aW (cs':=#[.slice A d.length c,.slice A1 ws.length c1]) (aW (cs':=#[.slice A d.length c,.slice none 0 0]) HD.out.b2 0 (.slice A d.length c) rfl) 1 (.slice A1 ws.length c1) rfl)
    have avY:=(aj P2.out 0).trans rfl
    have avZ:=(aj P2.out 1).trans rfl
    have QD:=ah.mk q2
    have QW:=ah.mk q3
    clear q1 q2 q3
    go_wp2
    refine bodyPost_ret (results_cell_row rfl _ _ g2 27 #[.slice A d.length c,.slice A1 ws.length c1] (0,0) _ rfl P2.out Tryz.underlying27 rfl qz9) rfl ?_
    have h02:w0.heap.size≤g2:=Nat.le_trans HD.out.h0 HD.out.h2
    have e:=HWE.out
    subst e
    refine⟨_,_,rfl,?_,?_,(HD.out.bel.setCell (p:=⟨g2,0,none⟩) h02 _).setCell (p:=⟨g2,1,none⟩) h02 _,jW (p:=⟨g2,1,none⟩) (jW (p:=⟨g2,0,none⟩) HD.out.kb HD.out.h2 _) HD.out.h2 _⟩
    ·exact Kd.bS (Kd.bX (p:=⟨g2,1,none⟩) (Kd.bX (p:=⟨g2,0,none⟩) (Kd.cO QD.out HD.out.b2 (by decide)) (fun _ hk=>hk.2) _) (fun _ hk=>hk.2) _) (fun _ _=>trivial)
    ·exact Kd.bS (Kd.bX (p:=⟨g2,1,none⟩) (Kd.bX (p:=⟨g2,0,none⟩) (Kd.cO QW.out HD.out.b2 (by decide)) (fun _ hk=>hk.2) _) (fun _ hk=>hk.2) _) (fun _ _=>trivial)
   |succ gq=>
    have hF:=HF.out
    rw[wO]at hF
    by_cases hwl:ws.length<1000000
    case neg=>rw[if_neg hwl]at hF;cases hF
    rw[if_pos hwl]at hF
    obtain⟨⟨x,xa,xs⟩,h1,hF⟩:=Option.bind_eq_some_iff.mp hF
    obtain⟨⟨y,ya,ys⟩,h2,hF⟩:=Option.bind_eq_some_iff.mp hF
    obtain⟨⟨z,za,zs⟩,h3,hF⟩:=Option.bind_eq_some_iff.mp hF
    obtain⟨bb,h4,hF⟩:=Option.bind_eq_some_iff.mp hF
    simp only at h2 h3 h4 hF
    have HX1:=ah.mk h1
    have HX2:=ah.mk h2
    have HX3:=ah.mk h3
    have HX4:=ah.mk h4
    have HF2:=ah.mk hF
    clear h1 h2 h3 h4 hF HF
    have f1:decide (((gq+1:Nat):Int)>0)=true:=decide_eq_true (by omega)
    have f2:decide ((0:Int)<((gq+1:Nat):Int))=true:=decide_eq_true (by omega)
    have hge:=HE.out
    have wg:IntKind.i64.wrap (((gq+1:Nat):Int) - 1)=(gq:Int):=by rw[show ((gq+1:Nat):Int) - 1=(gq:Int) by omega];exact IntWalk.i64_in _ ⟨by omega,by omega⟩
    go_upto_region 13 with(first
     |(go_at_call 34;(with_reducible refine(dI.calls g code a s n x xa xs w0 _ HD.out.I HD.out.bel HX1.out).mono ?_);rintro e wa ⟨rfl,hi,hb,hk⟩;have HDA:=ah.mk (HD.out.pick hi hb hk);clear HD HX1 hi hb hk)
     |((with_reducible refine aH (N:=7) rfl ?_);refine qbx (N:=7) (cs:=#[.int .i64 0,.int .i64 0,.int .i64 0]) (t:=40) ?_;intro g7 hg wb bR hb;have GE7:=ah.mk (show wa.heap.size≤g7 from Mi);have adg:wb.cell? ⟨g7,0,none⟩=some (.int .i64 0):=(aj bR 0).trans rfl;have adh:wb.cell? ⟨g7,1,none⟩=some (.int .i64 0):=(aj bR 1).trans rfl;have adi:wb.cell? ⟨g7,2,none⟩=some (.int .i64 0):=(aj bR 2).trans rfl;have adb:=ak bR 0;have ade:=ak bR 1;have adf:=ak bR 2;have p7:=ah.mk (aW (cs':=#[.int .i64 x,.int .i64 0,.int .i64 0]) (aW (cs':=#[.int .i64 x,.int .i64 0,.int .i64 0]) (aW (cs':=#[.int .i64 x,.int .i64 0,.int .i64 0]) bR 0 (.int .i64 x) rfl) 1 (.int .i64 0) rfl) 2 (.int .i64 0) rfl);have HW7:=ah.mk (bF (j:=2) (v:=.int .i64 0) (bF (j:=1) (v:=.int .i64 0) (bF (j:=0) (v:=.int .i64 x) hb GE7.out) GE7.out) GE7.out);have HDB:=ah.mk (HDA.out.move HW7.out);have N7:=ah.mk (HDB.out.I.zU p7.out (by decide));clear hb bR hg)
     |(go_at_call 34;(with_reducible refine(dI.calls g code xa xs n y ya ys w0 _ HDB.out.I HDB.out.bel HX2.out).mono ?_);rintro e wc ⟨rfl,hi,hb,hk⟩;have q7:=ah.mk (hk.blk p7.out N7.out.symm (by simp));have HK7:=ah.mk ((show aI wa _ g none from aI.of_below HW7.out g none).trans hk (.inl rfl));have HI7:=ah.mk hi;have HB7:=ah.mk hb;have ata:wc.cell? ⟨g7,1,none⟩=some (.int .i64 0):=(aj q7.out 1).trans rfl;have atb:=ak q7.out 1;have r7:=ah.mk (aW (cs':=#[.int .i64 x,.int .i64 y,.int .i64 0]) q7.out 1 (.int .i64 y) rfl);clear HDB p7 HX2 hi hb hk adg adh adi adb ade adf)
     |(go_at_call 34;(with_reducible refine(dI.calls g code ya ys 3 z za zs w0 _ (HI7.out.far (p:=⟨g7,1,none⟩) N7.out (.int .i64 y)) (HB7.out.setCell (p:=⟨g7,1,none⟩) (Nat.le_trans (aG HDA.out.bel) GE7.out) (.int .i64 y)) HX3.out).mono ?_);rintro e wd ⟨rfl,hi,hb,hk⟩;have s7:=ah.mk (hk.blk r7.out N7.out.symm (by simp));have HDD:=ah.mk (HDA.out.pick hi hb ((jW (p:=⟨g7,1,none⟩) HK7.out GE7.out (.int .i64 y)).trans hk (.inl rfl)));have atc:wd.cell? ⟨g7,2,none⟩=some (.int .i64 0):=(aj s7.out 2).trans rfl;have atd:=ak s7.out 2;have t7:=ah.mk (aW (cs':=#[.int .i64 x,.int .i64 y,.int .i64 z]) s7.out 2 (.int .i64 z) rfl);have HDZ:=ah.mk (HDA.out.pick (hi.far (p:=⟨g7,2,none⟩) N7.out (.int .i64 z)) (hb.setCell (p:=⟨g7,2,none⟩) (Nat.le_trans (aG HDA.out.bel) GE7.out) (.int .i64 z)) (jW (p:=⟨g7,2,none⟩) ((jW (p:=⟨g7,1,none⟩) HK7.out GE7.out (.int .i64 y)).trans hk (.inl rfl)) GE7.out (.int .i64 z)));clear HDD q7 r7 HX3 hi hb hk ata atb HI7 HB7 HK7))
    generalize wd.setCell ⟨g7,2,none⟩ (.int .i64 z)=W7 at HDZ t7 ⊢
    clear s7
    obtain⟨A,c,A1,c1,q1,q2,q3⟩:=HDZ.out.b4
    have Q1:=ah.mk q1
    have Q2:=ah.mk q2
    have Q3:=ah.mk q3
    have Xj:W7.cell? ⟨g4,0,none⟩=some (.slice A d.length c):=(aj q1 0).trans rfl
    have Xk:W7.cell? ⟨g4,1,none⟩=some (.slice A1 ws.length c1):=(aj q1 1).trans rfl
    have Td:W7.cell? ⟨g7,0,none⟩=some (.int .i64 x):=(aj t7.out 0).trans rfl
    have Te:W7.cell? ⟨g7,1,none⟩=some (.int .i64 y):=(aj t7.out 1).trans rfl
    have Tf:W7.cell? ⟨g7,2,none⟩=some (.int .i64 z):=(aj t7.out 2).trans rfl
    clear q1 q2 q3
    have HKM:∀ (W:World) (y:S40) (cs:List Value),k40.K W y cs→k40.M W W7.heap.size (fun _=>False) y cs:=fun W y cs h=>by
     obtain rfl:=KR h
     exact zK _ _ _ _
    have HK:ah (∀ W,Below W7.heap.size W7 W→(W.cell? ⟨g4,0,none⟩=some (.slice A d.length c)∧W.cell? ⟨g4,1,none⟩=some (.slice A1 ws.length c1)∧W.cell? ⟨g7,0,none⟩=some (.int .i64 x)∧W.cell? ⟨g7,1,none⟩=some (.int .i64 y)∧W.cell? ⟨g7,2,none⟩=some (.int .i64 z))):=⟨fun W hW=>⟨aV hW Xj,aV hW Xk,aV hW Td,aV hW Te,aV hW Tf⟩⟩
    go_cut [8] (fun v8 wc=>∃ (Z:Nat) (A2:Option Addr) (c2:Nat),v8= .pointer (some ⟨Z,0,none⟩)∧ah (wc.heap[Z]?=some (.cells #[.slice A d.length c,.slice A2 (ws++[(⟨x,y,z⟩:S40)]).length c2] 27 (0,0)))∧ah (Kd.R k40 40 wc W7.heap.size (fun _=>True) (.slice A2 (ws++[(⟨x,y,z⟩:S40)]).length c2) (ws++[(⟨x,y,z⟩:S40)]))∧ah (Below W7.heap.size W7 wc))
    case rest=>
     obtain⟨Z,A2,c2,rfl,HZ,HR2,HBZ⟩:=hcut
     clear Xj Xk Td Te Tf HK HKM
     have HDC:=ah.mk (HDZ.out.move HBZ.out)
     have HT:=ah.mk (show fT wc wc Z d (ws++[(⟨x,y,z⟩:S40)]) from⟨A,c,A2,c2,HZ.out,trivial,Kd.gX (Kd.dF Q2.out).2.2 HBZ.out,(Kd.dF HR2.out).2.2⟩)
     cases bb with
     |false=>
      have HF3:=ah.mk (show wO K code n d gq ws za zs=some ws' by have h:=HF2.out;rw[if_neg (by decide)]at h;exact h)
      go_wp2_with (go_at_call 21;(with_reducible refine(bN.EN K Z d (ws++[(⟨x,y,z⟩:S40)]) false wc _ HT.out (Below.refl _ _) HX4.out).mono ?_);rintro e wz ⟨rfl,hi,hb,hk⟩;have HDY:=ah.mk (HDC.out.move hb);clear hi hb hk)
      go_roundg gq
      case measure=>omega
      case rel=>exact⟨ws,za,zs,by first|rfl|(simp;omega)|go_num,⟨by omega⟩,HF3,HDY⟩
     |true=>
      have HF3:=ah.mk (show wO K code n d gq (ws++[(⟨x,y,z⟩:S40)]) za zs=some ws' by have h:=HF2.out;rw[if_pos rfl]at h;exact h)
      have ate:=(HDZ.out.fresh (Below.refl W7.heap.size W7))
      go_wp2_with (go_at_call 21;(with_reducible refine(bN.EN K Z d (ws++[(⟨x,y,z⟩:S40)]) true wc _ HT.out (Below.refl _ _) HX4.out).mono ?_);rintro e wz ⟨rfl,hi,hb,hk⟩;have HDY:=ah.mk (HDC.out.move hb);have hz:=aA HZ.out hb;have av0:wz.cell? ⟨Z,0,none⟩=some (.slice A d.length c):=(aj hz 0).trans rfl;have av1:wz.cell? ⟨Z,1,none⟩=some (.slice A2 (ws++[(⟨x,y,z⟩:S40)]).length c2):=(aj hz 1).trans rfl;have hq4:=aA (aA Q1.out HBZ.out) hb;have Xj:wz.cell? ⟨g4,0,none⟩=some (.slice A d.length c):=(aj hq4 0).trans rfl;have Xk:wz.cell? ⟨g4,1,none⟩=some (.slice A1 ws.length c1):=(aj hq4 1).trans rfl;have aoR:=ak hq4 0;have aoS:=ak hq4 1;have HDX:=ah.mk (HDY.out.as4 (Kd.aM (Kd.aM Q2.out HBZ.out) hb) (Kd.bS (Kd.pQ (Kd.dV (Kd.bS (Kd.pQ (Kd.aM HR2.out hb)) (ok':=fun k=>k≠g∧k≠g4) (fun k hk=>ate k hk.2.1)) HDZ.out.kb.1)) (fun k hk=>hk.1)));clear hi hb hk hz hq4)
      go_roundg gq
      case measure=>omega
      case rel=>exact⟨ws++[(⟨x,y,z⟩:S40)],za,zs,by first|rfl|(simp;omega)|go_num,⟨by omega⟩,HF3,by simpa using HDX⟩
    case first=>
    clear HDZ t7 Q1 Q2 HX4 HF2 f1 f2 wg hge HE HDA GE7 HW7 N7 atc atd hrn H0 HK
    try clear hF
    refine MX (RJ W7 g4 A A1 d ws c c1 ⟨x,y,z⟩ _) qz9 (Vp _ _ (bG (Below.refl _ _))) ?step ?done
    case done=>
     intro L a w hJ hr
     obtain⟨hsz,u44,u45,u46,u47,u48,u49,u50,u51,u52,u53,u8,E,V,M,A9,A2,c9,c2,rfl,F⟩:=hJ
     have H:=afB hsz qz9 hr
     have H10:L.getD 10 false=true:=H 10 (by decide)
     have H11:L.getD 11 false=true:=H 11 (by decide)
     have H8:L.getD 8 false=true:=H 8 (by decide)
     obtain rfl:=F.s10 H10
     simp only[nX,List.setIfInBounds_toArray,List.set_cons_zero,List.set_cons_succ]
     try go_wp2
     go_meet
     case rel=>exact⟨M,A2,c2,rfl,⟨F.ze H11⟩,⟨F.s8r H8⟩,⟨F.bel⟩⟩
    case step=>
     intro L a w hJ i hi
     obtain⟨hsz,u44,u45,u46,u47,u48,u49,u50,u51,u52,u53,u8,E,V,M,A9,A2,c9,c2,rfl,F⟩:=hJ
     obtain⟨hun,o,ho,hall⟩:=mem_ready.1 hi
     obtain⟨hne,hk1,hk0⟩:=Vq hun
     have atf:i<12:=(Array.getElem?_eq_some_iff.1 ho).1
     have hcs:i=0∨i=1∨i=2∨i=3∨i=4∨i=5∨i=6∨i=7∨i=8∨i=9∨i=10∨i=11:=by omega
     clear hi atf hun
     have Xj:=aV F.bel Xj
     have Xk:=aV F.bel Xk
     have Td:=aV F.bel Td
     have Te:=aV F.bel Te
     have Tf:=aV F.bel Tf
     rcases hcs with rfl|rfl|rfl|rfl|rfl|rfl|rfl|rfl|rfl|rfl|rfl|rfl
     ·have ho2:=ho
      simp only[List.getElem?_toArray,List.getElem?_cons_succ,List.getElem?_cons_zero,Option.some.injEq]at ho2
      subst ho2
      clear hall
      simp only[nX,List.setIfInBounds_toArray,List.set_cons_zero,List.set_cons_succ]
      refine rZ ho fun K hK=>?_
      go_simp
      refine hK _ _ ⟨Nh,.pointer (some ⟨g4,0,none⟩),u45,u46,u47,u48,u49,u50,u51,u52,u53,u8,E,V,M,A9,A2,c9,c2,?_,F.p0 hne hk1 hk0⟩
      simp only[Act.put,nX,List.setIfInBounds_toArray,List.set_cons_zero,List.set_cons_succ]
     ·have ho2:=ho
      simp only[List.getElem?_toArray,List.getElem?_cons_succ,List.getElem?_cons_zero,Option.some.injEq]at ho2
      subst ho2
      have q0:L.getD 0 false=true:=hall { on:=0,ground:=Ground.data } (by simp) rfl
      clear hall
      obtain rfl:=F.s0 q0
      simp only[nX,List.setIfInBounds_toArray,List.set_cons_zero,List.set_cons_succ]
      refine rZ ho fun K hK=>?_
      go_simp
      refine hK _ _ ⟨Nh,.pointer (some ⟨g4,0,none⟩),.slice A d.length c,u46,u47,u48,u49,u50,u51,u52,u53,u8,E,V,M,A9,A2,c9,c2,?_,F.p1 hne hk1 hk0⟩
      simp only[Act.put,nX,List.setIfInBounds_toArray,List.set_cons_zero,List.set_cons_succ]
     ·have ho2:=ho
      simp only[List.getElem?_toArray,List.getElem?_cons_succ,List.getElem?_cons_zero,Option.some.injEq]at ho2
      subst ho2
      clear hall
      simp only[nX,List.setIfInBounds_toArray,List.set_cons_zero,List.set_cons_succ]
      refine rZ ho fun K hK=>?_
      go_simp
      refine hK _ _ ⟨Nh,u44,u45,.slice (some ⟨w.heap.size,0,none⟩) 0 0,u47,u48,u49,u50,u51,u52,u53,u8,w.heap.size,V,M,A9,A2,c9,c2,?_,F.m2 hne hk1 hk0⟩
      simp only[Act.put,nX,List.setIfInBounds_toArray,List.set_cons_zero,List.set_cons_succ]
     ·have ho2:=ho
      simp only[List.getElem?_toArray,List.getElem?_cons_succ,List.getElem?_cons_zero,Option.some.injEq]at ho2
      subst ho2
      clear hall
      simp only[nX,List.setIfInBounds_toArray,List.set_cons_zero,List.set_cons_succ]
      refine rZ ho fun K hK=>?_
      go_simp
      refine hK _ _ ⟨Nh,u44,u45,u46,.pointer (some ⟨g4,1,none⟩),u48,u49,u50,u51,u52,u53,u8,E,V,M,A9,A2,c9,c2,?_,F.p3 hne hk1 hk0⟩
      simp only[Act.put,nX,List.setIfInBounds_toArray,List.set_cons_zero,List.set_cons_succ]
     ·have ho2:=ho
      simp only[List.getElem?_toArray,List.getElem?_cons_succ,List.getElem?_cons_zero,Option.some.injEq]at ho2
      subst ho2
      have q3:L.getD 3 false=true:=hall { on:=3,ground:=Ground.data } (by simp) rfl
      clear hall
      obtain rfl:=F.s3 q3
      simp only[nX,List.setIfInBounds_toArray,List.set_cons_zero,List.set_cons_succ]
      refine rZ ho fun K hK=>?_
      go_simp
      refine hK _ _ ⟨Nh,u44,u45,u46,.pointer (some ⟨g4,1,none⟩),.slice A1 ws.length c1,u49,u50,u51,u52,u53,u8,E,V,M,A9,A2,c9,c2,?_,F.p4 hne hk1 hk0⟩
      simp only[Act.put,nX,List.setIfInBounds_toArray,List.set_cons_zero,List.set_cons_succ]
     ·have ho2:=ho
      simp only[List.getElem?_toArray,List.getElem?_cons_succ,List.getElem?_cons_zero,Option.some.injEq]at ho2
      subst ho2
      have q2:L.getD 2 false=true:=hall { on:=2,ground:=Ground.data } (by simp) rfl
      have q4:L.getD 4 false=true:=hall { on:=4,ground:=Ground.data } (by simp) rfl
      clear hall
      obtain rfl:=F.s2 q2
      obtain rfl:=F.s4 q4
      simp only[nX,List.setIfInBounds_toArray,List.set_cons_zero,List.set_cons_succ]
      refine rZ ho fun K hK=>?_
      refine uy k40 rfl (.tmp 46) (.tmp 48) 25 rfl 40 (.agg #[(.int .i64 0),(.int .i64 0),(.int .i64 0)]) 24 Tryz.underlying25 CZ rfl (by decide) (by decide) W7.heap.size W7 (.slice (some ⟨E,0,none⟩) 0 0) [] ws A1 ws.length c1 (fun _=>True) TU TU (HKM _) (Vn k40 (F.s2b q2 hk0) (F.s2e q2).1) (Kd.gX (Kd.dF Q3.out).2.2 F.bel) (fun _ _=>trivial) F.bel (aG F.bel) (by first|omega|(simp;omega)) ?_
      intro v49 w49 amy atg aoU
      obtain⟨A9',c9',aoV,_,_⟩:=Kd.sG amy
      rw[List.nil_append]at aoV amy
      subst aoV
      refine hK _ _ ⟨Nh,u44,u45,.slice (some ⟨E,0,none⟩) 0 0,u47,.slice A1 ws.length c1,.slice A9' ws.length c9',u50,u51,u52,u53,u8,E,V,M,A9',A2,c9',c2,?_,F.a5 hne hk1 hk0 q2 atg aoU aoU.size amy⟩
      simp only[Act.put,nX,List.setIfInBounds_toArray,List.set_cons_zero,List.set_cons_succ]
     ·have ho2:=ho
      simp only[List.getElem?_toArray,List.getElem?_cons_succ,List.getElem?_cons_zero,Option.some.injEq]at ho2
      subst ho2
      clear hall
      simp only[nX,List.setIfInBounds_toArray,List.set_cons_zero,List.set_cons_succ]
      refine rZ ho fun K hK=>?_
      go_simp
      refine hK _ _ ⟨Nh,u44,u45,u46,u47,u48,u49,.agg #[.int .i64 x,.int .i64 y,.int .i64 z],u51,u52,u53,u8,E,V,M,A9,A2,c9,c2,?_,F.p6 hne hk1 hk0⟩
      simp only[Act.put,nX,List.setIfInBounds_toArray,List.set_cons_zero,List.set_cons_succ]
     ·have ho2:=ho
      simp only[List.getElem?_toArray,List.getElem?_cons_succ,List.getElem?_cons_zero,Option.some.injEq]at ho2
      subst ho2
      have q6:L.getD 6 false=true:=hall { on:=6,ground:=Ground.data } (by simp) rfl
      clear hall
      obtain rfl:=F.s6 q6
      simp only[nX,List.setIfInBounds_toArray,List.set_cons_zero,List.set_cons_succ]
      refine rZ ho fun K hK=>?_
      go_simp
      refine hK _ _ ⟨Nh,u44,u45,u46,u47,u48,u49,.agg #[.int .i64 x,.int .i64 y,.int .i64 z],.slice (some ⟨w.heap.size,0,none⟩) 1 1,u52,u53,u8,E,w.heap.size,M,A9,A2,c9,c2,?_,F.m7 hne hk1 hk0⟩
      simp only[Act.put,nX,List.setIfInBounds_toArray,List.set_cons_zero,List.set_cons_succ]
     ·have ho2:=ho
      simp only[List.getElem?_toArray,List.getElem?_cons_succ,List.getElem?_cons_zero,Option.some.injEq]at ho2
      subst ho2
      have q5:L.getD 5 false=true:=hall { on:=5,ground:=Ground.data } (by simp) rfl
      have q7:L.getD 7 false=true:=hall { on:=7,ground:=Ground.data } (by simp) rfl
      clear hall
      obtain rfl:=F.s5 q5
      obtain rfl:=F.s7 q7
      simp only[nX,List.setIfInBounds_toArray,List.set_cons_zero,List.set_cons_succ]
      refine rZ ho fun K hK=>?_
      refine uy k40 rfl (.tmp 49) (.tmp 51) 25 rfl 40 (.agg #[(.int .i64 0),(.int .i64 0),(.int .i64 0)]) 24 Tryz.underlying25 CZ rfl (by decide) (by decide) W7.heap.size W7 (.slice A9 ws.length c9) ws [⟨x,y,z⟩] (some ⟨V,0,none⟩) 1 1 (fun _=>True) TU TU (HKM _) (F.s5r q5 hk0) (afz k40 (cs:=[.int .i64 x,.int .i64 y,.int .i64 z]) (te:=40) ⟨x,y,z⟩ (F.s7b q7 hk0) (ac0 _ _)) (fun _ _=>trivial) F.bel (aG F.bel) (by first|omega|(simp;omega)) ?_
      intro v52 w52 aoW ath aoX
      obtain⟨A2',c2',ati,_,_⟩:=Kd.sG aoW
      subst ati
      refine hK _ _ ⟨Nh,u44,u45,u46,u47,u48,.slice A9 ws.length c9,u50,.slice (some ⟨V,0,none⟩) 1 1,.slice A2' (ws++[(⟨x,y,z⟩:S40)]).length c2',u53,u8,E,V,M,A9,A2',c9,c2',?_,F.a8 hne hk1 hk0 q5 ath aoX aoX.size aoW⟩
      simp only[Act.put,nX,List.setIfInBounds_toArray,List.set_cons_zero,List.set_cons_succ]
     ·have ho2:=ho
      simp only[List.getElem?_toArray,List.getElem?_cons_succ,List.getElem?_cons_zero,Option.some.injEq]at ho2
      subst ho2
      have q1:L.getD 1 false=true:=hall { on:=1,ground:=Ground.data } (by simp) rfl
      have q8:L.getD 8 false=true:=hall { on:=8,ground:=Ground.data } (by simp) rfl
      clear hall
      obtain rfl:=F.s1 q1
      obtain rfl:=F.s8 q8
      simp only[nX,List.setIfInBounds_toArray,List.set_cons_zero,List.set_cons_succ]
      refine rZ ho fun K hK=>?_
      go_simp
      have hlen:ws.length+1=(ws++[(⟨x,y,z⟩:S40)]).length:=by simp
      rw[hlen]
      refine hK _ _ ⟨Nh,u44,.slice A d.length c,u46,u47,u48,u49,u50,u51,.slice A2 (ws++[(⟨x,y,z⟩:S40)]).length c2,.agg #[.slice A d.length c,.slice A2 (ws++[(⟨x,y,z⟩:S40)]).length c2],u8,E,V,M,A9,A2,c9,c2,?_,F.p9 hne hk1 hk0 q8⟩
      simp only[Act.put,nX,List.setIfInBounds_toArray,List.set_cons_zero,List.set_cons_succ]
     ·have ho2:=ho
      simp only[List.getElem?_toArray,List.getElem?_cons_succ,List.getElem?_cons_zero,Option.some.injEq]at ho2
      subst ho2
      clear hall
      simp only[nX,List.setIfInBounds_toArray,List.set_cons_zero,List.set_cons_succ]
      refine rZ ho fun K hK=>?_
      go_simp
      refine hK _ _ ⟨Nh,u44,u45,u46,u47,u48,u49,u50,u51,u52,u53,.pointer (some ⟨w.heap.size,0,none⟩),E,V,w.heap.size,A9,A2,c9,c2,?_,F.m10 hne hk1 hk0⟩
      simp only[Act.put,nX,List.setIfInBounds_toArray,List.set_cons_zero,List.set_cons_succ]
     have ho2:=ho
     simp only[List.getElem?_toArray,List.getElem?_cons_succ,List.getElem?_cons_zero,Option.some.injEq]at ho2
     subst ho2
     have q10:L.getD 10 false=true:=hall { on:=10,ground:=Ground.data } (by simp) rfl
     have q9:L.getD 9 false=true:=hall { on:=9,ground:=Ground.data } (by simp) rfl
     have q8:L.getD 8 false=true:=hall { on:=8,ground:=Ground.chain } (by simp) rfl
     have q5:L.getD 5 false=true:=hall { on:=5,ground:=Ground.phase } (by simp) rfl
     clear hall
     obtain rfl:=F.s10 q10
     obtain rfl:=F.s9 q9
     simp only[nX,List.setIfInBounds_toArray,List.set_cons_zero,List.set_cons_succ]
     refine rZ ho fun K hK=>?_
     have m0:w.cell? ⟨M,0,none⟩=some (.slice none 0 0):=(aj (F.vK q10 hk0) 0).trans rfl
     have m1:w.cell? ⟨M,1,none⟩=some (.slice none 0 0):=(aj (F.vK q10 hk0) 1).trans rfl
     have mz0:=ak (F.vK q10 hk0) 0
     have mz1:=ak (F.vK q10 hk0) 1
     go_simp
     have hlen:ws.length+1=(ws++[(⟨x,y,z⟩:S40)]).length:=by simp
     rw[hlen]
     refine hK _ _ ⟨Nh,u44,u45,u46,u47,u48,u49,u50,u51,u52,.agg #[.slice A d.length c,.slice A2 (ws++[(⟨x,y,z⟩:S40)]).length c2],.pointer (some ⟨M,0,none⟩),E,V,M,A9,A2,c9,c2,?_,F.t11 hne hk1 hk0 q5 q8 q10⟩
     simp only[Act.put,nX,List.setIfInBounds_toArray,List.set_cons_zero,List.set_cons_succ]
end Go.Proofs.YtalkmhnlgfncmaaGreatDoor.X
end
section
/- The reference's R8Flow. Conditions: none. -/
namespace Go.Proofs.YtalkmhnlgfncmaaGreatDoor.X
open Go.RowKit Go.Proofs.YtalkmhnlgfncmaaGreatDoorW.aC Go.Proofs.YtalkmhnlgfncmaaGreatDoorW.aN Go.Proofs.YtalkmhnlgfncmaaGreatDoorW.aT
def mV.f (k:Nat) (l0:List Int):Option (List Int×List S40):=Ic k l0 0 0
set_option maxHeartbeats 4000000 in
set_option maxRecDepth 100000 in
theorem mV.calls (k:Nat) (A0:Option Addr) (c0:Nat) (l0:List Int) (r1:List Int) (r2:List S40) (w:World) (hr0:Kd.C (Kd.int .u8) w A0 l0.length l0) (hc0:l0.length≤c0) (h:mV.f k l0=some (r1,r2)):
  Calls Tryz.prog 5 #[.slice A0 l0.length c0] w fun e w'=>∃ v0_ v1_:Value,e= .returned (.agg #[v0_,v1_])∧Kd.R (Kd.int .i64) 2 w' w.heap.size (fun _=>True) v0_ r1∧Kd.R k40 40 w' w.heap.size (fun _=>True) v1_ r2∧Below w.heap.size w w':=by
 have HR:=ah.mk hr0
 have HC:=ah.mk hc0
 have HF:ah (Ic k l0 0 0=some (r1,r2)):=⟨h⟩
 have HB:=ah.mk (Below.refl w.heap.size w)
 clear hr0 hc0 h
 go_enter Tryz.func5,Tryz.ntmps5
 go_wp2_with (first
  |((with_reducible refine aH (N:=2) rfl ?_);refine qbx (N:=2) (cs:=#[.slice none 0 0,.slice none 0 0]) (t:=27) ?_;intro g2 hg wn bR hb;have GE2:=ah.mk (show w.heap.size≤g2 from xu HB);have BK2:=ah.mk bR;replace HB:=ah.mk (av HB.out hb);clear hb bR hg)
  |(go_at_call 16;(with_reducible refine(qB.calls A0 c0 l0 l0 0 0 w _ HB.out HR.out HC.out rfl).mono ?_);rintro e w71 ⟨g,rfl,hi,hb0,hb⟩;have HI:=ah.mk hi;have n1_:=ah.mk (aA BK2.out hb);clear HB BK2 hb hi;have HB:=ah.mk hb0;have BK2:=n1_;clear n1_ hb0)
  |(go_at_call 17;(with_reducible refine(KG k g l0 0 0 r1 r2 w _ HI.out HB.out HF.out).mono ?_);rintro e w72 ⟨v0,v1,rfl,h1,h2,hb,hk⟩;have n1_:=ah.mk (hk.blk BK2.out (HI.out.zU BK2.out (by decide)).symm (by simp));have HL:=ah.mk (aG HB.out);have H1:=ah.mk (Kd.dV h1 HL.out);have H2:=ah.mk (Kd.dV h2 HL.out);clear HI BK2 h1 h2 hk HB;have HB:=ah.mk hb;have BK2:=n1_;clear n1_ hb;obtain⟨A1,c1,rfl,_,_⟩:=Kd.sG H1.out;obtain⟨A2,c2,rfl,_,_⟩:=Kd.sG H2.out;have as6:w72.cell? ⟨g2,0,none⟩=some (.slice none 0 0):=(aj BK2.out 0).trans rfl;have as7:w72.cell? ⟨g2,1,none⟩=some (.slice none 0 0):=(aj BK2.out 1).trans rfl;have as8:=ak BK2.out 0;have as9:=ak BK2.out 1))
 refine bodyPost_ret (results_cell_row rfl _ _ g2 27 #[.slice A1 r1.length c1,.slice A2 r2.length c2] (0,0) _ rfl (aa6 BK2.out _ _) Tryz.underlying27 rfl qz9) rfl ?_
 exact⟨_,_,rfl,afF H1.out BK2.out (by decide) rfl _ _,afF H2.out BK2.out (by decide) rfl _ _,Below.setCell (p:=⟨g2,1,none⟩) (Below.setCell (p:=⟨g2,0,none⟩) HB.out GE2.out _) GE2.out _⟩
end Go.Proofs.YtalkmhnlgfncmaaGreatDoor.X
end
section
/- Drawn flows are valid. Conditions: the bytes are bytes. -/
namespace Go.Proofs.YtalkmhnlgfncmaaGreatDoor.X
open Go.RowKit Go.Proofs.YtalkmhnlgfncmaaGreatDoorW.aC Go.Proofs.YtalkmhnlgfncmaaGreatDoorW.aN Go.Proofs.YtalkmhnlgfncmaaGreatDoorW.aT Go.Proofs.YtalkmhnlgfncmaaGreatDoor.iP
/-- Bytes, as numbers. -/
def Byt (l:List Int):Prop:=∀ x∈l,0≤x∧x≤255
theorem Xl {l:List Int} (h:∀ x∈l,(Lit.int .u8 x).wf=true):Byt l:=by
 intro x hx
 have:=h x hx
 have h2:IntKind.u8.min≤x∧x≤IntKind.u8.max:=by
  unfold Lit.wf at this
  simpa using this
 have e1:IntKind.u8.min=0:=by decide
 have e2:IntKind.u8.max=255:=by decide
 omega
theorem Sd (x:Int):0≤IntKind.u64.wrap x / 1099511627776∧IntKind.u64.wrap x / 1099511627776<2 ^ 24:=by
 have:IntKind.u64.wrap x=x % 18446744073709551616:=by simp[IntKind.wrap,IntKind.bits,IntKind.signed]
 rw[this];omega
theorem wraps_u64 (n:Int) (h0:0≤n) (h1:n<2 ^ 24):IntKind.u64.wrap n=n:=by
 have:IntKind.u64.wrap n=n % 18446744073709551616:=by simp[IntKind.wrap,IntKind.bits,IntKind.signed]
 rw[this];omega
theorem afH (x:Int) (h0:0≤x) (h1:x<2 ^ 24):Go.bits .and .u64 x 255=x % 256:=Go.bits_mask .u64 24 (by decide) wraps_u64 8 (by decide) x h0 h1
theorem Sg (l:List Int) (hb:Byt l) (i:Nat) (hi:i≤1000000) (h:Int):∃ v h':Int,fU.f l i h=some (v,(i:Int)+1,h')∧0≤v∧v≤255:=by
 unfold fU.f
 rw[w64 (n:=(i:Int)+1) (by omega) (by omega)]
 by_cases hl:i<l.length
 ·have hm:=hb _ (List.getElem_mem hl)
  rw[if_pos (by omega),if_pos (by omega),if_pos (by omega),qQ l i hl,w64 (n:=l[i]) (by omega) (by omega)]
  exact⟨_,_,rfl,hm.1,hm.2⟩
 rw[if_neg (by omega),if_neg (by omega)]
 have hz:=Sd ((IntKind.u64.wrap (IntKind.u64.wrap (h*6364136223846793005)))+1442695040888963407)
 rw[afH _ hz.1 hz.2,w64 (by omega) (by omega)]
 exact⟨_,_,rfl,by omega,by omega⟩
theorem xR (l:List Int) (hb:Byt l) (i:Nat) (hi:i≤900000) (h n:Int) (hn:n≤60000):∃ (v:Int) (j:Nat) (h':Int),dI.f l i h n=some (v,(j:Int),h')∧i≤j∧j≤i+2∧0≤v∧(v<n∨v=0):=by
 unfold dI.f
 by_cases h1:n≤1
 ·rw[if_pos h1];exact⟨0,i,h,rfl,by omega,by omega,by omega,.inr rfl⟩
 rw[if_neg h1]
 obtain⟨v,h2,e,hv⟩:=Sg l hb i (by omega) h
 rw[e,Option.bind_some]
 simp only
 by_cases h3:n>200
 ·obtain⟨v2,h4,e2,hv2⟩:=Sg l hb (i+1) (by omega) h2
  rw[Int.natCast_add,Int.natCast_one]at e2
  rw[if_pos h3,e2,Option.bind_some,if_neg (by omega)]
  simp only
  rw[w64 (n:=v*256) (by omega) (by omega),w64 (n:=v*256+v2) (by omega) (by omega),XO (by omega)]
  have:=Int.emod_nonneg (v*256+v2) (show n≠0 by omega)
  have:=Int.emod_lt_of_pos (v*256+v2) (show 0<n by omega)
  exact⟨_,i+2,h4,by rw[Int.natCast_add];rfl,by omega,by omega,by omega,.inl (by omega)⟩
 rw[if_neg h3,if_neg (by omega),XO (by omega)]
 have:=Int.emod_nonneg v (show n≠0 by omega)
 have:=Int.emod_lt_of_pos v (show 0<n by omega)
 exact⟨_,i+1,h2,by rw[Int.natCast_add];rfl,by omega,by omega,by omega,.inl (by omega)⟩
theorem Ie (code:List Int) (hb:Byt code) (n:Nat) (hn:n≤8):∀ (e v f:Nat) (d:List Int) (a:Nat) (s:Int),v+e=n→d.length=v→(∀ x,x∈d→0≤x∧x≤100)→a+2*e≤1000→e<f→
  ∃ (d':List Int) (a':Nat) (s':Int),yA code n f v d a s=some (d',(a':Int),s')∧d'.length=n∧(∀ x,x∈d'→0≤x∧x≤100)∧a'≤1000
 |0,v,f,d,a,s,hv,hd,hx,ha,hf=>by
  obtain⟨f,rfl⟩:∃ q,f=q+1:=⟨f - 1,by omega⟩
  exact⟨d,a,s,by rw[yA,if_neg (by omega)],by omega,hx,by omega⟩
 |e+1,v,f,d,a,s,hv,hd,hx,ha,hf=>by
  obtain⟨f,rfl⟩:∃ q,f=q+1:=⟨f - 1,by omega⟩
  obtain⟨x,j,h',h1,h2,h3,h4,h5⟩:=xR code hb a (by omega) s 9 (by omega)
  obtain⟨d',a',s',g1,g2,g3,g4⟩:=Ie code hb n hn e (v+1) f (d++[x]) j h' (by omega) zT (fun y hy=>by
   rcases List.mem_append.1 hy with hy|hy
   ·exact hx y hy
   rw[List.mem_singleton]at hy;subst hy;omega) (by omega) (by omega)
  refine⟨d',a',s',?_,g2,g3,g4⟩
  rw[yA,if_pos (by omega),if_pos ⟨by omega,by omega⟩,h1,Option.bind_some]
  exact g1
theorem BI (K:Nat) (hK:9000000<K) (code:List Int) (hb:Byt code) (n:Int) (hn:n≤60000) (d:List Int):∀ (e:Nat) (ws:List S40) (a:Nat) (s:Int),iV d ws=true→e≤1000→a+6*e≤10000→∃ ws',wO K code n d e ws a s=some ws'∧iV d ws'=true
 |0,ws,a,s,hv,he,ha=>⟨ws,rfl,hv⟩
 |e+1,ws,a,s,hv,he,ha=>by
  have hf:wE d ws=true:=by unfold iV at hv;rw[Bool.and_eq_true]at hv;exact hv.1
  obtain⟨hdl,hm,_,_⟩:=tN hf
  obtain⟨x,j,h',h1,h2,h3,_⟩:=xR code hb a (by omega) s n hn
  obtain⟨y,j2,h2',k1,k2,k3,_⟩:=xR code hb j (by omega) h' n hn
  obtain⟨z,j3,h3',l1,l2,l3,_⟩:=xR code hb j2 (by omega) h2' 3 (by omega)
  rw[wO,if_pos (by omega),h1,Option.bind_some]
  simp only
  rw[k1,Option.bind_some]
  simp only
  rw[l1,Option.bind_some]
  simp only
  rw[JK K d (ws++[(⟨x,y,z⟩:S40)]) (by omega) zT (by omega),Option.bind_some]
  cases hb2:iV d (ws++[(⟨x,y,z⟩:S40)])with
  |false=>rw[if_neg (by decide)];exact BI K hK code hb n hn d e ws j3 h3' hv (by omega) (by omega)
  |true=>rw[if_pos rfl];exact BI K hK code hb n hn d e _ j3 h3' hb2 (by omega) (by omega)
theorem Si (d:List Int) (h1:1≤d.length) (h8:d.length≤8) (hd:∀ x,x∈d→0≤x∧x≤100):iV d []=true:=by
 unfold iV wE
 have hno:¬ ∃ v,Plus (X.Edge []) v v:=by
  rintro⟨v,hv⟩
  have:∀ a b,¬X.Edge [] a b:=fun a b ⟨w,hw,_⟩=>by cases hw
  cases hv with
  |one e=>exact this _ _ e
  |step e _=>exact this _ _ e
 have ha:(d.any fun x=> !inB x 0 100)=false:=by
  rw[List.any_eq_false]
  intro x hx
  have:=hd x hx
  unfold inB
  simp;omega
 rw[ha,@decide_eq_false _ (Classical.propDecidable _) hno,decide_eq_true ⟨h1,h8⟩]
 simp
theorem aa7 (K:Nat) (hK:9000000<K) (code:List Int) (hb:Byt code):∃ d ws,mV.f K code=some (d,ws)∧iV d ws=true:=by
 unfold mV.f Ic
 obtain⟨x,j,h',h1,h2,h3,h4,h5⟩:=xR code hb 0 (by omega) 0 5 (by omega)
 rw[show ((0:Nat):Int)=0 from rfl]at h1
 obtain⟨n,rfl⟩:=Int.eq_ofNat_of_zero_le h4
 rw[h1,Option.bind_some]
 simp only
 rw[w64 (n:=1+(n:Int)) (by omega) (by omega),show (1:Int)+(n:Int)=((n+1:Nat):Int) by omega]
 obtain⟨d,a,s,g1,g2,g3,g4⟩:=Ie code hb (n+1) (by omega) (n+1) 0 K [] j h' (by omega) rfl (fun x hx=>by cases hx) (by omega) (by omega)
 rw[g1,Option.bind_some]
 simp only
 obtain⟨r,j2,h2',k1,k2,k3,k4,k5⟩:=xR code hb a (by omega) s 9 (by omega)
 rw[k1,Option.bind_some]
 simp only
 rw[if_pos ⟨k4,by omega⟩]
 obtain⟨ws,l1,l2⟩:=BI K hK code hb ((n+1:Nat):Int) (by omega) d r.toNat [] j2 h2' (Si d (by omega) (by omega) g3) (by omega) (by omega)
 rw[l1,Option.bind_some]
 exact⟨d,ws,rfl,l2⟩
end Go.Proofs.YtalkmhnlgfncmaaGreatDoor.X
end
section
namespace Go.Proofs.YtalkmhnlgfncmaaGreatDoor.X
open Go.RowKit Go.Proofs.YtalkmhnlgfncmaaGreatDoorW.aC Go.Proofs.YtalkmhnlgfncmaaGreatDoorW.aN Go.Proofs.YtalkmhnlgfncmaaGreatDoorW.aT
attribute [local go_sem] fq fu gJ gK dN dO fA fB
theorem amA (d:Nat) (w:World) (x0 y0:Int) (x1 y1:Int) (x2 y2:Int):
  (Op.equalIn (d+2) 40 (.agg #[.int .i64 x0,.int .i64 x1,.int .i64 x2]) (.agg #[.int .i64 y0,.int .i64 y1,.int .i64 y2])).run Tryz.prog w= .ok (x0==y0&&(x1==y1&&(x2==y2))) w:=by
 refine acQ Tryz.underlying40 qz9 ?_
 refine KP (by rfl) (by go_simp;rfl) (by go_simp;rfl) (by go_simp) ?_
 refine KP (by rfl) (by go_simp;rfl) (by go_simp;rfl) (by go_simp) ?_
 exact TI (by rfl) (by go_simp;rfl) (by go_simp;rfl) (by go_simp)
end Go.Proofs.YtalkmhnlgfncmaaGreatDoor.X
end
section
namespace Go.Proofs.YtalkmhnlgfncmaaGreatDoor.X
open Go.RowKit Go.Proofs.YtalkmhnlgfncmaaGreatDoorW.aC Go.Proofs.YtalkmhnlgfncmaaGreatDoorW.aN Go.Proofs.YtalkmhnlgfncmaaGreatDoorW.aT
attribute [local go_sem] fq fu gJ gK dN dO fA fB
/-! ### laws_r8Long: function 4 -/
def lN.f (l0:List Int) (l1:List Int):Option (Bool):=if (l0.length:Int)>48 then(some true)else(some (decide ((l1.length:Int)>48)))
set_option maxHeartbeats 8000000 in
set_option maxRecDepth 100000 in
theorem lN.calls (A0:Option Addr) (c0:Nat) (l0:List Int) (A1:Option Addr) (c1:Nat) (l1:List Int) (r:Bool) (w:World) (hr0:Kd.C (Kd.int .u8) w A0 l0.length l0) (hc0:l0.length≤c0) (hr1:Kd.C (Kd.int .u8) w A1 l1.length l1) (hc1:l1.length≤c1) (h:lN.f l0 l1=some r):
  Calls Tryz.prog 4 #[.slice A0 l0.length c0,.slice A1 l1.length c1] w fun e w'=>e= .returned (.bool r)∧gQ w w':=by
 have HR0:=ah.mk hr0
 have HC0:=ah.mk hc0
 clear hr0 hc0
 have HR1:=ah.mk hr1
 have HC1:=ah.mk hc1
 clear hr1 hc1
 have H:(if (l0.length:Int)>48 then(some true)else(some (decide ((l1.length:Int)>48))))=some r:=h
 clear h
 by_cases c3:(l0.length:Int)>48
 ·rw[if_pos c3]at H
  have Cy:decide (48<(l0.length:Int))=true:=decide_eq_true c3
  have Ww:decide (48<l0.length)=true:=decide_eq_true (by omega)
  clear c3
  obtain rfl:=Option.some.inj H
  go_enter Tryz.func4,Tryz.ntmps4
  go_wp2
  go_ret
  exact⟨iY,vM⟩
 ·rw[if_neg c3]at H
  have Cy:decide (48<(l0.length:Int))=false:=decide_eq_false c3
  have Ww:decide (48<l0.length)=false:=decide_eq_false (by omega)
  clear c3
  obtain rfl:=Option.some.inj H
  go_enter Tryz.func4,Tryz.ntmps4
  go_wp2
  go_ret
  exact⟨iY,vM⟩
end Go.Proofs.YtalkmhnlgfncmaaGreatDoor.X
end
