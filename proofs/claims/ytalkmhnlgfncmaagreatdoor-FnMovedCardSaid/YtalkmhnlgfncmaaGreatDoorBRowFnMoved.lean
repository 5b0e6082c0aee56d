import Derived.Test.YtalkmhnlgfncmaaGreatDoorRows
import Derived.Test.YtalkmhnlgfncmaaGreatDoorI36
import Derived.WalkKit
import Derived.ProofKit
import Derived.OpenShut
import Derived.ShutString
import Derived.ChangeOld
import Derived.Below
import Derived.SizedLaws
import Derived.Lib.SmallJoins
import Derived.Test.YtalkmhnlgfncmaaGreatDoorCards
import Derived.Test.YtalkmhnlgfncmaaGreatDoorTie
import Derived.LaidMore
import Derived.Lay
import Derived.SevenTiedAt
import Derived.Stop.Joined
import Derived.Test.YtalkmhnlgfncmaaGreatDoorI35
set_option linter.unusedVariables false
set_option linter.unusedSimpArgs false
/- The law FnMoved holds: its call returns true for all arguments and leaves them as they were. Conditions: none. -/
namespace Go.Proofs.YtalkmhnlgfncmaaGreatDoor.fnMoved
open Go.ChangeShapes Go.WideShapes Go.ChangeAt Go.RowKit
open Go.ChangeMaps (open_string shut_string)
theorem own:ownKnob Tryz.prog.godebug=none:=by kernel_rfl
theorem laidOut:laidOutB Tryz.prog=true:=by kernel_rfl
def IsRow (k:IntKind) (w:World) (a:Option Addr) (len cap:Nat) (zs:List Int):Prop:=
 (a=none∧len=0∧cap=0∧zs=[])∨
 ∃ x,a=some x∧len≤cap∧cap≤maxLen∧zs.length=cap∧(∀ i,i<zs.length→w.cell? (x.add i)=some (.int k (zs.getD i 0)))∧∀ n∈zs,(Lit.int k n).wf=true
theorem tab64_of {W:World} (h:laidMetH Tryz.prog Rows.fnMovedRow.laid W):Go.Proofs.YtalkmhnlgfncmaaGreatDoor.X.Fh W:=by
 rw[MakeChecks.laidMetH_plain _ _ _ (by kernel_rfl)]at h
 obtain⟨ps,h0,_⟩:=h
 obtain⟨_,_,_,_,_,_,_,_,_,_,h1,_⟩:=h0
 obtain⟨_,_,_,_,_,_,_,_,_,_,h2,_⟩:=h1
 obtain⟨g',t',cs,fuel,p,q,hg',ht',hvar,hd,_,_⟩:=h2
 obtain⟨g,hg,t,hty,n,e,ht,he,hce,hct⟩:∃ g,Tryz.prog.globalNamed "internal/strconv.uint64pow10" =some g∧∃ t,(Tryz.prog.globals[g]?).map (·.type)=some t∧∃ n e,Tryz.prog.underlying t=some (.array n e)∧Tryz.prog.underlying e=some (.int .u64)∧Tryz.prog.cellsOf e=1∧Tryz.prog.cellsOf t=n:=⟨1,by kernel_rfl,131,by kernel_rfl,20,70,by kernel_rfl,by kernel_rfl,by kernel_rfl,by kernel_rfl⟩
 obtain rfl:=Option.some.inj (hg.symm.trans hg')
 obtain rfl:=Option.some.inj (hty.symm.trans ht')
 unfold Go.Proofs.YtalkmhnlgfncmaaGreatDoor.X.Fh Lib.TabIs
 rw[hvar, ← Lib.cells_of_tab (zs:=Lib.pow10Tab) ht he hce hct ((congrArg (fun d=>some (d,p)) (show Rows.laid_internal_strconv_uint64pow10=Lib.tabData .u64 Lib.pow10Tab from by kernel_rfl)) ▸ hd)]
theorem iface_of {P:Program} {w:World} {sp:Nat→Bool} {fuel:Nat} {t:TypeId} {cs:List Value} {nm:String} {d:DataW Unit} {p:List MemPlace} (hi:(match P.underlying t with|some (.interface _)=>true|_=>false)=true)
  (h:DataW.trod (fun _=>()) P w 0 sp false fuel t cs=some (.iface nm d,p)):∃ u v,cs=[.iface u v]:=by
 cases fuel with
 |zero=>simp[DataW.trod]at h
 |succ fuel=>
  split at hi
  case h_2=>cases hi
  case h_1 ms hu=>
  unfold DataW.trod at h
  rw[hu]at h
  match cs,h with
  |[.iface u v],_=>exact⟨u,v,rfl⟩
  |[.nilIface],h=>simp at h
theorem env_of {W:World} (h:laidMetH Tryz.prog Rows.fnMovedRow.laid W):Go.Proofs.YtalkmhnlgfncmaaGreatDoor.X.Dr W:=by
 refine⟨tab64_of h,?_⟩
 rw[MakeChecks.laidMetH_plain _ _ _ (by kernel_rfl)]at h
 obtain⟨ps,h0,_⟩:=h
 obtain⟨_,_,_,_,_,_,_,_,_,_,h1,_⟩:=h0
 obtain⟨_,_,_,_,_,_,_,_,_,_,h2,_⟩:=h1
 obtain⟨_,_,_,_,_,_,_,_,_,_,h3,_⟩:=h2
 obtain⟨_,_,_,_,_,_,_,_,_,_,h4,_⟩:=h3
 obtain⟨g4,t4,cs4,auk,p4,q4,hg4,ht4,am8,hd4,h5,_⟩:=h4
 obtain rfl:=Option.some.inj ((show Tryz.prog.globalNamed "strconv.ErrRange" =some 5 by kernel_rfl).symm.trans hg4)
 obtain rfl:=Option.some.inj ((show (Tryz.prog.globals[5]?).map (·.type)=some 94 by kernel_rfl).symm.trans ht4)
 obtain⟨u4,v4,aul⟩:=iface_of (by kernel_rfl) hd4
 have hc4:W.cell? ⟨5,0,none⟩=some (.iface u4 v4):=by rw[World.var?_cell hg4 am8 0, ← Array.getElem?_toList,aul];rfl
 obtain⟨g5,t5,cs5,aum,p5,q5,hg5,ht5,am9,hd5,h6,_⟩:=h5
 obtain rfl:=Option.some.inj ((show Tryz.prog.globalNamed "strconv.ErrSyntax" =some 4 by kernel_rfl).symm.trans hg5)
 obtain rfl:=Option.some.inj ((show (Tryz.prog.globals[4]?).map (·.type)=some 94 by kernel_rfl).symm.trans ht5)
 obtain⟨u5,v5,aun⟩:=iface_of (by kernel_rfl) hd5
 have hc5:W.cell? ⟨4,0,none⟩=some (.iface u5 v5):=by rw[World.var?_cell hg5 am9 0, ← Array.getElem?_toList,aun];rfl
 exact⟨⟨_,_,hc5⟩,⟨_,_,hc4⟩⟩
set_option maxRecDepth 100000 in
theorem lifted (os:Os) (started:os.Started) (H:Type) (enc:TypeId×Value→H):
  ReturnsInHanded {} Tryz.checked os 3 .any (fun w args=>(Rows.fnMovedSpec.pre enc Tryz.prog Tryz.f3 Rows.fnMovedRow.domain false w args∧laidMetH Tryz.prog Rows.fnMovedRow.laid w)∧sizedMet enc Tryz.prog Tryz.f3 (OpenSpec.ofChange Rows.fnMovedSpec) false w args)
   (Rows.fnMovedSpec.post enc Tryz.prog Tryz.f3 false true false false):=by
 refine returnsInHanded_of_change_and (C:=Tryz.checked) (X:=fun w _=>laidMetH Tryz.prog Rows.fnMovedRow.laid w) (fun _ _ _ hh h=>h.of_heap hh) own started (by kernel_rfl) Tryz.func3
  (ChangeSpec.witness_shaped (enc:=enc) (C:=Tryz.checked) (os:=os) (X:=fun w _=>laidMetH Tryz.prog Rows.fnMovedRow.laid w) false (World.laidAll Tryz.prog os Rows.fnMovedRow.laid) #[.slice none 0 0,.slice none 0 0] 8 (World.laidAll_os _ _ _)
   (World.shaped_of_ZipB (by kernel_rfl) (by kernel_rfl)) (by kernel_rfl) (by kernel_rfl) (by kernel_rfl)
   (by rw[MakeChecks.laidMetH_plain _ _ _ (by kernel_rfl)];exact laidMet_laidAll _ (by kernel_rfl) (by kernel_rfl))) ?_
 intro W base args ds gs before hval0 hW _ hsz0 hX _
 have hsz:(DataW.weightsEach Tryz.prog (Tryz.f3.params.toList++Rows.fnMovedSpec.plain.varTypes Tryz.prog) (ds++gs)).all (· ≤reachBytes)=true:=hsz0
 have hval:∀ (j:Nat) t v,Tryz.f3.params[j]?=some t→args[j]?=some v→Value.okWide Tryz.prog W .any base t v:=hval0
 have hW':=hW
 obtain⟨p,q,hA0,hV,rfl,_,_⟩:=hW
 have hA:DataW.TrodAll enc Tryz.prog W 0 (fun _=>true) true Tryz.f3.params.toList args.toList ds p:=hA0
 rw[Tryz.params3]at hA hval hsz
 obtain⟨v0,vs0,d0,ds0,p0,q0,hargs,rfl,rfl,h0,r0⟩:=trodAll_cons hA
 obtain⟨v1,vs1,d1,ds1,p1,q1,rfl,rfl,rfl,h1,r1⟩:=trodAll_cons r0
 obtain⟨rfl,rfl,rfl⟩:=trodAll_nil r1
 obtain rfl:args= #[v0,v1]:=by cases args;simp_all
 obtain⟨rfl,rfl⟩:=trodVars_none hV
 obtain⟨a0,Xq,cap0,rfl⟩:=okWide_slice Tryz.underlying22 (hval 0 22 v0 rfl rfl)
 have k0:=h0
 have lt0:∀ x∈p0,x.block<W.heap.size:=by obtain⟨m,hm⟩:=k0;exact DataW.trod_lt m _ _ _ hm
 obtain⟨z0,w0⟩:∃ zs,IsRow .u8 W a0 Xq cap0 zs:=by
  obtain⟨fuel,hf⟩:=h0
  rcases open_ints Tryz.underlying22 Tryz.underlying5 (by kernel_rfl) hf with⟨hcs,_⟩|⟨x,l,c,zs,hcs,_,hl,hm,hz,_,hcell,hwz⟩
  ·simp[Value.cells]at hcs
   obtain⟨rfl,rfl,rfl⟩:=hcs
   exact⟨[],.inl ⟨rfl,rfl,rfl,rfl⟩⟩
  simp[Value.cells]at hcs
  obtain⟨rfl,rfl,rfl⟩:=hcs
  exact⟨zs,.inr ⟨_,rfl,hl,hm,by simpa using hz,hcell,hwz⟩⟩
 have y0:Xq*1≤140737488351232:=Go.Proofs.YtalkmhnlgfncmaaGreatDoorW.aC.Dx hsz (j:=0) (t:=22) rfl rfl Tryz.underlying22 Tryz.underlying5 (by kernel_rfl) (by kernel_rfl) h0
 obtain⟨a1,len1,Xr,rfl⟩:=okWide_slice Tryz.underlying22 (hval 1 22 v1 rfl rfl)
 have k1:=h1
 have lt1:∀ x∈p1,x.block<W.heap.size:=by obtain⟨m,hm⟩:=k1;exact DataW.trod_lt m _ _ _ hm
 obtain⟨z1,w1⟩:∃ zs,IsRow .u8 W a1 len1 Xr zs:=by
  obtain⟨fuel,hf⟩:=h1
  rcases open_ints Tryz.underlying22 Tryz.underlying5 (by kernel_rfl) hf with⟨hcs,_⟩|⟨x,l,c,zs,hcs,_,hl,hm,hz,_,hcell,hwz⟩
  ·simp[Value.cells]at hcs
   obtain⟨rfl,rfl,rfl⟩:=hcs
   exact⟨[],.inl ⟨rfl,rfl,rfl,rfl⟩⟩
  simp[Value.cells]at hcs
  obtain⟨rfl,rfl,rfl⟩:=hcs
  exact⟨zs,.inr ⟨_,rfl,hl,hm,by simpa using hz,hcell,hwz⟩⟩
 have y1:len1*1≤140737488351232:=Go.Proofs.YtalkmhnlgfncmaaGreatDoorW.aC.Dx hsz (j:=1) (t:=22) rfl rfl Tryz.underlying22 Tryz.underlying5 (by kernel_rfl) (by kernel_rfl) h1
 clear hA0 hval0 hsz0 hsz
 refine(Go.Proofs.YtalkmhnlgfncmaaGreatDoor.X.ay.walk Go.Proofs.YtalkmhnlgfncmaaGreatDoor.X.Ik a0 Xq cap0 z0 a1 len1 Xr z1 W (env_of hX) w0 y0 w1 y1).mono fun e W' ⟨he,bel⟩=>?_
 subst he
 exact⟨_,rfl,_,_,_,[],_,[],hW',trodAll_mk1 (shut_bool Tryz.underlying4 _),(trodAll_cons_mk (Below.trod laidOut (by kernel_rfl) (of_decide_eq_true (by kernel_rfl)) k0 bel lt0) (trodAll_cons_mk (Below.trod laidOut (by kernel_rfl) (of_decide_eq_true (by kernel_rfl)) k1 bel lt1) trodAll_mk0)),rfl,bel.frame _,fun h=>by cases h⟩
theorem over:Rows.fnMovedRow.holds Tryz.pinned (OpenSpec.ofChange Rows.fnMovedSpec):=
 OpenClaim.holds_of_wide 3 Tryz.f3 rfl rfl rfl rfl rfl rfl rfl ⟨rfl,rfl,rfl,rfl,rfl⟩ rfl rfl rfl rfl rfl (by kernel_rfl) Tryz.func3 (by kernel_rfl)
  (of_decide_eq_true (by kernel_rfl)) (by unfold Func.isWrapper;first|(rw[if_pos (by decide+kernel)];kernel_rfl)|(rw[if_neg (by decide+kernel)];exact⟨rfl,rfl⟩))
  (fun os started H enc _=>lifted os started H enc)
theorem proved:Rows.FnMovedCardSaid:=
 Claim7.holds_tied_plain_at .later [] [.data,.data,.data,.data,.sentinel,.sentinel,.pinned] true (true, "de6c88d5e9a0f4e4ebca39aa99b652177372c95859ddfb194928fdcd80765e65") true over (fun _ h=>by cases h) (by kernel_rfl) (fun _ h=>by cases h) fnMoved_row_tie rfl ⟨rfl,rfl⟩ (by kernel_rfl) rfl
  (fun f fn hf hfn=>by
   obtain rfl:f=3:=Option.some.inj ((show Tryz.prog.funcNamed "loop.example/g01153/laws.FnMoved" =some 3 by kernel_rfl).symm.trans hf) |>.symm
   obtain rfl:fn=Tryz.f3:=(Option.some.inj (Tryz.func3.symm.trans hfn)).symm
   exact⟨by kernel_rfl,fun j t ht=>by
    rw[Tryz.params3]at ht
    have hm:t∈[22,22]:=by simpa using Array.mem_of_getElem? ht
    have hall:([22,22].all fun u=> !Tryz.prog.wantsStandIn u)=true:=by kernel_rfl
    exact(show Tryz.prog.wantsStandIn t=false by simpa using List.all_eq_true.1 hall t hm)⟩)
  (by kernel_rfl)
#print axioms proved
end Go.Proofs.YtalkmhnlgfncmaaGreatDoor.fnMoved
namespace Go.Proofs.YtalkmhnlgfncmaaGreatDoor
/-- The row, under a short name, for the claim. -/
theorem fnMoved_holds:Rows.FnMovedCardSaid:=fnMoved.proved
end Go.Proofs.YtalkmhnlgfncmaaGreatDoor
