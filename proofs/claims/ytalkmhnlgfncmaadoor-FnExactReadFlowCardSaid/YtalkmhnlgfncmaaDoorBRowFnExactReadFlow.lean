import Derived.Test.YtalkmhnlgfncmaaDoorRows
import Derived.Test.YtalkmhnlgfncmaaDoorH31
import Derived.WalkKit
import Derived.ProofKit
import Derived.OpenShut
import Derived.ShutString
import Derived.ChangeOld
import Derived.Below
import Derived.SizedLaws
import Derived.Lib.SmallJoins
import Derived.Test.YtalkmhnlgfncmaaDoorCards
import Derived.Test.YtalkmhnlgfncmaaDoorTie
import Derived.LaidMore
import Derived.Lay
import Derived.SevenTiedAt
import Derived.Stop.Joined
import Derived.Test.YtalkmhnlgfncmaaDoorH30
/- The law FnExactReadFlow holds: its call returns true for all arguments and leaves them as they were. Conditions: none. -/
namespace Go.Proofs.YtalkmhnlgfncmaaDoor.fnExactReadFlow
open Go.ChangeShapes Go.WideShapes Go.ChangeAt Go.RowKit
open Go.ChangeMaps (open_string shut_string)
set_option linter.unusedVariables false
theorem own : ownKnob Tryd.prog.godebug = none := by kernel_rfl
theorem laidOut : laidOutB Tryd.prog = true := by kernel_rfl
theorem tab64_of {W : World} (h : laidMetH Tryd.prog Rows.fnExactReadFlowRow.laid W) : Go.Proofs.YtalkmhnlgfncmaaDoor.X.Tab64 W := by
  rw [MakeChecks.laidMetH_plain _ _ _ (by kernel_rfl)] at h
  obtain ⟨ps, h0, _⟩ := h
  obtain ⟨_, _, _, _, _, _, _, _, _, _, h1, _⟩ := h0
  obtain ⟨_, _, _, _, _, _, _, _, _, _, h2, _⟩ := h1
  obtain ⟨g', t', cs, fuel, p, q, hg', ht', hvar, hd, _, _⟩ := h2
  obtain ⟨g, hg, t, hty, n, e, ht, he, hce, hct⟩ : ∃ g, Tryd.prog.globalNamed "internal/strconv.uint64pow10" = some g ∧ ∃ t, (Tryd.prog.globals[g]?).map (·.type) = some t ∧ ∃ n e, Tryd.prog.underlying t = some (.array n e) ∧ Tryd.prog.underlying e = some (.int .u64) ∧ Tryd.prog.cellsOf e = 1 ∧ Tryd.prog.cellsOf t = n := ⟨1, by kernel_rfl, 126, by kernel_rfl, 20, 108, by kernel_rfl, by kernel_rfl, by kernel_rfl, by kernel_rfl⟩
  obtain rfl := Option.some.inj (hg.symm.trans hg')
  obtain rfl := Option.some.inj (hty.symm.trans ht')
  unfold Go.Proofs.YtalkmhnlgfncmaaDoor.X.Tab64 Lib.TabIs
  rw [hvar, ← Lib.cells_of_tab (zs := Lib.pow10Tab) ht he hce hct ((congrArg (fun d => some (d, p)) (show Rows.laid_internal_strconv_uint64pow10 = Lib.tabData .u64 Lib.pow10Tab from by kernel_rfl)) ▸ hd)]
theorem iface_of {P : Program} {w : World} {sp : Nat → Bool} {fuel : Nat} {t : TypeId} {cs : List Value} {nm : String} {d : DataW Unit} {p : List MemPlace} (hi : (match P.underlying t with | some (.interface _) => true | _ => false) = true)
    (h : DataW.trod (fun _ => ()) P w 0 sp false fuel t cs = some (.iface nm d, p)) : ∃ u v, cs = [.iface u v] := by
  cases fuel with
  | zero => simp [DataW.trod] at h
  | succ fuel =>
    split at hi
    case h_2 => cases hi
    case h_1 ms hu =>
    unfold DataW.trod at h
    rw [hu] at h
    match cs, h with
    | [.iface u v], _ => exact ⟨u, v, rfl⟩
    | [.nilIface], h => simp at h
theorem env_of {W : World} (h : laidMetH Tryd.prog Rows.fnExactReadFlowRow.laid W) : Go.Proofs.YtalkmhnlgfncmaaDoor.X.EnvR W := by
  refine ⟨tab64_of h, ?_⟩
  rw [MakeChecks.laidMetH_plain _ _ _ (by kernel_rfl)] at h
  obtain ⟨ps, h0, _⟩ := h
  obtain ⟨_, _, _, _, _, _, _, _, _, _, h1, _⟩ := h0
  obtain ⟨_, _, _, _, _, _, _, _, _, _, h2, _⟩ := h1
  obtain ⟨_, _, _, _, _, _, _, _, _, _, h3, _⟩ := h2
  obtain ⟨_, _, _, _, _, _, _, _, _, _, h4, _⟩ := h3
  obtain ⟨g4, t4, cs4, fuel4, p4, q4, hg4, ht4, hvar4, hd4, h5, _⟩ := h4
  obtain rfl := Option.some.inj ((show Tryd.prog.globalNamed "strconv.ErrRange" = some 5 by kernel_rfl).symm.trans hg4)
  obtain rfl := Option.some.inj ((show (Tryd.prog.globals[5]?).map (·.type) = some 78 by kernel_rfl).symm.trans ht4)
  obtain ⟨u4, v4, hcs4⟩ := iface_of (by kernel_rfl) hd4
  have hc4 : W.cell? ⟨5, 0, none⟩ = some (.iface u4 v4) := by rw [World.var?_cell hg4 hvar4 0, ← Array.getElem?_toList, hcs4]; rfl
  obtain ⟨g5, t5, cs5, fuel5, p5, q5, hg5, ht5, hvar5, hd5, h6, _⟩ := h5
  obtain rfl := Option.some.inj ((show Tryd.prog.globalNamed "strconv.ErrSyntax" = some 4 by kernel_rfl).symm.trans hg5)
  obtain rfl := Option.some.inj ((show (Tryd.prog.globals[4]?).map (·.type) = some 78 by kernel_rfl).symm.trans ht5)
  obtain ⟨u5, v5, hcs5⟩ := iface_of (by kernel_rfl) hd5
  have hc5 : W.cell? ⟨4, 0, none⟩ = some (.iface u5 v5) := by rw [World.var?_cell hg5 hvar5 0, ← Array.getElem?_toList, hcs5]; rfl
  exact ⟨⟨_, _, hc5⟩, ⟨_, _, hc4⟩⟩
set_option maxRecDepth 100000 in
theorem lifted (os : Os) (started : os.Started) (H : Type) (enc : TypeId × Value → H) :
    ReturnsInHanded {} Tryd.checked os 3 .any (fun w args => (Rows.fnExactReadFlowSpec.pre enc Tryd.prog Tryd.f3 Rows.fnExactReadFlowRow.domain false w args ∧ laidMetH Tryd.prog Rows.fnExactReadFlowRow.laid w) ∧ sizedMet enc Tryd.prog Tryd.f3 (OpenSpec.ofChange Rows.fnExactReadFlowSpec) false w args)
      (Rows.fnExactReadFlowSpec.post enc Tryd.prog Tryd.f3 false true false false) := by
  refine returnsInHanded_of_change_and (C := Tryd.checked) (X := fun w _ => laidMetH Tryd.prog Rows.fnExactReadFlowRow.laid w) (fun _ _ _ hh h => h.of_heap hh) own started (by kernel_rfl) Tryd.func3
    (ChangeSpec.witness_shaped (enc := enc) (C := Tryd.checked) (os := os) (X := fun w _ => laidMetH Tryd.prog Rows.fnExactReadFlowRow.laid w) false (World.laidAll Tryd.prog os Rows.fnExactReadFlowRow.laid) #[.string ByteArray.empty] 8 (World.laidAll_os _ _ _)
      (World.shaped_of_ZipB (by kernel_rfl) (by kernel_rfl)) (by kernel_rfl) (by kernel_rfl) (by kernel_rfl)
      (by rw [MakeChecks.laidMetH_plain _ _ _ (by kernel_rfl)]; exact laidMet_laidAll _ (by kernel_rfl) (by kernel_rfl))) ?_
  intro W base args ds gs before hval0 hW _ hsz0 hX _
  have hsz : (DataW.weightsEach Tryd.prog (Tryd.f3.params.toList ++ Rows.fnExactReadFlowSpec.plain.varTypes Tryd.prog) (ds ++ gs)).all (· ≤ reachBytes) = true := hsz0
  have hval : ∀ (j : Nat) t v, Tryd.f3.params[j]? = some t → args[j]? = some v → Value.okWide Tryd.prog W .any base t v := hval0
  have hW' := hW
  obtain ⟨p, q, hA0, hV, rfl, _, _⟩ := hW
  have hA : DataW.TrodAll enc Tryd.prog W 0 (fun _ => true) true Tryd.f3.params.toList args.toList ds p := hA0
  rw [Tryd.params3] at hA hval hsz
  obtain ⟨v0, vs0, d0, ds0, p0, q0, hargs, rfl, rfl, h0, r0⟩ := trodAll_cons hA
  obtain ⟨rfl, rfl, rfl⟩ := trodAll_nil r0
  obtain rfl : args = #[v0] := by cases args; simp_all
  obtain ⟨rfl, rfl⟩ := trodVars_none hV
  obtain ⟨a0, rfl, rfl, rfl, y0⟩ := open_string Tryd.underlying9 (hval 0 9 v0 rfl rfl) h0
  have w0 : a0.size ≤ 140737488351232 := by
    have z := sized_string hsz (j := 0) (t := 9) rfl rfl
    rw [Array.length_toList] at z
    exact z
  clear hA0 hval0 hsz0 hsz
  obtain ⟨k, h⟩ := Go.Proofs.YtalkmhnlgfncmaaDoor.X.FnExactReadFlow_pure a0 w0
  refine (Go.Proofs.YtalkmhnlgfncmaaDoor.X.laws_FnExactReadFlow.calls k a0 true W  h (env_of hX)).mono fun e W' ⟨he, bel⟩ => ?_
  subst he
  exact ⟨_, rfl, _, _, _, [], _, [], hW', trodAll_mk1 (shut_bool Tryd.underlying4 _), (trodAll_cons_mk (shut_string Tryd.underlying9 y0) trodAll_mk0), rfl, bel.frame _, fun h => by cases h⟩
theorem over : Rows.fnExactReadFlowRow.holds Tryd.pinned (OpenSpec.ofChange Rows.fnExactReadFlowSpec) :=
  OpenClaim.holds_of_wide 3 Tryd.f3 rfl rfl rfl rfl rfl rfl rfl ⟨rfl, rfl, rfl, rfl, rfl⟩ rfl rfl rfl rfl rfl (by kernel_rfl) Tryd.func3 (by kernel_rfl)
    (of_decide_eq_true (by kernel_rfl)) (by unfold Func.isWrapper; first | (rw [if_pos (by decide +kernel)]; kernel_rfl) | (rw [if_neg (by decide +kernel)]; exact ⟨rfl, rfl⟩))
    (fun os started H enc _ => lifted os started H enc)
theorem proved : Rows.FnExactReadFlowCardSaid :=
  Claim7.holds_tied_plain_at .later [] [.data, .data, .data, .data, .sentinel, .sentinel, .pinned] true (true, "9e0b2fa06212517b507bf5ce4a49966dbedae618a66c118a53c3306674ac0840") true over (fun _ h => by cases h) (by kernel_rfl) (fun _ h => by cases h) fnExactReadFlow_row_tie rfl ⟨rfl, rfl⟩ (by kernel_rfl) rfl
    (fun f fn hf hfn => by
      obtain rfl : f = 3 := Option.some.inj ((show Tryd.prog.funcNamed "loop.example/g01153/laws.FnExactReadFlow" = some 3 by kernel_rfl).symm.trans hf) |>.symm
      obtain rfl : fn = Tryd.f3 := (Option.some.inj (Tryd.func3.symm.trans hfn)).symm
      exact ⟨by kernel_rfl, fun j t ht => by
        rw [Tryd.params3] at ht
        have hm : t ∈ [9] := by simpa using Array.mem_of_getElem? ht
        have hall : ([9].all fun u => !Tryd.prog.wantsStandIn u) = true := by kernel_rfl
        exact (show Tryd.prog.wantsStandIn t = false by simpa using List.all_eq_true.1 hall t hm)⟩)
    (by kernel_rfl)
#print axioms proved
end Go.Proofs.YtalkmhnlgfncmaaDoor.fnExactReadFlow
namespace Go.Proofs.YtalkmhnlgfncmaaDoor
/-- The row, under a short name, for the claim. -/
theorem fnExactReadFlow_holds : Rows.FnExactReadFlowCardSaid := fnExactReadFlow.proved
end Go.Proofs.YtalkmhnlgfncmaaDoor
