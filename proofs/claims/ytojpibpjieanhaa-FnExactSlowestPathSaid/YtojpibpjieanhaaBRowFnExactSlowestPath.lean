import Derived.Test.YtojpibpjieanhaaRows
import Derived.Test.YtojpibpjieanhaaN31
import Derived.WalkKit
import Derived.ProofKit
import Derived.OpenShut
import Derived.ShutString
import Derived.ChangeOld
import Derived.Below
import Derived.SizedLaws
import Derived.Lib.SmallJoins
import Derived.Test.YtojpibpjieanhaaN30
/- The law FnExactSlowestPath holds: its call returns true for all arguments and leaves them as they were. Conditions: none. -/
namespace Go.Proofs.Ytojpibpjieanhaa.fnExactSlowestPath
open Go.ChangeShapes Go.WideShapes Go.ChangeAt Go.RowKit
open Go.ChangeMaps (open_string shut_string)
open Go.Joins (open_agg2 open_agg3 open_agg4)
set_option linter.unusedVariables false
theorem own : ownKnob Try.prog.godebug = none := by kernel_rfl
theorem laidOut : laidOutB Try.prog = true := by kernel_rfl
theorem cells31 : Try.prog.cellsOf 31 = 2 := by kernel_rfl
set_option maxRecDepth 100000 in
theorem lifted (os : Os) (started : os.Started) (H : Type) (enc : TypeId × Value → H) :
    ReturnsInHanded {} Try.checked os 10 .any (Rows.fnExactSlowestPathSpec.pre6 enc Try.prog Try.f10 Rows.fnExactSlowestPathRow.domain false) (Rows.fnExactSlowestPathSpec.post enc Try.prog Try.f10 false true false false) := by
  refine returnsInHanded_of_change_sized (C := Try.checked) own started (by kernel_rfl) Try.func10
    (ChangeSpec.witness6 (enc := enc) (C := Try.checked) false ⟨#[], #[.agg #[.slice none 0 0, .slice none 0 0]], []⟩ 8 (by kernel_rfl) (by kernel_rfl) (by kernel_rfl) (by kernel_rfl)) ?_
  intro W base args ds gs before hval0 hW _ hsz0 _
  have hval : ∀ (j : Nat) t v, Try.f10.params[j]? = some t → args[j]? = some v → Value.okWide Try.prog W .any base t v := hval0
  have hW' := hW
  obtain ⟨p, q, hA0, hV, rfl, _, _⟩ := hW
  have hA : DataW.TrodAll enc Try.prog W 0 (fun _ => true) true Try.f10.params.toList args.toList ds p := hA0
  rw [Try.params10] at hA hval
  obtain ⟨v0, vs0, d0, ds0, p0, q0, hargs, rfl, rfl, h0, r0⟩ := trodAll_cons hA
  obtain ⟨rfl, rfl, rfl⟩ := trodAll_nil r0
  obtain rfl : args = #[v0] := by cases args; simp_all
  obtain ⟨rfl, rfl⟩ := trodVars_none hV
  have k0 := h0
  have lt0 : ∀ x ∈ p0, x.block < W.heap.size := by obtain ⟨m, hm⟩ := k0; exact DataW.trod_lt m _ _ _ hm
  obtain ⟨c0_0, c0_1, y0_0, y0_1, m0, rfl, rfl, rfl, hy0_0, hy0_1⟩ := open_agg2 Try.underlying31 (by kernel_rfl) cells31 (hval 0 31 v0 rfl rfl) h0
  obtain ⟨A0_0, cap0_0, l0_0, rfl, hr0_0, hc0_0, hm0_0, w0_0⟩ := Go.Proofs.Ytojpibpjieanhaa.X.open_row_ints Try.underlying22 Try.underlying2 (by kernel_rfl) hy0_0
  obtain ⟨A0_1, cap0_1, l0_1, rfl, hr0_1, hc0_1, hm0_1⟩ := Go.Proofs.Ytojpibpjieanhaa.X.open_row_wires Try.underlying29 Try.underlying96 (by kernel_rfl) (by kernel_rfl) Try.underlying2 Try.underlying2 Try.underlying2 hy0_1
  clear hA0 hval0 hsz0
  obtain ⟨k, h⟩ := Go.Proofs.Ytojpibpjieanhaa.X.FnExactSlowestPath_pure l0_0 l0_1 hm0_0 w0_0 hm0_1
  refine (Go.Proofs.Ytojpibpjieanhaa.X.laws_FnExactSlowestPath.calls k A0_0 cap0_0 l0_0 A0_1 cap0_1 l0_1 true W hr0_0 hc0_0 hr0_1 hc0_1 h rfl).mono fun e W' ⟨he, bel⟩ => ?_
  subst he
  exact ⟨_, rfl, _, _, _, [], _, [], hW', trodAll_mk1 (shut_bool Try.underlying4 _), (trodAll_cons_mk (Below.trod laidOut (by kernel_rfl) (of_decide_eq_true (by kernel_rfl)) k0 bel lt0) trodAll_mk0), rfl, bel.frame _, fun h => by cases h⟩
theorem over : Rows.fnExactSlowestPathRow.holds Try.pinned (OpenSpec.ofChange Rows.fnExactSlowestPathSpec) :=
  OpenClaim.holds_of_wide 10 Try.f10 rfl rfl rfl rfl rfl rfl rfl ⟨rfl, rfl, rfl, rfl, rfl⟩ rfl rfl rfl rfl rfl (by kernel_rfl) Try.func10 (by kernel_rfl)
    (of_decide_eq_true (by kernel_rfl)) (by unfold Func.isWrapper; first | (rw [if_pos (by decide +kernel)]; kernel_rfl) | (rw [if_neg (by decide +kernel)]; exact ⟨rfl, rfl⟩))
    (fun os started H enc _ => lifted os started H enc)
theorem proved : Rows.FnExactSlowestPathSaid := over
#print axioms proved
end Go.Proofs.Ytojpibpjieanhaa.fnExactSlowestPath
namespace Go.Proofs.Ytojpibpjieanhaa
/-- The row, under a short name, for the claim. -/
theorem fnExactSlowestPath_holds : Rows.FnExactSlowestPathSaid := fnExactSlowestPath.proved
end Go.Proofs.Ytojpibpjieanhaa
