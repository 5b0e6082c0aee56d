/- The law FnExactValidClock in plain numbers: what the print tells of the program and of the reference is alike. No conditions. -/
import Derived.Test.YtmhfknmjchaccaaPFnExactValidClockx
import Derived.Test.YtmhfknmjchaccaaCMath
namespace Go.Proofs.Ytmhfknmjchaccaa.CFnExactValidClock
open Go.RowKit Go.Proofs.Ytmhfknmjchaccaa.PFnExactValidClock Go.Proofs.YtmhfknmjchaccaaW.PrintWords Go.Proofs.YtmhfknmjchaccaaW.PrintLast Go.Proofs.YtmhfknmjchaccaaW.PrintMore Go.Proofs.Ytmhfknmjchaccaa.CMath

theorem within_eq (a b c : Int) : impl_within.f a b c = some (decide (b ≤ a ∧ a ≤ c)) := by
  unfold impl_within.f; by_cases h : a ≥ b <;> simp [h] <;> omega
theorem l00In_eq (a b c : Int) : spec_l00In.f a b c = some (decide (b ≤ a ∧ a ≤ c)) := by
  unfold spec_l00In.f; by_cases h : a ≥ b <;> simp [h] <;> omega
def Clk (P O : Int) : Prop := (1 ≤ P ∧ P ≤ 100000) ∧ (0 ≤ O ∧ O ≤ 100000)
instance (P O : Int) : Decidable (Clk P O) := by unfold Clk; infer_instance
theorem impl_valid (P O : Int) : impl_ValidClock.f P O = some (decide (Clk P O)) := by
  unfold impl_ValidClock.f Clk; simp only [within_eq, Option.bind_some]
  by_cases h : 1 ≤ P ∧ P ≤ 100000 <;> simp [h]
theorem spec_valid (P O : Int) : spec_l10Is.f P O = some (decide (Clk P O)) := by
  unfold spec_l10Is.f Clk; simp only [l00In_eq, Option.bind_some]
  by_cases h : 1 ≤ P ∧ P ≤ 100000 <;> simp [h]

theorem pure (P O : Int) (_hp : (Lit.int .i64 P).wf = true) (_ho : (Lit.int .i64 O).wf = true) : laws_FnExactValidClock.f P O = some true := by
  unfold laws_FnExactValidClock.f spec_ValidClock.f laws_toClock.f
  simp [impl_valid, spec_valid]
end Go.Proofs.Ytmhfknmjchaccaa.CFnExactValidClock
