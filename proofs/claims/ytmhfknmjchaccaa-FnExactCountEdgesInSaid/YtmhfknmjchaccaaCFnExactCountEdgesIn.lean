/- The law FnExactCountEdgesIn in plain numbers: what the print tells of the program and of the reference is alike. No conditions. -/
import Derived.Test.YtmhfknmjchaccaaPFnExactCountEdgesInx
import Derived.Test.YtmhfknmjchaccaaCMath
namespace Go.Proofs.Ytmhfknmjchaccaa.CFnExactCountEdgesIn
open Go.RowKit Go.Proofs.Ytmhfknmjchaccaa.PFnExactCountEdgesIn Go.Proofs.YtmhfknmjchaccaaW.PrintWords Go.Proofs.YtmhfknmjchaccaaW.PrintLast Go.Proofs.YtmhfknmjchaccaaW.PrintMore Go.Proofs.Ytmhfknmjchaccaa.CMath

theorem within_eq (a b c : Int) : impl_within.f a b c = some (decide (b ≤ a ∧ a ≤ c)) := by
  unfold impl_within.f; by_cases h : a ≥ b <;> simp [h] <;> omega
theorem l00In_eq (a b c : Int) : spec_l00In.f a b c = some (decide (b ≤ a ∧ a ≤ c)) := by
  unfold spec_l00In.f; by_cases h : a ≥ b <;> simp [h] <;> omega
def Clk (P O : Int) : Prop := (1 ≤ P ∧ P ≤ 100000) ∧ (0 ≤ O ∧ O ≤ 100000)
instance (P O : Int) : Decidable (Clk P O) := by unfold Clk; infer_instance
theorem impl_valid (P O : Int) : impl_ValidClock.f P O = some (decide (Clk P O)) := by
  unfold impl_ValidClock.f Clk; simp only [within_eq, Option.bind_some]
  by_cases h : 1 ≤ P ∧ P ≤ 100000 <;> simp [h]
theorem spec_valid (P O : Int) : spec_l10Is.f P O = some (decide (Clk P O)) := by
  unfold spec_l10Is.f Clk; simp only [l00In_eq, Option.bind_some]
  by_cases h : 1 ≤ P ∧ P ≤ 100000 <;> simp [h]
theorem moment_eq (n : Int) : impl_isMoment.f n = some (decide (0 ≤ n ∧ n ≤ 1000000000000)) := by
  unfold impl_isMoment.f; simp [within_eq]
theorem smoment_eq (n : Int) : spec_l10Moment.f n = some (decide (0 ≤ n ∧ n ≤ 1000000000000)) := by
  unfold spec_l10Moment.f; simp [l00In_eq]
theorem ibef (P O m : Int) (h : Clk P O) (hm : 0 ≤ m ∧ m ≤ 1000000000000) : impl_Clock_edgesBefore.f P O m = some (bef P O m) := by
  obtain ⟨hP, hO⟩ := id h
  unfold impl_Clock_edgesBefore.f; rw [if_neg (by omega), bef_impl P O m hP hO hm]
theorem sbef (P O m : Int) (h : Clk P O) (hm : 0 ≤ m ∧ m ≤ 1000000000000) : spec_l10Before.f P O m = some (bef P O m) := by
  obtain ⟨hP, hO⟩ := id h
  unfold spec_l10Before.f; exact bef_spec P O m hP hO hm
theorem edges (P O i j : Int) : impl_CountEdgesIn.f 1 P O i j = spec_CountEdgesIn.f 1 P O i j ∧ ∃ r, spec_CountEdgesIn.f 1 P O i j = some r := by
  unfold impl_CountEdgesIn.f spec_CountEdgesIn.f
  simp only [impl_valid, spec_valid, moment_eq, smoment_eq, l00In_eq, Option.bind_some, impl_CountEdgesIn.j0, spec_CountEdgesIn.j0]
  by_cases h : Clk P O
  · by_cases hi : 0 ≤ i ∧ i ≤ 1000000000000
    · by_cases hj : 0 ≤ j ∧ j ≤ 1000000000000
      · by_cases hij : j < i
        · simp [h, hi, hj, hij]
        · have q : i ≤ j ∧ j ≤ 1000000000000 := by omega
          have q1 : i ≤ j := q.1
          simp [h, hi, hj, hij, q1, ibef, sbef]
      · have q : ¬ (i ≤ j ∧ j ≤ 1000000000000) := by omega
        simp [h, hi, hj, q]
    · simp [h, hi]
  · simp [h]

theorem pure (P O i j : Int) (_hp : (Lit.int .i64 P).wf = true) (_ho : (Lit.int .i64 O).wf = true) (_hi : (Lit.int .i64 i).wf = true) (_hj : (Lit.int .i64 j).wf = true) : ∃ k, laws_FnExactCountEdgesIn.f k P O i j = some true := by
  obtain ⟨h1, r, h2⟩ := edges P O i j
  refine ⟨1, ?_⟩
  unfold laws_FnExactCountEdgesIn.f laws_toClock.f
  simp [h1, h2]
end Go.Proofs.Ytmhfknmjchaccaa.CFnExactCountEdgesIn
