/- The law FnExactEdgeAt in plain numbers: what the print tells of the program and of the reference is alike. No conditions. -/
import Derived.Test.YtmhfknmjchaccaaPFnExactEdgeAtx
import Derived.Test.YtmhfknmjchaccaaCMath
namespace Go.Proofs.Ytmhfknmjchaccaa.CFnExactEdgeAt
open Go.RowKit Go.Proofs.Ytmhfknmjchaccaa.PFnExactEdgeAt Go.Proofs.YtmhfknmjchaccaaW.PrintWords Go.Proofs.YtmhfknmjchaccaaW.PrintLast Go.Proofs.YtmhfknmjchaccaaW.PrintMore Go.Proofs.Ytmhfknmjchaccaa.CMath

theorem within_eq (a b c : Int) : impl_within.f a b c = some (decide (b ≤ a ∧ a ≤ c)) := by
  unfold impl_within.f; by_cases h : a ≥ b <;> simp [h] <;> omega
theorem l00In_eq (a b c : Int) : spec_l00In.f a b c = some (decide (b ≤ a ∧ a ≤ c)) := by
  unfold spec_l00In.f; by_cases h : a ≥ b <;> simp [h] <;> omega
def Clk (P O : Int) : Prop := (1 ≤ P ∧ P ≤ 100000) ∧ (0 ≤ O ∧ O ≤ 100000)
instance (P O : Int) : Decidable (Clk P O) := by unfold Clk; infer_instance
theorem impl_valid (P O : Int) : impl_ValidClock.f P O = some (decide (Clk P O)) := by
  unfold impl_ValidClock.f Clk; simp only [within_eq, Option.bind_some]
  by_cases h : 1 ≤ P ∧ P ≤ 100000 <;> simp [h]
theorem spec_valid (P O : Int) : spec_l10Is.f P O = some (decide (Clk P O)) := by
  unfold spec_l10Is.f Clk; simp only [l00In_eq, Option.bind_some]
  by_cases h : 1 ≤ P ∧ P ≤ 100000 <;> simp [h]

theorem moment_eq (n : Int) : impl_isMoment.f n = some (decide (0 ≤ n ∧ n ≤ 1000000000000)) := by
  unfold impl_isMoment.f; simp [within_eq]
theorem edges (P O i : Int) : impl_EdgeAt.f P O i = spec_EdgeAt.f P O i ∧ ∃ r, spec_EdgeAt.f P O i = some r := by
  unfold impl_EdgeAt.f spec_EdgeAt.f spec_l10Edge.f
  simp only [impl_valid, spec_valid, moment_eq, l00In_eq, Option.bind_some]
  by_cases h : Clk P O
  · obtain ⟨hP, hO⟩ := id h
    by_cases hi : 0 ≤ i ∧ i ≤ 1000000000000
    · have hm : 0 ≤ i * P := Int.mul_nonneg hi.1 (by omega)
      have hm2 : i * P ≤ 1000000000000 * 100000 := Int.mul_le_mul hi.2 hP.2 (by omega) (by omega)
      have b := ediv_bd (a := 1000000000000 - O) (b := P) (by omega) (by omega)
      rw [w64 (n := i * P) (by omega) (by omega), w64 (n := O + i * P) (by omega) (by omega), w64 (n := 1000000000000 - O) (by omega) (by omega),
        tdivp (by omega), w64 (n := (1000000000000 - O) / P) (by omega) (by omega)]
      have hle : i ≤ (1000000000000 - O) / P ↔ i * P ≤ 1000000000000 - O := Int.le_ediv_iff_mul_le (by omega)
      have hz : ¬ P = 0 := by omega
      by_cases hc : i * P ≤ 1000000000000 - O
      · have h1 : ¬ i > (1000000000000 - O) / P := by have := hle.2 hc; omega
        have h2 : 0 ≤ O + i * P ∧ O + i * P ≤ 1000000000000 := by omega
        simp [h, hi, hz, h1, h2]
      · have h1 : i > (1000000000000 - O) / P := by
          rcases Int.lt_or_le ((1000000000000 - O) / P) i with q | q
          · exact q
          · exact absurd (hle.1 q) hc
        have h2 : ¬ (0 ≤ O + i * P ∧ O + i * P ≤ 1000000000000) := by omega
        simp [h, hi, hz, h1, h2]
    · simp [h, hi]
  · simp [h]

theorem pure (P O i : Int) (_hp : (Lit.int .i64 P).wf = true) (_ho : (Lit.int .i64 O).wf = true) (_hi : (Lit.int .i64 i).wf = true) : laws_FnExactEdgeAt.f P O i = some true := by
  obtain ⟨h1, r, h2⟩ := edges P O i
  unfold laws_FnExactEdgeAt.f laws_toClock.f
  simp [h1, h2]
end Go.Proofs.Ytmhfknmjchaccaa.CFnExactEdgeAt
