/- The law FnExactLeastGap in plain numbers: what the print tells of the program and of the reference is alike. No conditions. -/
import Derived.Test.YtmhfknmjchaccaaPFnExactLeastGapx
import Derived.Test.YtmhfknmjchaccaaCMath
namespace Go.Proofs.Ytmhfknmjchaccaa.CFnExactLeastGap
open Go.RowKit Go.Proofs.Ytmhfknmjchaccaa.PFnExactLeastGap Go.Proofs.YtmhfknmjchaccaaW.PrintWords Go.Proofs.YtmhfknmjchaccaaW.PrintLast Go.Proofs.YtmhfknmjchaccaaW.PrintMore Go.Proofs.Ytmhfknmjchaccaa.CMath

theorem within_eq (a b c : Int) : impl_within.f a b c = some (decide (b ≤ a ∧ a ≤ c)) := by
  unfold impl_within.f; by_cases h : a ≥ b <;> simp [h] <;> omega
theorem l00In_eq (a b c : Int) : spec_l00In.f a b c = some (decide (b ≤ a ∧ a ≤ c)) := by
  unfold spec_l00In.f; by_cases h : a ≥ b <;> simp [h] <;> omega
def Clk (P O : Int) : Prop := (1 ≤ P ∧ P ≤ 100000) ∧ (0 ≤ O ∧ O ≤ 100000)
instance (P O : Int) : Decidable (Clk P O) := by unfold Clk; infer_instance
theorem impl_valid (P O : Int) : impl_ValidClock.f P O = some (decide (Clk P O)) := by
  unfold impl_ValidClock.f Clk; simp only [within_eq, Option.bind_some]
  by_cases h : 1 ≤ P ∧ P ≤ 100000 <;> simp [h]
theorem spec_valid (P O : Int) : spec_l10Is.f P O = some (decide (Clk P O)) := by
  unfold spec_l10Is.f Clk; simp only [l00In_eq, Option.bind_some]
  by_cases h : 1 ≤ P ∧ P ≤ 100000 <;> simp [h]
theorem sgcd : ∀ (k a b : Nat), b < k → spec_l01Gcd.l0 k a b = some ((Nat.gcd a b : Nat) : Int)
  | 0, _, _, h => absurd h (by omega)
  | k + 1, a, b, h => by
    rw [spec_l01Gcd.l0]
    by_cases hb : b = 0
    · subst hb; simp
    · have := Nat.mod_lt a (y := b) (by omega)
      rw [if_pos (by omega), if_neg (by omega), tmod_nat, sgcd k b (a % b) (by omega), gcd_step]
theorem igcd : ∀ (k a b : Nat), b < k → a ≤ 100000 → b ≤ 100000 → impl_gcd.l0 k a b = some ((Nat.gcd a b : Nat) : Int)
  | 0, _, _, h, _, _ => absurd h (by omega)
  | k + 1, a, b, h, ha, hb => by
    rw [impl_gcd.l0]
    by_cases hz : b = 0
    · subst hz; rw [w64 (by omega) (by omega), mx_eq]; simp; omega
    · have := Nat.mod_lt a (y := b) (by omega)
      rw [if_neg (by omega), tmod_nat, igcd k b (a % b) (by omega) (by omega) (by omega), gcd_step]
/-- The greatest common divisor of two periods. -/
def g (P Q : Int) : Int := ((Nat.gcd P.toNat Q.toNat : Nat) : Int)
theorem g_bd (P Q : Int) (hP : 1 ≤ P ∧ P ≤ 100000) : 1 ≤ g P Q ∧ g P Q ≤ P := by
  unfold g
  have h1 : 0 < Nat.gcd P.toNat Q.toNat := Nat.gcd_pos_of_pos_left _ (by omega)
  have h2 : Nat.gcd P.toNat Q.toNat ≤ P.toNat := Nat.gcd_le_left _ (by omega)
  omega
theorem sg (k : Nat) (hk : 100000 < k) (P Q : Int) (hP : 1 ≤ P ∧ P ≤ 100000) (hQ : 1 ≤ Q ∧ Q ≤ 100000) : spec_l01Gcd.f k P Q = some (g P Q) := by
  have h := sgcd k P.toNat Q.toNat (by omega)
  rw [show ((P.toNat : Nat) : Int) = P by omega, show ((Q.toNat : Nat) : Int) = Q by omega] at h
  exact h
theorem ig (k : Nat) (hk : 100000 < k) (P Q : Int) (hP : 1 ≤ P ∧ P ≤ 100000) (hQ : 1 ≤ Q ∧ Q ≤ 100000) : impl_gcd.f k P Q = some (g P Q) := by
  have h := igcd k P.toNat Q.toNat (by omega) (by omega) (by omega)
  rw [show ((P.toNat : Nat) : Int) = P by omega, show ((Q.toNat : Nat) : Int) = Q by omega] at h
  exact h
theorem apart_eq (k : Nat) (hk : 100000 < k) (P O Q U : Int) (h : Clk P O) (h' : Clk Q U) : impl_apart.f k P O Q U = some (g P Q, (U - O) % g P Q) := by
  obtain ⟨hP, hO⟩ := id h
  obtain ⟨hQ, hU⟩ := id h'
  have b := g_bd P Q hP
  unfold impl_apart.f
  rw [ig k hk P Q hP hQ, Option.bind_some, if_neg (by omega), w64 (n := U - O) (by omega) (by omega), (shift_eq (U - O) (g P Q) (by omega) (by omega)).1]
theorem shift_spec (k : Nat) (hk : 100000 < k) (P O Q U : Int) (h : Clk P O) (h' : Clk Q U) : spec_l10Shift.f k P O Q U = some (g P Q, (U - O) % g P Q) := by
  obtain ⟨hP, hO⟩ := id h
  obtain ⟨hQ, hU⟩ := id h'
  have b := g_bd P Q hP
  have q := (shift_eq (U - O) (g P Q) (by omega) (by omega)).2
  unfold spec_l10Shift.f
  rw [sg k hk P Q hP hQ, Option.bind_some, if_neg (by omega), w64 (n := U - O) (by omega) (by omega)]
  by_cases hc : Int.tmod (U - O) (g P Q) < 0
  · rw [if_pos hc] at q; rw [if_pos hc, q]
  · rw [if_neg hc] at q; rw [if_neg hc, q]
theorem l00Min_eq (a b : Int) : spec_l00Min.f a b = some (min a b) := by
  unfold spec_l00Min.f; split <;> congr 1 <;> omega

theorem pure (P O Q U : Int) (_hp : (Lit.int .i64 P).wf = true) (_ho : (Lit.int .i64 O).wf = true) (_hq : (Lit.int .i64 Q).wf = true) (_hu : (Lit.int .i64 U).wf = true) : ∃ k, laws_FnExactLeastGap.f k P O Q U = some true := by
  refine ⟨100002, ?_⟩
  unfold laws_FnExactLeastGap.f laws_toClock.f impl_LeastGap.f spec_LeastGap.f
  simp only [impl_valid, spec_valid, Option.bind_some, spec_LeastGap.j0, l00Min_eq, mn_eq]
  by_cases h : Clk P O
  · by_cases h' : Clk Q U
    · simp [h, h', apart_eq, shift_spec]
    · simp [h, h']
  · simp [h]
end Go.Proofs.Ytmhfknmjchaccaa.CFnExactLeastGap
