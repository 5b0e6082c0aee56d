/- The law FnExactWaveOf in plain numbers: the program's WaveOf and the reference's tell the same wave. No conditions. -/
import Derived.Test.YtmhfknmjchaccaaXp9
import Derived.Test.YtmhfknmjchaccaaXp27
import Derived.Test.YtmhfknmjchaccaaCMath
namespace Go.Proofs.Ytmhfknmjchaccaa.X
open Go.RowKit Go.Proofs.YtmhfknmjchaccaaW.PrintWords Go.Proofs.YtmhfknmjchaccaaW.PrintLast Go.Proofs.YtmhfknmjchaccaaW.PrintMore Go.Proofs.Ytmhfknmjchaccaa.CMath

theorem l00In_eq (a b c : Int) : spec_l00In.f a b c = some (decide (b ≤ a ∧ a ≤ c)) := by
  unfold spec_l00In.f; by_cases h : a ≥ b <;> simp [h] <;> omega
theorem spec_valid (P O : Int) : spec_l10Is.f P O = some (decide (Clk P O)) := by
  unfold spec_l10Is.f Clk; simp only [l00In_eq, Option.bind_some]
  by_cases h : 1 ≤ P ∧ P ≤ 100000 <;> simp [h]
theorem spec_loop (P O h : Int) (T : Nat) (hc : Clk P O) (hT : T ≤ 400) : ∀ (d k i : Nat), i + d = T → d < k →
    spec_WaveOf.l0 k h T (lvs (wlv P O h) i) i P O = some (strOfNums (lvs (wlv P O h) T), true)
  | 0, k, i, hi, hk => by
    cases k with
    | zero => omega
    | succ k => rw [spec_WaveOf.l0, if_neg (by omega)]; simp only [Nat.add_zero] at hi; rw [hi]
  | d + 1, k, i, hi, hk => by
    cases k with
    | zero => omega
    | succ k =>
      obtain ⟨hP, hO⟩ := id hc
      have ih := spec_loop P O h T hc hT d k (i + 1) (by omega) (by omega)
      rw [Int.natCast_add, Int.natCast_one] at ih
      rw [spec_WaveOf.l0, if_pos (by omega), w64 (n := (i : Int) + 1) (by omega) (by omega), if_neg (show ¬ P = 0 by omega), w64 (n := (i : Int) - O) (by omega) (by omega),
        if_pos (show (lvs (wlv P O h) i).length < 140737488355328 by rw [lvs_len]; omega), if_pos (show (lvs (wlv P O h) i).length < 140737488355328 by rw [lvs_len]; omega)]
      by_cases h1 : (i : Int) ≥ O
      · rw [if_pos h1, tmodp (by omega)]
        by_cases h2 : ((i : Int) - O) % P < h
        · rw [if_pos h2, ← lvs_one (wlv P O h) i (by simp [wlv, h2]; omega)]; exact ih
        · rw [if_neg h2, ← lvs_zero (wlv P O h) i (by simp [wlv]; omega)]; exact ih
      · rw [if_neg h1, ← lvs_zero (wlv P O h) i (by simp [wlv]; omega)]; exact ih

theorem FnExactWaveOf_pure (P O h T : Int) (_hp : (Lit.int .i64 P).wf = true) (_ho : (Lit.int .i64 O).wf = true) (_hh : (Lit.int .i64 h).wf = true) (_ht : (Lit.int .i64 T).wf = true) :
    ∃ k, laws_FnExactWaveOf.f k P O h T = some true := by
  refine ⟨501 + 1, ?_⟩
  unfold laws_FnExactWaveOf.f laws_toClock.f spec_WaveOf.f impl_WaveOf.f
  simp only [spec_valid, l00In_eq, Option.bind_some]
  have ts : spec_WaveOf.j0 (501 + 1) h T true P O = some (⟨#[]⟩, false) := by rw [spec_WaveOf.j0, if_pos rfl]
  by_cases h1 : Clk P O
  · by_cases h2 : 0 ≤ h ∧ h ≤ P
    · by_cases h3 : 0 ≤ T ∧ T ≤ 400
      · obtain ⟨n, rfl⟩ : ∃ n : Nat, T = n := ⟨T.toNat, by omega⟩
        have fs : spec_WaveOf.j0 (501 + 1) h n false P O = some (strOfNums (lvs (wlv P O h) n), true) := by
          rw [spec_WaveOf.j0, if_neg (by simp)]
          exact spec_loop P O h n h1 (by omega) n 501 0 (by omega) (by omega)
        have h4 : (n : Int) ≤ 400 := h3.2
        simp [h1, h2, h4, fs]
      · simp [h1, h2, h3, ts]
    · simp [h1, h2, ts]
  · simp [h1, ts]
end Go.Proofs.Ytmhfknmjchaccaa.X
