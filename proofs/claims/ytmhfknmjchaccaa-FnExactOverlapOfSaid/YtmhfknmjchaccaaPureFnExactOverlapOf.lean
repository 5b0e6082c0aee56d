/- The printed functions of OverlapOf, the program's and the reference's, answer alike. No conditions. -/
import Derived.Test.YtmhfknmjchaccaaPFnExactOverlapOfx1
namespace Go.Proofs.Ytmhfknmjchaccaa.Pure
open Go.RowKit Go.Proofs.Ytmhfknmjchaccaa.PFnExactOverlapOf Go.Proofs.YtmhfknmjchaccaaW.PrintWords Go.Proofs.YtmhfknmjchaccaaW.PrintLast Go.Proofs.YtmhfknmjchaccaaW.PrintMore

theorem w64 {n : Int} (h0 : -9223372036854775808 ≤ n) (h1 : n ≤ 9223372036854775807) : wrap64 n = n := by unfold wrap64; omega
theorem within_eq (a b c : Int) : impl_within.f a b c = some (decide (b ≤ a ∧ a ≤ c)) := by
  unfold impl_within.f; by_cases h : a ≥ b <;> simp [h] <;> omega
theorem l00In_eq (a b c : Int) : spec_l00In.f a b c = some (decide (b ≤ a ∧ a ≤ c)) := by
  unfold spec_l00In.f; by_cases h : a ≥ b <;> simp [h] <;> omega
theorem l00Min_eq (a b : Int) : spec_l00Min.f a b = some (min a b) := by
  unfold spec_l00Min.f; split <;> congr 1 <;> omega
theorem l00Max_eq (a b : Int) : spec_l00Max.f a b = some (max a b) := by
  unfold spec_l00Max.f; split <;> congr 1 <;> omega
theorem mx_eq (a b : Int) : mx a b = max a b := by unfold mx; split <;> omega
theorem mn_eq (a b : Int) : mn a b = min a b := by unfold mn; split <;> omega

def part (a l b s : Int) : Int := max 0 (min (a + l) (b + s) - max a b)
theorem part_bd (a l b s p : Int) (ha : 0 ≤ a ∧ a ≤ p) (hl : 0 ≤ l ∧ l ≤ p) : 0 ≤ part a l b s ∧ part a l b s ≤ p := by unfold part; omega
theorem l10Part_eq (a l b s : Int) (ha : 0 ≤ a ∧ a ≤ 100000) (hl : 0 ≤ l ∧ l ≤ 100000) (hb : -200000 ≤ b ∧ b ≤ 200000) (hs : 0 ≤ s ∧ s ≤ 100000) :
    spec_l10Part.f a l b s = some (part a l b s) := by
  unfold spec_l10Part.f part
  simp only [l00Min_eq, l00Max_eq, Option.bind_some]
  rw [w64 (n := a + l) (by omega) (by omega), w64 (n := b + s) (by omega) (by omega), w64 (by omega) (by omega)]

def tot (p a l b s : Int) : Int := part a l (b - p) s + part a l b s + part a l (b + p) s

theorem spec_ok (p a l b s : Int) (hp : 1 ≤ p ∧ p ≤ 100000) (ha : 0 ≤ a ∧ a ≤ p - 1) (hb : 0 ≤ b ∧ b ≤ p - 1) (hl : 0 ≤ l ∧ l ≤ p) (hs : 0 ≤ s ∧ s ≤ p) (k : Nat) :
    spec_OverlapOf.l0 (k + 4) p a l b s 0 (-1) = some (tot p a l b s, true) := by
  have b1 := part_bd a l (b - p) s p (by omega) (by omega)
  have b2 := part_bd a l b s p (by omega) (by omega)
  have b3 := part_bd a l (b + p) s p (by omega) (by omega)
  have en : wrap64 (b + wrap64 (-1 * p)) = b - p := by rw [w64 (n := -1 * p) (by omega) (by omega), w64 (by omega) (by omega)]; omega
  have ez : wrap64 (b + wrap64 (0 * p)) = b := by rw [w64 (n := 0 * p) (by omega) (by omega), w64 (by omega) (by omega)]; omega
  have ep : wrap64 (b + wrap64 (1 * p)) = b + p := by rw [w64 (n := 1 * p) (by omega) (by omega), w64 (by omega) (by omega)]; omega
  have c1 : wrap64 (-1 + 1) = 0 := by unfold wrap64; omega
  have c2 : wrap64 (0 + 1) = 1 := by unfold wrap64; omega
  have c3 : wrap64 (1 + 1) = 2 := by unfold wrap64; omega
  rw [spec_OverlapOf.l0, if_pos (by omega), en, l10Part_eq _ _ _ _ (by omega) (by omega) (by omega) (by omega), Option.bind_some, c1,
    spec_OverlapOf.l0, if_pos (by omega), ez, l10Part_eq _ _ _ _ (by omega) (by omega) (by omega) (by omega), Option.bind_some, c2,
    spec_OverlapOf.l0, if_pos (by omega), ep, l10Part_eq _ _ _ _ (by omega) (by omega) (by omega) (by omega), Option.bind_some, c3,
    spec_OverlapOf.l0, if_neg (by omega), w64 (n := 0 + _) (by omega) (by omega), w64 (n := 0 + _ + _) (by omega) (by omega), w64 (by omega) (by omega)]
  simp [tot]

theorem impl_ok (p a l b s : Int) (hp : 1 ≤ p ∧ p ≤ 100000) (ha : 0 ≤ a ∧ a ≤ p - 1) (hb : 0 ≤ b ∧ b ≤ p - 1) (hl : 0 ≤ l ∧ l ≤ p) (hs : 0 ≤ s ∧ s ≤ p) (k : Nat) :
    impl_OverlapOf.j0 (k + 5) p a l b s false = some (tot p a l b s, true) := by
  have b1 := part_bd a l (b - p) s p (by omega) (by omega)
  have b2 := part_bd a l b s p (by omega) (by omega)
  have b3 := part_bd a l (b + p) s p (by omega) (by omega)
  have e0 : wrap64 (-p) = -p := w64 (by omega) (by omega)
  have r0 : ∀ x y z : Int, rd [x, y, z] 0 = x := fun _ _ _ => rfl
  have r1 : ∀ x y z : Int, rd [x, y, z] 1 = y := fun _ _ _ => rfl
  have r2 : ∀ x y z : Int, rd [x, y, z] 2 = z := fun _ _ _ => rfl
  have q : ∀ c : Int, -100000 ≤ c ∧ c ≤ 100000 → mx 0 (wrap64 (mn (wrap64 (a + l)) (wrap64 (wrap64 (b + c) + s)) - mx a (wrap64 (b + c)))) = part a l (b + c) s := by
    intro c hc
    rw [w64 (n := a + l) (by omega) (by omega), w64 (n := b + c) (by omega) (by omega), w64 (n := b + c + s) (by omega) (by omega), mx_eq, mn_eq, mx_eq, w64 (by omega) (by omega)]
    rfl
  have c1 : wrap64 (0 + 1) = 1 := by unfold wrap64; omega
  have c2 : wrap64 (1 + 1) = 2 := by unfold wrap64; omega
  have c3 : wrap64 (2 + 1) = 3 := by unfold wrap64; omega
  have q1 := q (-p) (by omega)
  have q2 := q 0 (by omega)
  have q3 := q p (by omega)
  rw [show b + -p = b - p by omega] at q1
  rw [show b + 0 = b by omega] at q2
  rw [impl_OverlapOf.j0, if_neg (by simp), Option.bind_some, e0]
  simp only [List.length_cons, List.length_nil]
  rw [impl_OverlapOf.l0, if_pos (by omega), if_pos (by omega), if_pos (by simp), r0, show b + -p = b - p by omega, q1, c1,
    impl_OverlapOf.l0, if_pos (by omega), if_pos (by omega), if_pos (by simp), r1, show b + 0 = b by omega, q2, c2,
    impl_OverlapOf.l0, if_pos (by omega), if_pos (by omega), if_pos (by simp), r2, q3, c3,
    impl_OverlapOf.l0, if_neg (by omega), w64 (n := 0 + _) (by omega) (by omega), w64 (n := 0 + _ + _) (by omega) (by omega), w64 (by omega) (by omega)]
  simp [tot]

theorem FnExactOverlapOf : laws_FnExactOverlapOf.Pure := by
  intro p a l b s hp ha hl hb hs
  refine ⟨8, ?_⟩
  simp only [Lit.wf, Bool.and_eq_true, decide_eq_true_eq] at hp ha hl hb hs
  unfold laws_FnExactOverlapOf.f spec_OverlapOf.f impl_OverlapOf.f
  simp only [within_eq, l00In_eq, Option.bind_some]
  have st : spec_OverlapOf.j0 8 p a l b s true = some (0, false) := by rw [spec_OverlapOf.j0, if_pos rfl]
  have it : impl_OverlapOf.j0 8 p a l b s true = some (0, false) := by rw [impl_OverlapOf.j0, if_pos rfl]
  by_cases h1 : 1 ≤ p ∧ p ≤ 100000
  · have e1 : wrap64 (p - 1) = p - 1 := w64 (by omega) (by omega)
    simp only [e1]
    by_cases h2 : 0 ≤ a ∧ a ≤ p - 1
    · by_cases h3 : 0 ≤ b ∧ b ≤ p - 1
      · by_cases h4 : 0 ≤ l ∧ l ≤ p
        · by_cases h5 : 0 ≤ s ∧ s ≤ p
          · have sf : spec_OverlapOf.j0 8 p a l b s false = some (tot p a l b s, true) := by
              rw [spec_OverlapOf.j0, if_neg (by simp)]; exact spec_ok p a l b s h1 h2 h3 h4 h5 3
            simp [h1, h2, h3, h4, h5, sf, impl_ok p a l b s h1 h2 h3 h4 h5 3]
          · simp [h1, h2, h3, h4, h5, st, it]
        · simp [h1, h2, h3, h4, st, it]
      · simp [h1, h2, h3, st, it]
    · simp [h1, h2, st, it]
  · simp [h1, st, it]
end Go.Proofs.Ytmhfknmjchaccaa.Pure
