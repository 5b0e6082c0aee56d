/- Plain lemmas on whole numbers for the clocks: wrapping, Go's division, the greatest common divisor, edges before a moment. No conditions. -/
import Derived.RowKit
import Derived.WalkKit
import Derived.Test.YtmhfknmjchaccaaWMore
namespace Go.Proofs.Ytmhfknmjchaccaa.CMath
open Go.RowKit Go.Proofs.YtmhfknmjchaccaaW.PrintMore Go.Proofs.YtmhfknmjchaccaaW.PrintWords

theorem w64 {n : Int} (h0 : -9223372036854775808 ≤ n) (h1 : n ≤ 9223372036854775807) : wrap64 n = n := by unfold wrap64; omega
theorem mx_eq (a b : Int) : mx a b = max a b := by unfold mx; split <;> omega
theorem mn_eq (a b : Int) : mn a b = min a b := by unfold mn; split <;> omega
theorem tdivp {a b : Int} (h : 0 ≤ a) : Int.tdiv a b = a / b := Int.tdiv_eq_ediv_of_nonneg h
theorem tmodp {a b : Int} (h : 0 ≤ a) : Int.tmod a b = a % b := Int.tmod_eq_emod_of_nonneg h
theorem tdivn {a b : Int} (h : a ≤ 0) : Int.tdiv a b = -((-a) / b) := by
  have e : a = -(-a) := by omega
  rw [e, Int.neg_tdiv, tdivp (by omega)]; simp
theorem tmodn {a b : Int} (h : a ≤ 0) : Int.tmod a b = -((-a) % b) := by
  have e : a = -(-a) := by omega
  rw [e, Int.neg_tmod, tmodp (by omega)]; simp
theorem ediv_bd {a b : Int} (h : 0 ≤ a) (hb : 0 < b) : 0 ≤ a / b ∧ a / b ≤ a := ⟨Int.ediv_nonneg h (by omega), Int.ediv_le_self b h⟩
/-- How many edges there are before a moment. -/
def bef (P O m : Int) : Int := if m ≤ O then 0 else (m - O - 1) / P + 1
theorem bef_bd (P O m : Int) (hP : 0 < P) (hO : 0 ≤ O) (hm : 0 ≤ m) : 0 ≤ bef P O m ∧ bef P O m ≤ m + 1 := by
  unfold bef
  split
  · omega
  · have := ediv_bd (a := m - O - 1) (b := P) (by omega) hP; omega
theorem bef_impl (P O m : Int) (hP : 1 ≤ P ∧ P ≤ 100000) (hO : 0 ≤ O ∧ O ≤ 100000) (hm : 0 ≤ m ∧ m ≤ 1000000000000) :
    mx 0 (wrap64 (Int.tdiv (wrap64 ((wrap64 ((wrap64 (m - O)) + P)) - 1)) P)) = bef P O m := by
  rw [w64 (n := m - O) (by omega) (by omega), w64 (n := m - O + P) (by omega) (by omega), w64 (n := m - O + P - 1) (by omega) (by omega), mx_eq]
  unfold bef
  by_cases hn : 0 ≤ m - O + P - 1
  · rw [tdivp hn]
    have b := ediv_bd hn (b := P) (by omega)
    rw [w64 (by omega) (by omega)]
    split
    · have : (m - O + P - 1) / P = 0 := Int.ediv_eq_zero_of_lt hn (by omega)
      omega
    · have e : m - O + P - 1 = (m - O - 1) + 1 * P := by omega
      have : (m - O + P - 1) / P = (m - O - 1) / P + 1 := by rw [e, Int.add_mul_ediv_right _ _ (by omega)]
      omega
  · rw [tdivn (by omega)]
    have b := ediv_bd (a := -(m - O + P - 1)) (b := P) (by omega) (by omega)
    rw [w64 (by omega) (by omega), if_pos (by omega)]
    omega
theorem bef_spec (P O m : Int) (hP : 1 ≤ P ∧ P ≤ 100000) (hO : 0 ≤ O ∧ O ≤ 100000) (hm : 0 ≤ m ∧ m ≤ 1000000000000) :
    (if m ≤ O then (some 0) else (if P = 0 then (none) else (some (wrap64 ((wrap64 (Int.tdiv (wrap64 ((wrap64 (m - O)) - 1)) P)) + 1))))) = some (bef P O m) := by
  unfold bef
  split
  · rfl
  · rw [if_neg (by omega), w64 (n := m - O) (by omega) (by omega), w64 (n := m - O - 1) (by omega) (by omega), tdivp (by omega)]
    have b := ediv_bd (a := m - O - 1) (b := P) (by omega) (by omega)
    rw [w64 (n := (m - O - 1) / P) (by omega) (by omega), w64 (by omega) (by omega)]
theorem tmod_nat (a b : Nat) : Int.tmod (a : Int) (b : Int) = ((a % b : Nat) : Int) := by rw [tmodp (by omega)]; simp
theorem gcd_step (a b : Nat) : Nat.gcd b (a % b) = Nat.gcd a b := by rw [Nat.gcd_comm b, ← Nat.gcd_rec, Nat.gcd_comm]
/-- The remainder of the difference of both offsets. -/
theorem shift_eq (d g : Int) (hg : 1 ≤ g ∧ g ≤ 100000) (hd : -100000 ≤ d ∧ d ≤ 100000) :
    Int.tmod (wrap64 (Int.tmod d g + g)) g = d % g ∧ (if Int.tmod d g < 0 then wrap64 (Int.tmod d g + g) else Int.tmod d g) = d % g := by
  by_cases h : 0 ≤ d
  · rw [tmodp (a := d) h]
    have h0 := Int.emod_nonneg d (b := g) (by omega)
    have h1 := Int.emod_lt_of_pos d (b := g) (by omega)
    rw [w64 (by omega) (by omega), tmodp (by omega), if_neg (by omega), Int.add_emod_right, Int.emod_emod]
    simp
  · rw [tmodn (a := d) (by omega)]
    have h0 := Int.emod_nonneg (-d) (b := g) (by omega)
    have h1 := Int.emod_lt_of_pos (-d) (b := g) (by omega)
    have h2 := Int.emod_nonneg d (b := g) (by omega)
    have h3 := Int.emod_lt_of_pos d (b := g) (by omega)
    have e : (d + (-d) % g) % g = 0 := by rw [Int.add_emod_emod]; simp [Int.add_right_neg]
    have e2 : ((d % g) + (-d) % g) % g = 0 := by rw [Int.emod_add_emod]; exact e
    have e3 : d % g + (-d) % g = 0 ∨ d % g + (-d) % g = g := by
      rcases Int.lt_or_le (d % g + (-d) % g) g with hlt | hge
      · rw [Int.emod_eq_of_lt (by omega) hlt] at e2; exact .inl e2
      · have : (d % g + (-d) % g - g) % g = 0 := by rw [Int.sub_emod_right]; exact e2
        rw [Int.emod_eq_of_lt (by omega) (by omega)] at this
        right; omega
    rw [w64 (by omega) (by omega), tmodp (by omega)]
    rcases e3 with e3 | e3
    · have z : (-d) % g = 0 := by omega
      rw [z]; simp; omega
    · rw [Int.emod_eq_of_lt (by omega) (by omega), if_pos (by omega)]; omega
end Go.Proofs.Ytmhfknmjchaccaa.CMath
