/- The shifting counters in plain numbers: what the program's ways and the reference's tell of each state is alike. Conditions: as each lemma says. -/
import Derived.Test.YtnpgmkikdnlnaaaXMarks
import Derived.Test.YtnpgmkikdnlnaaaXRing
import Derived.Test.YtnpgmkikdnlnaaaXp12
import Derived.Test.YtnpgmkikdnlnaaaXp17
import Derived.Test.YtnpgmkikdnlnaaaXp19
import Derived.Test.YtnpgmkikdnlnaaaXp14
import Derived.Test.YtnpgmkikdnlnaaaXp15
import Derived.Test.YtnpgmkikdnlnaaaXp16
namespace Go.Proofs.Ytnpgmkikdnlnaaa.X
open Go.RowKit Go.Proofs.YtnpgmkikdnlnaaaW.PrintWords Go.Proofs.YtnpgmkikdnlnaaaW.PrintLast Go.Proofs.YtnpgmkikdnlnaaaW.PrintMore
set_option linter.unusedVariables false
set_option linter.unusedSimpArgs false

theorem within_eq (a b c : Int) : impl_within.f a b c = some (decide (b ≤ a ∧ a ≤ c)) := by
  unfold impl_within.f; by_cases h : a ≥ b <;> simp [h] <;> omega
theorem l00In_eq (a b c : Int) : spec_l00In.f a b c = some (decide (b ≤ a ∧ a ≤ c)) := by
  unfold spec_l00In.f; by_cases h : a ≥ b <;> simp [h] <;> omega
theorem bits_eq (b : Int) : impl_isBits.f b = some (decide (1 ≤ b ∧ b ≤ 8)) := by unfold impl_isBits.f; simp [within_eq]
theorem sbits_eq (b : Int) : spec_l02Bits.f b = some (decide (1 ≤ b ∧ b ≤ 8)) := by unfold spec_l02Bits.f; simp [l00In_eq]

theorem join_dec : ∀ b < 9, 1 ≤ b → ∀ x < 256, ∀ i < 2, Go.bits .or .i64 (Go.bits .and .i64 (wrap64 ((x : Nat) * 2 : Int)) (wrap64 (((2 ^ (b : Nat) : Nat) : Int) - 1))) ((i : Nat) : Int) = (((2 * x) % 2 ^ b + i : Nat) : Int) := by decide +kernel
theorem ones_dec : ∀ x < 256, ∃ o ∈ List.range 9, spec_l02Ones.f 20 ((x : Nat) : Int) = some (o : Int) ∧ impl_onesOf.f x = some (o : Int) := by decide +kernel
theorem high_dec : ∀ b < 9, 1 ≤ b → ∀ x < 256, Go.bits .and .i64 (shr .i64 ((x : Nat) : Int) (IntKind.u64.wrap (wrap64 (((b : Nat) : Int) - 1)))) 1 = ((x / 2 ^ (b - 1) % 2 : Nat) : Int) := by decide +kernel
theorem size_dec : ∀ b < 9, 1 ≤ b → spec_l02Size.f ((b : Nat) : Int) = some ((2 ^ b : Nat) : Int) ∧ shl .i64 1 ((b : Nat) : Int) = ((2 ^ b : Nat) : Int) ∧ 2 ^ b ≤ 256 := by decide +kernel
theorem wrap_small (n : Int) (h0 : 0 ≤ n) (h1 : n < 2 ^ 8) : IntKind.i64.wrap n = n := IntWalk.i64_in _ ⟨by omega, by omega⟩
theorem and_small (x t : Nat) (hx : x < 256) (ht : t < 256) : Go.bits .and .i64 ((x : Nat) : Int) ((t : Nat) : Int) = ((x &&& t : Nat) : Int) ∧ x &&& t < 256 :=
  ⟨(bits_nat .i64 8 (by decide) wrap_small x t hx ht).1, Nat.lt_of_le_of_lt Nat.and_le_left hx⟩
theorem top_dec : ∀ b < 9, 1 ≤ b → ∀ x < 2 ^ b, x / 2 ^ (b - 1) < 2 := by decide +kernel
/-- The state that follows when the bits are moved, and a bit comes in. -/
def nxt (b x i : Nat) : Nat := (2 * x) % 2 ^ b + i
def lst (b : Nat) (inn : Nat → Nat) (n : Nat) : List Int := (List.range n).map fun (x : Nat) => ((nxt b x (inn x) : Nat) : Int)
theorem lst_len (b : Nat) (inn : Nat → Nat) (n : Nat) : (lst b inn n).length = n := by simp [lst]
theorem lst_succ (b : Nat) (inn : Nat → Nat) (n : Nat) : lst b inn (n + 1) = lst b inn n ++ [((nxt b n (inn n) : Nat) : Int)] := by simp [lst, List.range_succ]
theorem mono_add {α : Type} (f : Nat → Option α) (hm : ∀ k, LeO (f k) (f (k + 1))) (k d : Nat) (r : α) (h : f k = some r) : f (k + d) = some r := by
  induction d with
  | zero => exact h
  | succ d ih => exact hm _ _ ih

theorem moved_eq (b x i : Nat) (hb : b < 9) (hb1 : 1 ≤ b) (hx : x < 2 ^ b) (hi : i < 2) : impl_moved.f b x i = some ((nxt b x i : Nat) : Int) := by
  obtain ⟨_, hs, hl⟩ := size_dec b hb hb1
  have hp : 0 < 2 ^ b := Nat.two_pow_pos b
  unfold impl_moved.f
  have h1 : ¬ (((2 ^ b : Nat) : Int) = 0) := by omega
  have hm := Nat.mod_lt (2 * x) hp
  rw [if_pos (by omega), hs, if_neg h1, w64 (n := 2 * (x : Int)) (by omega) (by omega), tmodp (by omega)]
  have e : (2 * (x : Int)) % ((2 ^ b : Nat) : Int) = (((2 * x) % 2 ^ b : Nat) : Int) := by simp
  rw [e, w64 (by omega) (by omega)]
  simp [nxt]

/-- The program's way: whatever tells the states that follow. -/
theorem by_loop [C_impl_counterBy] (b : Nat) (inn : Nat → Nat) (n : Nat) (hn : n ≤ 256) (bi : Int) (hc : ∀ x, x < n → C_impl_counterBy.f ((x : Nat) : Int) = some ((nxt b x (inn x) : Nat) : Int)) :
    ∀ (d k i : Nat), i + d = n → d < k → impl_counterBy.l0 k n i bi (lst b inn i) = some (bi, lst b inn n, true)
  | 0, k, i, hi, hk => by
    cases k with
    | zero => omega
    | succ k => rw [impl_counterBy.l0, if_neg (by omega), show i = n by omega]
  | d + 1, k, i, hi, hk => by
    cases k with
    | zero => omega
    | succ k =>
      have ih := by_loop b inn n hn bi hc d k (i + 1) (by omega) (by omega)
      rw [impl_counterBy.l0, if_pos (by omega), hc i (by omega), Option.bind_some, if_pos (by rw [lst_len]; omega), w64 (by omega) (by omega), ← lst_succ]
      rw [Int.natCast_add, Int.natCast_one] at ih
      exact ih
theorem by_eq [C_impl_counterBy] (b : Nat) (hb : b < 9) (hb1 : 1 ≤ b) (inn : Nat → Nat) (k : Nat) (hk : 256 < k) (hc : ∀ x, x < 2 ^ b → C_impl_counterBy.f ((x : Nat) : Int) = some ((nxt b x (inn x) : Nat) : Int)) :
    impl_counterBy.f k b 0 = some ((b : Int), lst b inn (2 ^ b), true) := by
  obtain ⟨_, hs, hl⟩ := size_dec b hb hb1
  unfold impl_counterBy.f
  rw [bits_eq, Option.bind_some, decide_eq_true (by omega), if_pos rfl, if_pos (by omega), hs]
  exact by_loop b inn (2 ^ b) hl b hc (2 ^ b) k 0 (by omega) (by omega)
theorem by_no [C_impl_counterBy] (b : Int) (hb : ¬ (1 ≤ b ∧ b ≤ 8)) (k : Nat) : impl_counterBy.f k b 0 = some (0, [], false) := by
  unfold impl_counterBy.f
  rw [bits_eq, Option.bind_some, decide_eq_false hb]; simp

/-- The reference's way. -/
theorem shift_loop (b : Nat) (hb : b < 9) (hb1 : 1 ≤ b) (kind : Int) (taps : Nat) (ht : taps < 256) (inn : Nat → Nat) (hin : ∀ x, x < 2 ^ b → inn x < 2)
    (h0 : kind ≠ 2 → ∀ x, x < 2 ^ b → (if kind = 1 then wrap64 (1 - ((x / 2 ^ (b - 1) % 2 : Nat) : Int)) else ((x / 2 ^ (b - 1) % 2 : Nat) : Int)) = ((inn x : Nat) : Int))
    (h2 : kind = 2 → ∀ x : Nat, x < 2 ^ b → ∃ o : Nat, spec_l02Ones.f 20 (Go.bits .and .i64 (x : Int) (taps : Int)) = some (o : Int) ∧ o % 2 = inn x) :
    ∀ (d k i : Nat), i + d = 2 ^ b → 2 * d + 25 < k → spec_l02Shift.l0 k b kind taps i b (lst b inn i) = some ((b : Int), lst b inn (2 ^ b))
  | 0, k, i, hi, hk => by
    obtain ⟨hs, _, hl⟩ := size_dec b hb hb1
    cases k with
    | zero => omega
    | succ k => rw [spec_l02Shift.l0, hs, Option.bind_some, if_neg (by omega), show i = 2 ^ b by omega]
  | d + 1, k, i, hi, hk => by
    obtain ⟨hs, _, hl⟩ := size_dec b hb hb1
    obtain ⟨k, rfl⟩ : ∃ m, k = m + 1 + 1 := ⟨k - 2, by omega⟩
    have ih := shift_loop b hb hb1 kind taps ht inn hin h0 h2 d k (i + 1) (by omega) (by omega)
    rw [Int.natCast_add, Int.natCast_one] at ih
    have hw : IntKind.u64.wrap (wrap64 ((b : Int) - 1)) = (b : Int) - 1 := by rw [w64 (by omega) (by omega)]; exact IntWalk.u64_in _ ⟨by omega, by omega⟩
    have hh := high_dec b hb hb1 i (by omega)
    have hj := join_dec b hb hb1 i (by omega) (inn i) (hin i (by omega))
    have step : ∀ y : Int, y = ((inn i : Nat) : Int) → (if (lst b inn i).length < 17592186044416 then spec_l02Shift.l0 k b kind taps (wrap64 ((i : Int) + 1)) b (lst b inn i ++ [Go.bits .or .i64 (Go.bits .and .i64 (wrap64 ((i : Int) * 2)) (wrap64 (((2 ^ b : Nat) : Int) - 1))) y]) else none) = some ((b : Int), lst b inn (2 ^ b)) := by
      intro y hy
      rw [hy, if_pos (by rw [lst_len]; omega), hj, show (2 * i) % 2 ^ b + inn i = nxt b i (inn i) from rfl, ← lst_succ, w64 (by omega) (by omega)]
      exact ih
    rw [spec_l02Shift.l0, hs, Option.bind_some, if_pos (by omega), if_pos (by rw [hw]; omega), hh]
    by_cases hk1 : kind = 1
    · rw [if_pos hk1, spec_l02Shift.j1, if_neg (by omega), hs, Option.bind_some]
      have := h0 (by omega) i (by omega)
      rw [if_pos hk1] at this
      exact step _ this
    · rw [if_neg hk1, spec_l02Shift.j1]
      by_cases hk2 : kind = 2
      · obtain ⟨o, ho, hp⟩ := h2 hk2 i (by omega)
        have ho2 : spec_l02Ones.f k (Go.bits .and .i64 (i : Int) (taps : Int)) = some (o : Int) := by
          have := mono_add (fun k => spec_l02Ones.f k (Go.bits .and .i64 (i : Int) (taps : Int))) (fun k => spec_l02Ones.mono _ k) 20 (k - 20) _ ho
          rwa [show 20 + (k - 20) = k by omega] at this
        rw [if_pos hk2, ho2, Option.bind_some, hs, Option.bind_some]
        refine step _ ?_
        rw [tmodp (by omega), ← hp]; simp
      · rw [if_neg hk2, hs, Option.bind_some]
        have := h0 hk2 i (by omega)
        rw [if_neg hk1] at this
        exact step _ this
theorem shift_eq (b : Nat) (hb : b < 9) (hb1 : 1 ≤ b) (kind : Int) (taps : Nat) (ht : taps < 256) (inn : Nat → Nat) (hin : ∀ x, x < 2 ^ b → inn x < 2)
    (h0 : kind ≠ 2 → ∀ x, x < 2 ^ b → (if kind = 1 then wrap64 (1 - ((x / 2 ^ (b - 1) % 2 : Nat) : Int)) else ((x / 2 ^ (b - 1) % 2 : Nat) : Int)) = ((inn x : Nat) : Int))
    (h2 : kind = 2 → ∀ x : Nat, x < 2 ^ b → ∃ o : Nat, spec_l02Ones.f 20 (Go.bits .and .i64 (x : Int) (taps : Int)) = some (o : Int) ∧ o % 2 = inn x) (k : Nat) (hk : 600 < k) :
    spec_l02Shift.f k b kind taps = some ((b : Int), lst b inn (2 ^ b)) := by
  obtain ⟨_, _, hl⟩ := size_dec b hb hb1
  unfold spec_l02Shift.f
  exact shift_loop b hb hb1 kind taps ht inn hin h0 h2 (2 ^ b) k 0 (by omega) (by omega)

/-- Counters that are held against each other, marked, and held against their marks. -/
theorem eqC (k : Nat) (b : Int) (l : List Int) (hl : l.length ≤ 256) (hk : 256 < k) : laws_eqCounter.f k b l b l = some true := by
  unfold laws_eqCounter.f; rw [if_pos rfl, eqInt64S_refl k l (by omega) (by omega)]; rfl
theorem markC (k : Nat) (b : Int) (l : List Int) (hl : l.length ≤ 256) (hk : 256 < k) : laws_markCounter.f k b l 1 = some (1 + (l.length : Int), iota 1 l.length) := by
  unfold laws_markCounter.f; rw [markInt64S_eq k l 1 (by omega) (by omega) (by omega) (by omega)]; rfl
theorem heldC (k : Nat) (b : Int) (n : Nat) (hn : n ≤ 256) (hk : 256 < k) : laws_heldCounter.f k b (iota 1 n) 1 = some (1 + (n : Int)) := by
  unfold laws_heldCounter.f; rw [heldInt64S_eq k 1 n (by omega) (by omega) (by omega) (by omega), Option.bind_some, if_neg (by omega)]
end Go.Proofs.Ytnpgmkikdnlnaaa.X
