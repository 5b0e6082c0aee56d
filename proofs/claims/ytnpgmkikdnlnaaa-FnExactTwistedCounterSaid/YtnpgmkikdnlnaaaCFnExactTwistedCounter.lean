/- The law FnExactTwistedCounter in plain numbers: both ways tell the same counter, and what is made is new. No conditions. -/
import Derived.Test.YtnpgmkikdnlnaaaCCtr
import Derived.Test.YtnpgmkikdnlnaaaXp5
namespace Go.Proofs.Ytnpgmkikdnlnaaa.X
open Go.RowKit Go.Proofs.YtnpgmkikdnlnaaaW.PrintWords Go.Proofs.YtnpgmkikdnlnaaaW.PrintLast Go.Proofs.YtnpgmkikdnlnaaaW.PrintMore

theorem tw_eq (q : Nat) (h : q < 2) : wrap64 (1 - (q : Int)) = ((1 - q : Nat) : Int) := by rw [w64 (by omega) (by omega)]; omega
theorem tw_lt (q : Nat) (h : q < 2) : 1 - q < 2 := by omega
theorem FnExactTwistedCounter_same (a0 : Int) : ∃ B l t, l.length ≤ 256 ∧ impl_TwistedCounter.f (1000 + 1) a0 = some (B, l, t) ∧ spec_TwistedCounter.f (1000 + 1) a0 = some (B, l, t) ∧ impl_TwistedCounter.f 1000 a0 = some (B, l, t) := by
  by_cases h : 1 ≤ a0 ∧ a0 ≤ 8
  · obtain ⟨b, rfl⟩ : ∃ b : Nat, a0 = b := ⟨a0.toNat, by omega⟩
    obtain ⟨_, _, hl⟩ := size_dec b (by omega) (by omega)
    have hin : ∀ x, x < 2 ^ b → (1 - x / 2 ^ (b - 1)) < 2 := by intro x hx; have := top_dec b (by omega) (by omega) x hx; exact tw_lt _ this
    have hc : ∀ x, x < 2 ^ b → (twistC (b : Int)).f ((x : Nat) : Int) = some ((nxt b x (1 - x / 2 ^ (b - 1)) : Nat) : Int) := by
      intro x hx
      have ht := top_dec b (by omega) (by omega) x hx
      have e : (x : Int) / 2 ^ ((b : Int).toNat - 1) = ((x / 2 ^ (b - 1) : Nat) : Int) := by simp
      refine (if_pos ⟨h, by omega, by omega⟩).trans ?_
      rw [e]
      rw [tw_eq _ ht]
      exact moved_eq b x _ (by omega) (by omega) hx (hin x hx)
    have hi : ∀ k, 256 < k → impl_TwistedCounter.f k b = some ((b : Int), lst b (fun x => 1 - x / 2 ^ (b - 1)) (2 ^ b), true) := fun k hk => @by_eq (twistC b) b (by omega) (by omega) (fun x => 1 - x / 2 ^ (b - 1)) k hk hc
    have hs : spec_TwistedCounter.f (1000 + 1) b = some ((b : Int), lst b (fun x => 1 - x / 2 ^ (b - 1)) (2 ^ b), true) := by
      unfold spec_TwistedCounter.f
      rw [sbits_eq, Option.bind_some, decide_eq_true h, if_pos rfl]
      have := shift_eq b (by omega) (by omega) 1 0 (by omega) (fun x => 1 - x / 2 ^ (b - 1)) hin (fun _ x hx => by
        have ht := top_dec b (by omega) (by omega) x hx
        rw [Nat.mod_eq_of_lt ht]
        rw [if_pos rfl]; exact tw_eq _ ht) (fun h2 => absurd h2 (by decide)) (1000 + 1) (by omega)
      rw [Int.natCast_zero] at this
      rw [this]; rfl
    exact ⟨_, _, _, by rw [lst_len]; exact hl, hi _ (by omega), hs, hi _ (by omega)⟩
  · refine ⟨0, [], false, by simp, @by_no (twistC a0) a0 h _, ?_, @by_no (twistC a0) a0 h _⟩
    unfold spec_TwistedCounter.f
    rw [sbits_eq, Option.bind_some, decide_eq_false h]; simp

theorem FnExactTwistedCounter_tail (k : Nat) (hk : 300 < k) (a0 : Int) (B : Int) (l : List Int) (t : Bool) (hl : l.length ≤ 256) (h : impl_TwistedCounter.f k a0 = some (B, l, t)) :
    laws_FnExactTwistedCounter.j0 (k + 1) a0 t (t != t) B l B l = some true := by
  rw [laws_FnExactTwistedCounter.j0, if_neg (by cases t <;> decide), markC k B l hl (by omega), Option.bind_some]
  simp only
  rw [heldC k B l.length hl (by omega), Option.bind_some, if_neg (by omega), if_pos rfl, h, Option.bind_some]
  simp only
  rw [eqC k B l hl (by omega), Option.bind_some, if_pos rfl]
  cases k with
  | zero => omega
  | succ k => rw [laws_FnExactTwistedCounter.j1, if_neg (by cases t <;> decide), heldC k B l.length hl (by omega), Option.bind_some, if_neg (by omega), if_pos rfl]
theorem FnExactTwistedCounter_pure : laws_FnExactTwistedCounter.Pure := by
  intro a0 _
  obtain ⟨B, l, t, hl, hi, hs, hi0⟩ := FnExactTwistedCounter_same a0
  refine ⟨1000 + 1, ?_⟩
  unfold laws_FnExactTwistedCounter.f
  rw [hs, Option.bind_some, hi, Option.bind_some]
  simp only
  rw [eqC (1000 + 1) B l hl (by omega), Option.bind_some, if_pos rfl]
  exact FnExactTwistedCounter_tail 1000 (by omega) a0 B l t hl hi0
end Go.Proofs.Ytnpgmkikdnlnaaa.X
