/- The law FnExactTapCounter in plain numbers: both ways tell the same counter, and what is made is new. No conditions. -/
import Derived.Test.YtnpgmkikdnlnaaaCCtr
import Derived.Test.YtnpgmkikdnlnaaaXp6
namespace Go.Proofs.Ytnpgmkikdnlnaaa.X
open Go.RowKit Go.Proofs.YtnpgmkikdnlnaaaW.PrintWords Go.Proofs.YtnpgmkikdnlnaaaW.PrintLast Go.Proofs.YtnpgmkikdnlnaaaW.PrintMore

theorem FnExactTapCounter_same (a0 a1 : Int) : ∃ B l t, l.length ≤ 256 ∧ impl_TapCounter.f (1000 + 1) a0 a1 = some (B, l, t) ∧ spec_TapCounter.f (1000 + 1) a0 a1 = some (B, l, t) ∧ impl_TapCounter.f 1000 a0 a1 = some (B, l, t) := by
  unfold impl_TapCounter.f spec_TapCounter.f impl_isStateOf.f spec_l02State.f
  simp only [bits_eq, sbits_eq, within_eq, l00In_eq, Option.bind_some]
  by_cases h : 1 ≤ a0 ∧ a0 ≤ 8
  · obtain ⟨b, rfl⟩ : ∃ b : Nat, a0 = b := ⟨a0.toNat, by omega⟩
    obtain ⟨hs, hs2, hl⟩ := size_dec b (by omega) (by omega)
    have hp : 0 < 2 ^ b := Nat.two_pow_pos b
    rw [hs, hs2]
    simp only [Option.bind_some]
    rw [w64 (n := ((2 ^ b : Nat) : Int) - 1) (by omega) (by omega)]
    have h00 : (0 : Int) ≤ b := by omega
    by_cases h2 : 0 ≤ a1 ∧ a1 ≤ ((2 ^ b : Nat) : Int) - 1
    · obtain ⟨t, rfl⟩ : ∃ t : Nat, a1 = t := ⟨a1.toNat, by omega⟩
      by_cases hz : t = 0
      · subst hz
        refine ⟨0, [], false, by simp, ?_⟩
        simp [h, h00]
      · have hone : ∀ x : Nat, x < 2 ^ b → ∃ o : Nat, spec_l02Ones.f 20 (Go.bits .and .i64 (x : Int) (t : Int)) = some (o : Int) ∧ impl_onesOf.f (Go.bits .and .i64 (x : Int) (t : Int)) = some (o : Int) := by
          intro x hx
          obtain ⟨e, hlt⟩ := and_small x t (by omega) (by omega)
          obtain ⟨o, _, h1, h2⟩ := ones_dec (x &&& t) hlt
          rw [e]
          exact ⟨o, h1, h2⟩
        obtain ⟨on, hon⟩ : ∃ on : Nat → Nat, ∀ x : Nat, x < 2 ^ b → spec_l02Ones.f 20 (Go.bits .and .i64 (x : Int) (t : Int)) = some ((on x : Nat) : Int) ∧ impl_onesOf.f (Go.bits .and .i64 (x : Int) (t : Int)) = some ((on x : Nat) : Int) := by
          refine ⟨fun x => if hx : x < 2 ^ b then Classical.choose (hone x hx) else 0, fun x hx => ?_⟩
          simp only [dif_pos hx]
          exact Classical.choose_spec (hone x hx)
        have hc : ∀ x, x < 2 ^ b → (tapC (b : Int) (t : Int)).f ((x : Nat) : Int) = some ((nxt b x (on x % 2) : Nat) : Int) := by
          intro x hx
          show (impl_onesOf.f (Go.bits .and .i64 (x : Int) (t : Int))).bind (fun o => impl_moved.f b x (o.tmod 2)) = _
          rw [(hon x hx).2, Option.bind_some, tmodp (by omega)]
          have := moved_eq b x (on x % 2) (by omega) (by omega) hx (by omega)
          simpa using this
        have hi : ∀ k, 256 < k → @impl_counterBy.f (tapC (b : Int) (t : Int)) k b 0 = some ((b : Int), lst b (fun x => on x % 2) (2 ^ b), true) := fun k hk => @by_eq (tapC b t) b (by omega) (by omega) (fun x => on x % 2) k hk hc
        have hsp := shift_eq b (by omega) (by omega) 2 t (by omega) (fun x => on x % 2) (fun x _ => by omega) (fun h2 => absurd rfl h2) (fun _ x hx => ⟨on x, (hon x hx).1, rfl⟩) (1000 + 1) (by omega)
        have hz2 : ¬ ((t : Int) = 0) := by omega
        have h23 := h2.2
        refine ⟨(b : Int), lst b (fun x => on x % 2) (2 ^ b), true, by rw [lst_len]; exact hl, ?_, ?_, ?_⟩
        · simp only [h, h00, h2, decide_true, and_self, if_true, Option.bind_some, hz2, if_false]
          exact hi (1000 + 1) (by omega)
        · simp only [h, h2, decide_true, and_self, if_true, Option.bind_some, hz2, if_false]
          rw [hsp]; rfl
        · simp only [h, h00, h2, decide_true, and_self, if_true, Option.bind_some, hz2, if_false]
          exact hi 1000 (by omega)
    · refine ⟨0, [], false, by simp, ?_⟩
      simp [h, h00, -Int.natCast_pow, h2]
  · refine ⟨0, [], false, by simp, ?_⟩
    simp [h]

theorem FnExactTapCounter_tail (k : Nat) (hk : 300 < k) (a0 a1 : Int) (B : Int) (l : List Int) (t : Bool) (hl : l.length ≤ 256) (h : impl_TapCounter.f k a0 a1 = some (B, l, t)) :
    laws_FnExactTapCounter.j0 (k + 1) a0 a1 t (t != t) B l B l = some true := by
  rw [laws_FnExactTapCounter.j0, if_neg (by cases t <;> decide), markC k B l hl (by omega), Option.bind_some]
  simp only
  rw [heldC k B l.length hl (by omega), Option.bind_some, if_neg (by omega), if_pos rfl, h, Option.bind_some]
  simp only
  rw [eqC k B l hl (by omega), Option.bind_some, if_pos rfl]
  cases k with
  | zero => omega
  | succ k => rw [laws_FnExactTapCounter.j1, if_neg (by cases t <;> decide), heldC k B l.length hl (by omega), Option.bind_some, if_neg (by omega), if_pos rfl]
theorem FnExactTapCounter_pure : laws_FnExactTapCounter.Pure := by
  intro a0 a1 _ _
  obtain ⟨B, l, t, hl, hi, hs, hi0⟩ := FnExactTapCounter_same a0 a1
  refine ⟨1000 + 1, ?_⟩
  unfold laws_FnExactTapCounter.f
  rw [hs, Option.bind_some, hi, Option.bind_some]
  simp only
  rw [eqC (1000 + 1) B l hl (by omega), Option.bind_some, if_pos rfl]
  exact FnExactTapCounter_tail 1000 (by omega) a0 a1 B l t hl hi0
end Go.Proofs.Ytnpgmkikdnlnaaa.X
