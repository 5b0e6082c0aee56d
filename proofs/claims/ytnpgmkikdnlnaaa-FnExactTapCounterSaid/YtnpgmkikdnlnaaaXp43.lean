-- Written by a program of this session out of the kit's print of the loaded functions: a plain function of a Go function, and its contract.
import Derived.Test.YtnpgmkikdnlnaaaXp0
import Derived.Test.YtnpgmkikdnlnaaaXp55
import Derived.Test.YtnpgmkikdnlnaaaXp36
import Derived.Test.YtnpgmkikdnlnaaaXp56
namespace Go.Proofs.Ytnpgmkikdnlnaaa.X
open Go.RowKit Go.Proofs.YtnpgmkikdnlnaaaW.PrintWords Go.Proofs.YtnpgmkikdnlnaaaW.PrintLast Go.Proofs.YtnpgmkikdnlnaaaW.PrintMore
attribute [local go_sem] max2_int min2_int max_two min_two max_three min_three max_four min_four   -- for this text's walks alone
set_option linter.unusedVariables false
set_option linter.unusedSimpArgs false

/-! ### spec_l02State: function 43 -/
def spec_l02State.f (a0 : Int) (a1 : Int) : Option (Bool) := (spec_l02Bits.f a0).bind fun t211 => (if t211 = true then ((spec_l02Size.f a0).bind fun t212 => ((spec_l00In.f a1 0 (wrap64 (t212 - 1))).bind fun t213 => (some t213))) else (some false))
set_option maxHeartbeats 8000000 in
set_option maxRecDepth 100000 in
theorem spec_l02State.calls (a0 : Int) (a1 : Int) (r : Bool) (w : World) (h : spec_l02State.f a0 a1 = some r) :
    Calls Try.prog 43 #[.int .i64 a0, .int .i64 a1] w fun e w' => e = .returned (.bool r) ∧ Drawn0 w w' := by
  have H : ((spec_l02Bits.f a0).bind fun t211 => (if t211 = true then ((spec_l02Size.f a0).bind fun t212 => ((spec_l00In.f a1 0 (wrap64 (t212 - 1))).bind fun t213 => (some t213))) else (some false))) = some r := h
  clear h
  replace H := Option.bind_eq_some_iff.mp H
  obtain ⟨t211, A30, H⟩ := H
  replace H : (if t211 = true then ((spec_l02Size.f a0).bind fun t212 => ((spec_l00In.f a1 0 (wrap64 (t212 - 1))).bind fun t213 => (some t213))) else (some false)) = some r := H
  have A3 := Aside0.mk A30
  clear A30
  by_cases c4 : t211 = true
  · subst c4
    have H1 : ((spec_l02Size.f a0).bind fun t212 => ((spec_l00In.f a1 0 (wrap64 (t212 - 1))).bind fun t213 => (some t213))) = some r := by rw [if_pos rfl] at H; exact H
    clear H
    have H := H1
    clear H1
    replace H := Option.bind_eq_some_iff.mp H
    obtain ⟨t212, A50, H⟩ := H
    replace H : ((spec_l00In.f a1 0 (wrap64 (t212 - 1))).bind fun t213 => (some t213)) = some r := H
    have A5 := Aside0.mk A50
    clear A50
    replace H := Option.bind_eq_some_iff.mp H
    obtain ⟨t213, A60, H⟩ := H
    replace H : (some t213) = some r := H
    have A6 := Aside0.mk A60
    clear A60
    obtain rfl := Option.some.inj H
    go_enter Try.func43, Try.ntmps43
    go_wp2_with (first | ((with_reducible refine gate_callee (f := 36) rfl ?_); refine goesL_ (some 6) rfl rfl Try.func36 (by kernel_rfl) rfl #[.int .i64 a0] rfl (by (try simp only [List.map_toArray, List.map_cons, List.map_nil]); first | done | rfl | (simp only [List.length_drop, List.length_take]; rfl)) ?_; (with_reducible refine (spec_l02Bits.calls a0 true _ A3.out).mono ?_); rintro e w' ⟨rfl, ⟨nd, rfl⟩⟩; refine ⟨_, rfl, ?_⟩) | (go_at_call 56; (with_reducible refine (spec_l02Size.calls a0 t212 _ A5.out).mono ?_); rintro e w' ⟨rfl, ⟨nd, rfl⟩⟩) | (go_at_call 55; (with_reducible refine (spec_l00In.calls a1 0 (wrap64 (t212 - 1)) t213 _ A6.out).mono ?_); rintro e w' ⟨rfl, ⟨nd, rfl⟩⟩))
    go_ret
    exact ⟨by first | rfl | (simp; done) | (simp [*]; done), by repeat (first | exact Drawn0.refl _ | apply Drawn0.step)⟩
  · replace c4 := Bool.eq_false_iff.mpr c4
    subst c4
    have H1 : (some false) = some r := by rw [if_neg (show ¬ (false = true) by decide)] at H; exact H
    clear H
    have H := H1
    clear H1
    obtain rfl := Option.some.inj H
    go_enter Try.func43, Try.ntmps43
    go_wp2_with (first | ((with_reducible refine gate_callee (f := 36) rfl ?_); refine goesL_ (some 6) rfl rfl Try.func36 (by kernel_rfl) rfl #[.int .i64 a0] rfl (by (try simp only [List.map_toArray, List.map_cons, List.map_nil]); first | done | rfl | (simp only [List.length_drop, List.length_take]; rfl)) ?_; (with_reducible refine (spec_l02Bits.calls a0 false _ A3.out).mono ?_); rintro e w' ⟨rfl, ⟨nd, rfl⟩⟩; refine ⟨_, rfl, ?_⟩))
    go_ret
    exact ⟨by first | rfl | (simp; done) | (simp [*]; done), by repeat (first | exact Drawn0.refl _ | apply Drawn0.step)⟩

end Go.Proofs.Ytnpgmkikdnlnaaa.X
