/- The program's areMoves over the library's search with a closure: what it answers. Conditions: none. -/
import Derived.Test.YtojpibpjieanhaaXFun
import Derived.Test.YtojpibpjieanhaaXp47
import Derived.Test.YtojpibpjieanhaaXp99
namespace Go.Proofs.Ytojpibpjieanhaa.X
open Go.RowKit Go.Proofs.YtojpibpjieanhaaW.PrintWords Go.Proofs.YtojpibpjieanhaaW.PrintLast Go.Proofs.YtojpibpjieanhaaW.PrintMore
set_option linter.unusedVariables false
set_option linter.unusedSimpArgs false
theorem drawn_trans {a b c : World} (h : Drawn0 a b) (k : Drawn0 b c) : Drawn0 a c := by
  obtain ⟨m, rfl⟩ := h
  obtain ⟨n, rfl⟩ := k
  exact ⟨m + n, by simp [World.drewN, Nat.add_assoc]⟩
abbrev areC : C_slices_IndexFunc_int64_int64 := ⟨fun x => some (!decide (-20 ≤ x ∧ x ≤ 20))⟩
set_option maxHeartbeats 4000000 in
set_option maxRecDepth 100000 in
theorem AreClo0 (x : Int) (b : Bool) (w : World) (h : impl_within.f x (-20) 20 = some b) : Calls Try.prog 77 #[.int .i64 x] w fun e w' => e = .returned (.bool !b) ∧ Drawn0 w w' := by
  have H := Aside0.mk h
  clear h
  have HD := Aside0.mk (Drawn0.refl w)
  go_enter Try.func77, Try.ntmps77
  go_wp2_with (first
    | (go_at_call 47; (with_reducible refine (impl_within.calls x (-20) 20 _ _ H.out).mono ?_); rintro e wn ⟨rfl, hb⟩; have n0_ := Aside0.mk (drawn_trans HD.out hb); clear HD hb; have HD := n0_; clear n0_))
  go_ret
  exact ⟨rfl, HD.out⟩
theorem AreClo (x : Int) (w : World) : Calls Try.prog 77 #[.int .i64 x] w fun e w' => e = .returned (.bool (!decide (-20 ≤ x ∧ x ≤ 20))) ∧ Drawn0 w w' :=
  AreClo0 x _ w (by unfold impl_within.f; by_cases h : x ≥ -20 <;> simp [h] <;> omega)
set_option maxHeartbeats 4000000 in
set_option maxRecDepth 100000 in
theorem AreHas (k : Nat) (A : Option Addr) (c : Nat) (l : List Int) (r : Int) (w : World) (hr : Kd.C (Kd.int .i64) w A l.length l) (hc : l.length ≤ c) (h : @slices_IndexFunc_int64_int64.f areC k l 0 = some r) :
    Calls Try.prog 76 #[.slice A l.length c, .func (.func 77) #[] #[]] w fun e w' => e = .returned (.bool (decide (r ≥ 0))) ∧ Drawn0 w w' := by
  have H := Aside0.mk h
  have HR := Aside0.mk hr
  have HC := Aside0.mk hc
  clear h hr hc
  have HD := Aside0.mk (Drawn0.refl w)
  go_enter Try.func76, Try.ntmps76
  go_wp2_with (first
    | (go_at_call 99; refine (@slices_IndexFunc_int64_int64.calls areC k A c l 0 r 77 Try.f77 #[] ⟨Try.func77, rfl, by kernel_rfl⟩ _ ?hcl HR.out HC.out H.out).mono ?_; (case hcl => exact fun x r W hx _ => by obtain rfl := Option.some.inj hx; exact AreClo x W); rintro e wn ⟨rfl, hb⟩; have n0_ := Aside0.mk (drawn_trans HD.out hb); clear HD hb; have HD := n0_; clear n0_))
  go_ret
  exact ⟨rfl, HD.out⟩
def impl_areMoves.f (k : Nat) (l : List Int) : Option Bool := (@slices_IndexFunc_int64_int64.f areC k l 0).bind fun i => some (!decide (i ≥ 0))
theorem impl_areMoves.mono : ∀ l k, LeO (impl_areMoves.f k l) (impl_areMoves.f (k + 1) l) := by
  intro l k
  unfold impl_areMoves.f
  exact LeO.bind (@slices_IndexFunc_int64_int64.mono areC l 0 k) (fun _ => LeO.refl _)
set_option maxHeartbeats 4000000 in
set_option maxRecDepth 100000 in
theorem impl_areMoves.calls (k : Nat) (A : Option Addr) (c : Nat) (l : List Int) (r : Bool) (w : World) (hr : Kd.C (Kd.int .i64) w A l.length l) (hc : l.length ≤ c) (h : impl_areMoves.f k l = some r) :
    Calls Try.prog 48 #[.slice A l.length c] w fun e w' => e = .returned (.bool r) ∧ Drawn0 w w' := by
  unfold impl_areMoves.f at h
  obtain ⟨i, hi, h⟩ := Option.bind_eq_some_iff.mp h
  obtain rfl := Option.some.inj h
  have H := Aside0.mk hi
  have HR := Aside0.mk hr
  have HC := Aside0.mk hc
  clear h hr hc hi
  have HD := Aside0.mk (Drawn0.refl w)
  go_enter Try.func48, Try.ntmps48
  go_wp2_with (first
    | (go_at_call 76; (with_reducible refine (AreHas k A c l i _ HR.out HC.out H.out).mono ?_); rintro e wn ⟨rfl, hb⟩; have n0_ := Aside0.mk (drawn_trans HD.out hb); clear HD hb; have HD := n0_; clear n0_))
  go_ret
  exact ⟨rfl, HD.out⟩
end Go.Proofs.Ytojpibpjieanhaa.X
