/- My own texts of this seat and its words, merged: Xp8. Conditions: as each lemma says. -/
import Derived.Test.YthkpnbelbaljdaaDoorL21
import Derived.Test.YthkpnbelbaljdaaDoorL24
import Derived.Test.YthkpnbelbaljdaaDoorL23
section
-- Written by a program of this session out of the kit's print of the loaded functions: a plain function of a Go function, and its contract.
namespace Go.Proofs.YthkpnbelbaljdaaDoor.X
open Go.RowKit Go.Proofs.YthkpnbelbaljdaaDoorW.PrintWords Go.Proofs.YthkpnbelbaljdaaDoorW.PrintLast Go.Proofs.YthkpnbelbaljdaaDoorW.PrintMore
attribute [local go_sem] max2_int min2_int max_two min_two max_three min_three max_four min_four   -- for this text's walks alone
set_option linter.unusedVariables false
set_option linter.unusedSimpArgs false
/-! ### laws_FnSwitched: function 8 -/
mutual
def laws_FnSwitched.j0 : Nat → Int → ByteArray → ByteArray → ByteArray → ByteArray → ByteArray → ByteArray → ByteArray → List Int → Bool → Option (Bool)
  | 0, _, _, _, _, _, _, _, _, _, _ => none
  | k + 1, x5, x6, x7, x8, x10, x12, x13, x15, x17, x122 => if x122 = true then (some false) else (laws_FnSwitched.l0 k x5 x6 x7 x8 x10 x12 x13 x15 x17 0 0)
def laws_FnSwitched.l0 : Nat → Int → ByteArray → ByteArray → ByteArray → ByteArray → ByteArray → ByteArray → ByteArray → List Int → Int → Int → Option (Bool)
  | 0, _, _, _, _, _, _, _, _, _, _, _ => none
  | k + 1, x5, x6, x7, x8, x10, x12, x13, x15, x17, x19, x20 => if x20 < x5 then (if 0 ≤ x20 then (if x20 < (x12.size : Int) then (if (bt x12 x20) = 49 then (if x20 < (x13.size : Int) then (if (bt x13 x20) = 49 then (laws_FnSwitched.j2 k x5 x6 x7 x8 x10 x12 x13 x15 x17 x19 x20 true) else (if x20 < (x10.size : Int) then (if x20 < (x6.size : Int) then (if (bt x6 x20) = 49 then (laws_FnSwitched.j2 k x5 x6 x7 x8 x10 x12 x13 x15 x17 x19 x20 (((bt x10 x20) == 49) != true)) else (laws_FnSwitched.j2 k x5 x6 x7 x8 x10 x12 x13 x15 x17 x19 x20 (((bt x10 x20) == 49) != false))) else (none)) else (none))) else (none)) else (if x20 < (x10.size : Int) then (if x20 < (x13.size : Int) then (if (bt x13 x20) = 49 then (if x20 < (x7.size : Int) then (laws_FnSwitched.j2 k x5 x6 x7 x8 x10 x12 x13 x15 x17 x19 x20 (((bt x10 x20) == 49) != ((bt x7 x20) == 49))) else (none)) else (laws_FnSwitched.j2 k x5 x6 x7 x8 x10 x12 x13 x15 x17 x19 x20 (((bt x10 x20) == 49) != false))) else (none)) else (none))) else (none)) else (none)) else (some (x19 == (x17.length : Int)))
def laws_FnSwitched.j2 : Nat → Int → ByteArray → ByteArray → ByteArray → ByteArray → ByteArray → ByteArray → ByteArray → List Int → Int → Int → Bool → Option (Bool)
  | 0, _, _, _, _, _, _, _, _, _, _, _, _ => none
  | k + 1, x5, x6, x7, x8, x10, x12, x13, x15, x17, x19, x20, x166 => if x166 = true then (some false) else (if 0 ≤ x20 then (if x20 < (x6.size : Int) then (if x20 < (x8.size : Int) then (if (bt x8 x20) = 49 then (if x20 < (x7.size : Int) then (laws_FnSwitched.j3 k x5 x6 x7 x8 x10 x12 x13 x15 x17 x19 x20 (bt x7 x20)) else (none)) else (laws_FnSwitched.j3 k x5 x6 x7 x8 x10 x12 x13 x15 x17 x19 x20 (bt x6 x20))) else (none)) else (none)) else (none))
def laws_FnSwitched.j3 : Nat → Int → ByteArray → ByteArray → ByteArray → ByteArray → ByteArray → ByteArray → ByteArray → List Int → Int → Int → Int → Option (Bool)
  | 0, _, _, _, _, _, _, _, _, _, _, _, _ => none
  | k + 1, x5, x6, x7, x8, x10, x12, x13, x15, x17, x19, x20, x21 => if 0 ≤ x20 then (if x20 < (x15.size : Int) then (if (bt x15 x20) = x21 then (if x20 = 0 then (laws_FnSwitched.l0 k x5 x6 x7 x8 x10 x12 x13 x15 x17 x19 (wrap64 (x20 + 1))) else (if x20 < (x12.size : Int) then (if 0 ≤ (wrap64 (x20 - 1)) then (if (wrap64 (x20 - 1)) < (x12.size : Int) then (if (bt x12 x20) = (bt x12 (wrap64 (x20 - 1))) then (if x20 < (x13.size : Int) then (if (wrap64 (x20 - 1)) < (x13.size : Int) then (if (bt x13 x20) = (bt x13 (wrap64 (x20 - 1))) then (laws_FnSwitched.j4 k x5 x6 x7 x8 x10 x12 x13 x15 x17 x19 x20 false) else (if x20 < (x7.size : Int) then (if (bt x7 x20) = 48 then (if (wrap64 (x20 - 1)) < (x7.size : Int) then (laws_FnSwitched.j4 k x5 x6 x7 x8 x10 x12 x13 x15 x17 x19 x20 ((bt x7 (wrap64 (x20 - 1))) != 49)) else (none)) else (laws_FnSwitched.j4 k x5 x6 x7 x8 x10 x12 x13 x15 x17 x19 x20 true)) else (none))) else (none)) else (none)) else (if x20 < (x6.size : Int) then (if (bt x6 x20) = 48 then (if (wrap64 (x20 - 1)) < (x6.size : Int) then (if (bt x6 (wrap64 (x20 - 1))) = 49 then (if x20 < (x13.size : Int) then (if (wrap64 (x20 - 1)) < (x13.size : Int) then (if (bt x13 x20) = (bt x13 (wrap64 (x20 - 1))) then (laws_FnSwitched.j4 k x5 x6 x7 x8 x10 x12 x13 x15 x17 x19 x20 false) else (if x20 < (x7.size : Int) then (if (bt x7 x20) = 48 then (if (wrap64 (x20 - 1)) < (x7.size : Int) then (laws_FnSwitched.j4 k x5 x6 x7 x8 x10 x12 x13 x15 x17 x19 x20 ((bt x7 (wrap64 (x20 - 1))) != 49)) else (none)) else (laws_FnSwitched.j4 k x5 x6 x7 x8 x10 x12 x13 x15 x17 x19 x20 true)) else (none))) else (none)) else (none)) else (laws_FnSwitched.j4 k x5 x6 x7 x8 x10 x12 x13 x15 x17 x19 x20 true)) else (none)) else (laws_FnSwitched.j4 k x5 x6 x7 x8 x10 x12 x13 x15 x17 x19 x20 true)) else (none))) else (none)) else (none)) else (none))) else (some false)) else (none)) else (none)
def laws_FnSwitched.j4 : Nat → Int → ByteArray → ByteArray → ByteArray → ByteArray → ByteArray → ByteArray → ByteArray → List Int → Int → Int → Bool → Option (Bool)
  | 0, _, _, _, _, _, _, _, _, _, _, _, _ => none
  | k + 1, x5, x6, x7, x8, x10, x12, x13, x15, x17, x19, x20, x227 => if x227 = true then (some false) else (if 0 ≤ x20 then (if x20 < (x12.size : Int) then (if 0 ≤ (wrap64 (x20 - 1)) then (if (wrap64 (x20 - 1)) < (x12.size : Int) then (if (bt x12 x20) = (bt x12 (wrap64 (x20 - 1))) then (if x20 < (x13.size : Int) then (if (wrap64 (x20 - 1)) < (x13.size : Int) then (laws_FnSwitched.j5 k x5 x6 x7 x8 x10 x12 x13 x15 x17 x19 x20 ((bt x13 x20) != (bt x13 (wrap64 (x20 - 1))))) else (none)) else (none)) else (laws_FnSwitched.j5 k x5 x6 x7 x8 x10 x12 x13 x15 x17 x19 x20 true)) else (none)) else (none)) else (none)) else (none))
def laws_FnSwitched.j5 : Nat → Int → ByteArray → ByteArray → ByteArray → ByteArray → ByteArray → ByteArray → ByteArray → List Int → Int → Int → Bool → Option (Bool)
  | 0, _, _, _, _, _, _, _, _, _, _, _, _ => none
  | k + 1, x5, x6, x7, x8, x10, x12, x13, x15, x17, x19, x20, x245 => if x245 = true then (if x19 ≥ (x17.length : Int) then (some false) else (if 0 ≤ x19 then (if x19 < (x17.length : Int) then (if (rd x17 x19) = x20 then (laws_FnSwitched.l0 k x5 x6 x7 x8 x10 x12 x13 x15 x17 (wrap64 (x19 + 1)) (wrap64 (x20 + 1))) else (some false)) else (none)) else (none))) else (laws_FnSwitched.l0 k x5 x6 x7 x8 x10 x12 x13 x15 x17 x19 (wrap64 (x20 + 1)))
end
def laws_FnSwitched.f (k : Nat) (l0 : List Int) (l1 : List Int) : Option (Bool) := (laws_b10Long.f l0 l1).bind fun t397 => (if t397 = true then (some true) else ((laws_b10At.f l0 0 60).bind fun t398 => ((spec_B10Clock.f k l0 t398).bind fun t399 => ((spec_B10Clock.f k l1 t398).bind fun t400 => ((spec_B10Levels.f k l1 t398).bind fun t401 => ((laws_b10At.f l1 1 4).bind fun t402 => ((laws_b10At.f l1 2 2).bind fun t403 => ((impl_SafeSwitch.f t402 t403 t399 t400 t401).bind fun bt405 => ((impl_EnablesOf.f t402 t403 t399 t400 t401).bind fun bt407 => ((impl_PlainSwitch.f t399 t400 t401).bind fun bt410 => ((impl_SwitchTimes.f t402 t403 t399 t400 t401).bind fun bt412 => (if bt405.2 = true then (if bt407.2.2 = true then (if bt410.2 = true then (if bt412.2 = true then ((impl_ValidSwitch.f t402 t403).bind fun t416 => (if t416 = true then (if (bt405.1.size : Int) = t398 then (if (bt407.1.size : Int) = t398 then (if (bt407.2.1.size : Int) = t398 then (if (bt410.1.size : Int) = t398 then ((impl_IsClean.f bt405.1 t399 t400).bind fun t417 => (laws_FnSwitched.j0 k t398 t399 t400 t401 bt405.1 bt407.1 bt407.2.1 bt410.1 bt412.1 (!t417))) else (laws_FnSwitched.j0 k t398 t399 t400 t401 bt405.1 bt407.1 bt407.2.1 bt410.1 bt412.1 true)) else (laws_FnSwitched.j0 k t398 t399 t400 t401 bt405.1 bt407.1 bt407.2.1 bt410.1 bt412.1 true)) else (laws_FnSwitched.j0 k t398 t399 t400 t401 bt405.1 bt407.1 bt407.2.1 bt410.1 bt412.1 true)) else (laws_FnSwitched.j0 k t398 t399 t400 t401 bt405.1 bt407.1 bt407.2.1 bt410.1 bt412.1 true)) else (laws_FnSwitched.j0 k t398 t399 t400 t401 bt405.1 bt407.1 bt407.2.1 bt410.1 bt412.1 true))) else (laws_FnSwitched.j0 k t398 t399 t400 t401 bt405.1 bt407.1 bt407.2.1 bt410.1 bt412.1 true)) else (laws_FnSwitched.j0 k t398 t399 t400 t401 bt405.1 bt407.1 bt407.2.1 bt410.1 bt412.1 true)) else (laws_FnSwitched.j0 k t398 t399 t400 t401 bt405.1 bt407.1 bt407.2.1 bt410.1 bt412.1 true)) else (laws_FnSwitched.j0 k t398 t399 t400 t401 bt405.1 bt407.1 bt407.2.1 bt410.1 bt412.1 true)))))))))))))
theorem laws_FnSwitched.j0_no (k : Nat) (y0 : Int) (y1 : ByteArray) (y2 : ByteArray) (y3 : ByteArray) (y4 : ByteArray) (y5 : ByteArray) (y6 : ByteArray) (y7 : ByteArray) (y8 : List Int) (r : Bool) (h : laws_FnSwitched.j0 k y0 y1 y2 y3 y4 y5 y6 y7 y8 true = some r) : r = false := by
  cases k with
  | zero => simp [laws_FnSwitched.j0] at h
  | succ k => rw [laws_FnSwitched.j0, if_pos rfl] at h; exact (Option.some.inj h).symm
theorem laws_FnSwitched.j2_no (k : Nat) (y0 : Int) (y1 : ByteArray) (y2 : ByteArray) (y3 : ByteArray) (y4 : ByteArray) (y5 : ByteArray) (y6 : ByteArray) (y7 : ByteArray) (y8 : List Int) (y9 : Int) (y10 : Int) (r : Bool) (h : laws_FnSwitched.j2 k y0 y1 y2 y3 y4 y5 y6 y7 y8 y9 y10 true = some r) : r = false := by
  cases k with
  | zero => simp [laws_FnSwitched.j2] at h
  | succ k => rw [laws_FnSwitched.j2, if_pos rfl] at h; exact (Option.some.inj h).symm
theorem laws_FnSwitched.j4_no (k : Nat) (y0 : Int) (y1 : ByteArray) (y2 : ByteArray) (y3 : ByteArray) (y4 : ByteArray) (y5 : ByteArray) (y6 : ByteArray) (y7 : ByteArray) (y8 : List Int) (y9 : Int) (y10 : Int) (r : Bool) (h : laws_FnSwitched.j4 k y0 y1 y2 y3 y4 y5 y6 y7 y8 y9 y10 true = some r) : r = false := by
  cases k with
  | zero => simp [laws_FnSwitched.j4] at h
  | succ k => rw [laws_FnSwitched.j4, if_pos rfl] at h; exact (Option.some.inj h).symm
set_option maxHeartbeats 8000000 in
set_option maxRecDepth 100000 in
theorem laws_FnSwitched.calls (k : Nat) (A0 : Option Addr) (c0 : Nat) (l0 : List Int) (A1 : Option Addr) (c1 : Nat) (l1 : List Int) (r : Bool) (w : World) (hr0 : Kd.C (Kd.int .u8) w A0 l0.length l0) (hc0 : l0.length ≤ c0) (hr1 : Kd.C (Kd.int .u8) w A1 l1.length l1) (hc1 : l1.length ≤ c1) (h : laws_FnSwitched.f k l0 l1 = some r) (hrT : r = true) :
    Calls Tryd.prog 8 #[.slice A0 l0.length c0, .slice A1 l1.length c1] w fun e w' => e = .returned (.bool r) ∧ Below w.heap.size w w' := by
  have HRT := Aside0.mk hrT
  clear hrT
  have hu30 := Tryd.underlying30
  have HR0 := Aside0.mk hr0
  have HC0 := Aside0.mk hc0
  clear hr0 hc0
  have HR1 := Aside0.mk hr1
  have HC1 := Aside0.mk hc1
  clear hr1 hc1
  have HB := Aside0.mk (Below.refl w.heap.size w)
  have H : ((laws_b10Long.f l0 l1).bind fun t397 => (if t397 = true then (some true) else ((laws_b10At.f l0 0 60).bind fun t398 => ((spec_B10Clock.f k l0 t398).bind fun t399 => ((spec_B10Clock.f k l1 t398).bind fun t400 => ((spec_B10Levels.f k l1 t398).bind fun t401 => ((laws_b10At.f l1 1 4).bind fun t402 => ((laws_b10At.f l1 2 2).bind fun t403 => ((impl_SafeSwitch.f t402 t403 t399 t400 t401).bind fun bt405 => ((impl_EnablesOf.f t402 t403 t399 t400 t401).bind fun bt407 => ((impl_PlainSwitch.f t399 t400 t401).bind fun bt410 => ((impl_SwitchTimes.f t402 t403 t399 t400 t401).bind fun bt412 => (if bt405.2 = true then (if bt407.2.2 = true then (if bt410.2 = true then (if bt412.2 = true then ((impl_ValidSwitch.f t402 t403).bind fun t416 => (if t416 = true then (if (bt405.1.size : Int) = t398 then (if (bt407.1.size : Int) = t398 then (if (bt407.2.1.size : Int) = t398 then (if (bt410.1.size : Int) = t398 then ((impl_IsClean.f bt405.1 t399 t400).bind fun t417 => (laws_FnSwitched.j0 k t398 t399 t400 t401 bt405.1 bt407.1 bt407.2.1 bt410.1 bt412.1 (!t417))) else (laws_FnSwitched.j0 k t398 t399 t400 t401 bt405.1 bt407.1 bt407.2.1 bt410.1 bt412.1 true)) else (laws_FnSwitched.j0 k t398 t399 t400 t401 bt405.1 bt407.1 bt407.2.1 bt410.1 bt412.1 true)) else (laws_FnSwitched.j0 k t398 t399 t400 t401 bt405.1 bt407.1 bt407.2.1 bt410.1 bt412.1 true)) else (laws_FnSwitched.j0 k t398 t399 t400 t401 bt405.1 bt407.1 bt407.2.1 bt410.1 bt412.1 true)) else (laws_FnSwitched.j0 k t398 t399 t400 t401 bt405.1 bt407.1 bt407.2.1 bt410.1 bt412.1 true))) else (laws_FnSwitched.j0 k t398 t399 t400 t401 bt405.1 bt407.1 bt407.2.1 bt410.1 bt412.1 true)) else (laws_FnSwitched.j0 k t398 t399 t400 t401 bt405.1 bt407.1 bt407.2.1 bt410.1 bt412.1 true)) else (laws_FnSwitched.j0 k t398 t399 t400 t401 bt405.1 bt407.1 bt407.2.1 bt410.1 bt412.1 true)) else (laws_FnSwitched.j0 k t398 t399 t400 t401 bt405.1 bt407.1 bt407.2.1 bt410.1 bt412.1 true)))))))))))))) = some r := h
  clear h
  replace H := Option.bind_eq_some_iff.mp H
  obtain ⟨t397, A30, H⟩ := H
  replace H : (if t397 = true then (some true) else ((laws_b10At.f l0 0 60).bind fun t398 => ((spec_B10Clock.f k l0 t398).bind fun t399 => ((spec_B10Clock.f k l1 t398).bind fun t400 => ((spec_B10Levels.f k l1 t398).bind fun t401 => ((laws_b10At.f l1 1 4).bind fun t402 => ((laws_b10At.f l1 2 2).bind fun t403 => ((impl_SafeSwitch.f t402 t403 t399 t400 t401).bind fun bt405 => ((impl_EnablesOf.f t402 t403 t399 t400 t401).bind fun bt407 => ((impl_PlainSwitch.f t399 t400 t401).bind fun bt410 => ((impl_SwitchTimes.f t402 t403 t399 t400 t401).bind fun bt412 => (if bt405.2 = true then (if bt407.2.2 = true then (if bt410.2 = true then (if bt412.2 = true then ((impl_ValidSwitch.f t402 t403).bind fun t416 => (if t416 = true then (if (bt405.1.size : Int) = t398 then (if (bt407.1.size : Int) = t398 then (if (bt407.2.1.size : Int) = t398 then (if (bt410.1.size : Int) = t398 then ((impl_IsClean.f bt405.1 t399 t400).bind fun t417 => (laws_FnSwitched.j0 k t398 t399 t400 t401 bt405.1 bt407.1 bt407.2.1 bt410.1 bt412.1 (!t417))) else (laws_FnSwitched.j0 k t398 t399 t400 t401 bt405.1 bt407.1 bt407.2.1 bt410.1 bt412.1 true)) else (laws_FnSwitched.j0 k t398 t399 t400 t401 bt405.1 bt407.1 bt407.2.1 bt410.1 bt412.1 true)) else (laws_FnSwitched.j0 k t398 t399 t400 t401 bt405.1 bt407.1 bt407.2.1 bt410.1 bt412.1 true)) else (laws_FnSwitched.j0 k t398 t399 t400 t401 bt405.1 bt407.1 bt407.2.1 bt410.1 bt412.1 true)) else (laws_FnSwitched.j0 k t398 t399 t400 t401 bt405.1 bt407.1 bt407.2.1 bt410.1 bt412.1 true))) else (laws_FnSwitched.j0 k t398 t399 t400 t401 bt405.1 bt407.1 bt407.2.1 bt410.1 bt412.1 true)) else (laws_FnSwitched.j0 k t398 t399 t400 t401 bt405.1 bt407.1 bt407.2.1 bt410.1 bt412.1 true)) else (laws_FnSwitched.j0 k t398 t399 t400 t401 bt405.1 bt407.1 bt407.2.1 bt410.1 bt412.1 true)) else (laws_FnSwitched.j0 k t398 t399 t400 t401 bt405.1 bt407.1 bt407.2.1 bt410.1 bt412.1 true))))))))))))) = some r := H
  have A3 := Aside0.mk A30
  clear A30
  by_cases c4 : t397 = true
  · subst c4
    have H1 : (some true) = some r := by rw [if_pos rfl] at H; exact H
    clear H
    have H := H1
    clear H1
    obtain rfl := Option.some.inj H
    go_enter Tryd.func8, Tryd.ntmps8
    go_wp2_with (first | (go_at_call 25; (with_reducible refine (laws_b10Long.calls _ _ l0 _ _ l1 true _ ?side1 ?side2 ?side3 ?side4 A3.out).mono ?_); (case side1 => repeat (first | exact HR0.out | (with_reducible refine Kd.C_alloc ?_ _) | (with_reducible refine Kd.C_drewN ?_ _) | (with_reducible refine Kd.C_drew ?_))); (case side2 => first | exact trivial | (exact HC0.out)); (case side3 => repeat (first | exact HR1.out | (with_reducible refine Kd.C_alloc ?_ _) | (with_reducible refine Kd.C_drewN ?_ _) | (with_reducible refine Kd.C_drew ?_))); (case side4 => first | exact trivial | (exact HC1.out)); rintro e w' ⟨rfl, ⟨nd, rfl⟩⟩; (try first | exact ⟨rfl, _, World.drewN_drewN _ _ _⟩ | exact ⟨rfl, _, Eq.trans (World.drewN_drewN _ _ _) (congrArg (World.drewN _) (Nat.add_assoc _ _ _))⟩)))
    repeat (go_quiet (first | (go_at_call 25; (with_reducible refine (laws_b10Long.calls _ _ l0 _ _ l1 true _ ?side1 ?side2 ?side3 ?side4 A3.out).mono ?_); (case side1 => repeat (first | exact HR0.out | (with_reducible refine Kd.C_alloc ?_ _) | (with_reducible refine Kd.C_drewN ?_ _) | (with_reducible refine Kd.C_drew ?_))); (case side2 => first | exact trivial | (exact HC0.out)); (case side3 => repeat (first | exact HR1.out | (with_reducible refine Kd.C_alloc ?_ _) | (with_reducible refine Kd.C_drewN ?_ _) | (with_reducible refine Kd.C_drew ?_))); (case side4 => first | exact trivial | (exact HC1.out)); rintro e w' ⟨rfl, ⟨nd, rfl⟩⟩; (try first | exact ⟨rfl, _, World.drewN_drewN _ _ _⟩ | exact ⟨rfl, _, Eq.trans (World.drewN_drewN _ _ _) (congrArg (World.drewN _) (Nat.add_assoc _ _ _))⟩))); try go_wp2_with (first | (go_at_call 25; (with_reducible refine (laws_b10Long.calls _ _ l0 _ _ l1 true _ ?side1 ?side2 ?side3 ?side4 A3.out).mono ?_); (case side1 => repeat (first | exact HR0.out | (with_reducible refine Kd.C_alloc ?_ _) | (with_reducible refine Kd.C_drewN ?_ _) | (with_reducible refine Kd.C_drew ?_))); (case side2 => first | exact trivial | (exact HC0.out)); (case side3 => repeat (first | exact HR1.out | (with_reducible refine Kd.C_alloc ?_ _) | (with_reducible refine Kd.C_drewN ?_ _) | (with_reducible refine Kd.C_drew ?_))); (case side4 => first | exact trivial | (exact HC1.out)); rintro e w' ⟨rfl, ⟨nd, rfl⟩⟩; (try first | exact ⟨rfl, _, World.drewN_drewN _ _ _⟩ | exact ⟨rfl, _, Eq.trans (World.drewN_drewN _ _ _) (congrArg (World.drewN _) (Nat.add_assoc _ _ _))⟩))))
    go_ret
    exact ⟨by first | rfl | (simp [errW_none, errW_some] <;> rfl) | (simp [*, errW_none, errW_some] <;> rfl), by repeat (first | (with_reducible first | exact HB.out | apply below_alloc | apply pw_below_drewN | apply below_drew1) | exact HB.out)⟩
  · replace c4 := Bool.eq_false_iff.mpr c4
    subst c4
    have H1 : ((laws_b10At.f l0 0 60).bind fun t398 => ((spec_B10Clock.f k l0 t398).bind fun t399 => ((spec_B10Clock.f k l1 t398).bind fun t400 => ((spec_B10Levels.f k l1 t398).bind fun t401 => ((laws_b10At.f l1 1 4).bind fun t402 => ((laws_b10At.f l1 2 2).bind fun t403 => ((impl_SafeSwitch.f t402 t403 t399 t400 t401).bind fun bt405 => ((impl_EnablesOf.f t402 t403 t399 t400 t401).bind fun bt407 => ((impl_PlainSwitch.f t399 t400 t401).bind fun bt410 => ((impl_SwitchTimes.f t402 t403 t399 t400 t401).bind fun bt412 => (if bt405.2 = true then (if bt407.2.2 = true then (if bt410.2 = true then (if bt412.2 = true then ((impl_ValidSwitch.f t402 t403).bind fun t416 => (if t416 = true then (if (bt405.1.size : Int) = t398 then (if (bt407.1.size : Int) = t398 then (if (bt407.2.1.size : Int) = t398 then (if (bt410.1.size : Int) = t398 then ((impl_IsClean.f bt405.1 t399 t400).bind fun t417 => (laws_FnSwitched.j0 k t398 t399 t400 t401 bt405.1 bt407.1 bt407.2.1 bt410.1 bt412.1 (!t417))) else (laws_FnSwitched.j0 k t398 t399 t400 t401 bt405.1 bt407.1 bt407.2.1 bt410.1 bt412.1 true)) else (laws_FnSwitched.j0 k t398 t399 t400 t401 bt405.1 bt407.1 bt407.2.1 bt410.1 bt412.1 true)) else (laws_FnSwitched.j0 k t398 t399 t400 t401 bt405.1 bt407.1 bt407.2.1 bt410.1 bt412.1 true)) else (laws_FnSwitched.j0 k t398 t399 t400 t401 bt405.1 bt407.1 bt407.2.1 bt410.1 bt412.1 true)) else (laws_FnSwitched.j0 k t398 t399 t400 t401 bt405.1 bt407.1 bt407.2.1 bt410.1 bt412.1 true))) else (laws_FnSwitched.j0 k t398 t399 t400 t401 bt405.1 bt407.1 bt407.2.1 bt410.1 bt412.1 true)) else (laws_FnSwitched.j0 k t398 t399 t400 t401 bt405.1 bt407.1 bt407.2.1 bt410.1 bt412.1 true)) else (laws_FnSwitched.j0 k t398 t399 t400 t401 bt405.1 bt407.1 bt407.2.1 bt410.1 bt412.1 true)) else (laws_FnSwitched.j0 k t398 t399 t400 t401 bt405.1 bt407.1 bt407.2.1 bt410.1 bt412.1 true)))))))))))) = some r := by rw [if_neg (show ¬ (false = true) by decide)] at H; exact H
    clear H
    have H := H1
    clear H1
    replace H := Option.bind_eq_some_iff.mp H
    obtain ⟨t398, A50, H⟩ := H
    replace H : ((spec_B10Clock.f k l0 t398).bind fun t399 => ((spec_B10Clock.f k l1 t398).bind fun t400 => ((spec_B10Levels.f k l1 t398).bind fun t401 => ((laws_b10At.f l1 1 4).bind fun t402 => ((laws_b10At.f l1 2 2).bind fun t403 => ((impl_SafeSwitch.f t402 t403 t399 t400 t401).bind fun bt405 => ((impl_EnablesOf.f t402 t403 t399 t400 t401).bind fun bt407 => ((impl_PlainSwitch.f t399 t400 t401).bind fun bt410 => ((impl_SwitchTimes.f t402 t403 t399 t400 t401).bind fun bt412 => (if bt405.2 = true then (if bt407.2.2 = true then (if bt410.2 = true then (if bt412.2 = true then ((impl_ValidSwitch.f t402 t403).bind fun t416 => (if t416 = true then (if (bt405.1.size : Int) = t398 then (if (bt407.1.size : Int) = t398 then (if (bt407.2.1.size : Int) = t398 then (if (bt410.1.size : Int) = t398 then ((impl_IsClean.f bt405.1 t399 t400).bind fun t417 => (laws_FnSwitched.j0 k t398 t399 t400 t401 bt405.1 bt407.1 bt407.2.1 bt410.1 bt412.1 (!t417))) else (laws_FnSwitched.j0 k t398 t399 t400 t401 bt405.1 bt407.1 bt407.2.1 bt410.1 bt412.1 true)) else (laws_FnSwitched.j0 k t398 t399 t400 t401 bt405.1 bt407.1 bt407.2.1 bt410.1 bt412.1 true)) else (laws_FnSwitched.j0 k t398 t399 t400 t401 bt405.1 bt407.1 bt407.2.1 bt410.1 bt412.1 true)) else (laws_FnSwitched.j0 k t398 t399 t400 t401 bt405.1 bt407.1 bt407.2.1 bt410.1 bt412.1 true)) else (laws_FnSwitched.j0 k t398 t399 t400 t401 bt405.1 bt407.1 bt407.2.1 bt410.1 bt412.1 true))) else (laws_FnSwitched.j0 k t398 t399 t400 t401 bt405.1 bt407.1 bt407.2.1 bt410.1 bt412.1 true)) else (laws_FnSwitched.j0 k t398 t399 t400 t401 bt405.1 bt407.1 bt407.2.1 bt410.1 bt412.1 true)) else (laws_FnSwitched.j0 k t398 t399 t400 t401 bt405.1 bt407.1 bt407.2.1 bt410.1 bt412.1 true)) else (laws_FnSwitched.j0 k t398 t399 t400 t401 bt405.1 bt407.1 bt407.2.1 bt410.1 bt412.1 true))))))))))) = some r := H
    have A5 := Aside0.mk A50
    clear A50
    replace H := Option.bind_eq_some_iff.mp H
    obtain ⟨t399, A60, H⟩ := H
    replace H : ((spec_B10Clock.f k l1 t398).bind fun t400 => ((spec_B10Levels.f k l1 t398).bind fun t401 => ((laws_b10At.f l1 1 4).bind fun t402 => ((laws_b10At.f l1 2 2).bind fun t403 => ((impl_SafeSwitch.f t402 t403 t399 t400 t401).bind fun bt405 => ((impl_EnablesOf.f t402 t403 t399 t400 t401).bind fun bt407 => ((impl_PlainSwitch.f t399 t400 t401).bind fun bt410 => ((impl_SwitchTimes.f t402 t403 t399 t400 t401).bind fun bt412 => (if bt405.2 = true then (if bt407.2.2 = true then (if bt410.2 = true then (if bt412.2 = true then ((impl_ValidSwitch.f t402 t403).bind fun t416 => (if t416 = true then (if (bt405.1.size : Int) = t398 then (if (bt407.1.size : Int) = t398 then (if (bt407.2.1.size : Int) = t398 then (if (bt410.1.size : Int) = t398 then ((impl_IsClean.f bt405.1 t399 t400).bind fun t417 => (laws_FnSwitched.j0 k t398 t399 t400 t401 bt405.1 bt407.1 bt407.2.1 bt410.1 bt412.1 (!t417))) else (laws_FnSwitched.j0 k t398 t399 t400 t401 bt405.1 bt407.1 bt407.2.1 bt410.1 bt412.1 true)) else (laws_FnSwitched.j0 k t398 t399 t400 t401 bt405.1 bt407.1 bt407.2.1 bt410.1 bt412.1 true)) else (laws_FnSwitched.j0 k t398 t399 t400 t401 bt405.1 bt407.1 bt407.2.1 bt410.1 bt412.1 true)) else (laws_FnSwitched.j0 k t398 t399 t400 t401 bt405.1 bt407.1 bt407.2.1 bt410.1 bt412.1 true)) else (laws_FnSwitched.j0 k t398 t399 t400 t401 bt405.1 bt407.1 bt407.2.1 bt410.1 bt412.1 true))) else (laws_FnSwitched.j0 k t398 t399 t400 t401 bt405.1 bt407.1 bt407.2.1 bt410.1 bt412.1 true)) else (laws_FnSwitched.j0 k t398 t399 t400 t401 bt405.1 bt407.1 bt407.2.1 bt410.1 bt412.1 true)) else (laws_FnSwitched.j0 k t398 t399 t400 t401 bt405.1 bt407.1 bt407.2.1 bt410.1 bt412.1 true)) else (laws_FnSwitched.j0 k t398 t399 t400 t401 bt405.1 bt407.1 bt407.2.1 bt410.1 bt412.1 true)))))))))) = some r := H
    have A6 := Aside0.mk A60
    clear A60
    replace H := Option.bind_eq_some_iff.mp H
    obtain ⟨t400, A70, H⟩ := H
    replace H : ((spec_B10Levels.f k l1 t398).bind fun t401 => ((laws_b10At.f l1 1 4).bind fun t402 => ((laws_b10At.f l1 2 2).bind fun t403 => ((impl_SafeSwitch.f t402 t403 t399 t400 t401).bind fun bt405 => ((impl_EnablesOf.f t402 t403 t399 t400 t401).bind fun bt407 => ((impl_PlainSwitch.f t399 t400 t401).bind fun bt410 => ((impl_SwitchTimes.f t402 t403 t399 t400 t401).bind fun bt412 => (if bt405.2 = true then (if bt407.2.2 = true then (if bt410.2 = true then (if bt412.2 = true then ((impl_ValidSwitch.f t402 t403).bind fun t416 => (if t416 = true then (if (bt405.1.size : Int) = t398 then (if (bt407.1.size : Int) = t398 then (if (bt407.2.1.size : Int) = t398 then (if (bt410.1.size : Int) = t398 then ((impl_IsClean.f bt405.1 t399 t400).bind fun t417 => (laws_FnSwitched.j0 k t398 t399 t400 t401 bt405.1 bt407.1 bt407.2.1 bt410.1 bt412.1 (!t417))) else (laws_FnSwitched.j0 k t398 t399 t400 t401 bt405.1 bt407.1 bt407.2.1 bt410.1 bt412.1 true)) else (laws_FnSwitched.j0 k t398 t399 t400 t401 bt405.1 bt407.1 bt407.2.1 bt410.1 bt412.1 true)) else (laws_FnSwitched.j0 k t398 t399 t400 t401 bt405.1 bt407.1 bt407.2.1 bt410.1 bt412.1 true)) else (laws_FnSwitched.j0 k t398 t399 t400 t401 bt405.1 bt407.1 bt407.2.1 bt410.1 bt412.1 true)) else (laws_FnSwitched.j0 k t398 t399 t400 t401 bt405.1 bt407.1 bt407.2.1 bt410.1 bt412.1 true))) else (laws_FnSwitched.j0 k t398 t399 t400 t401 bt405.1 bt407.1 bt407.2.1 bt410.1 bt412.1 true)) else (laws_FnSwitched.j0 k t398 t399 t400 t401 bt405.1 bt407.1 bt407.2.1 bt410.1 bt412.1 true)) else (laws_FnSwitched.j0 k t398 t399 t400 t401 bt405.1 bt407.1 bt407.2.1 bt410.1 bt412.1 true)) else (laws_FnSwitched.j0 k t398 t399 t400 t401 bt405.1 bt407.1 bt407.2.1 bt410.1 bt412.1 true))))))))) = some r := H
    have A7 := Aside0.mk A70
    clear A70
    replace H := Option.bind_eq_some_iff.mp H
    obtain ⟨t401, A80, H⟩ := H
    replace H : ((laws_b10At.f l1 1 4).bind fun t402 => ((laws_b10At.f l1 2 2).bind fun t403 => ((impl_SafeSwitch.f t402 t403 t399 t400 t401).bind fun bt405 => ((impl_EnablesOf.f t402 t403 t399 t400 t401).bind fun bt407 => ((impl_PlainSwitch.f t399 t400 t401).bind fun bt410 => ((impl_SwitchTimes.f t402 t403 t399 t400 t401).bind fun bt412 => (if bt405.2 = true then (if bt407.2.2 = true then (if bt410.2 = true then (if bt412.2 = true then ((impl_ValidSwitch.f t402 t403).bind fun t416 => (if t416 = true then (if (bt405.1.size : Int) = t398 then (if (bt407.1.size : Int) = t398 then (if (bt407.2.1.size : Int) = t398 then (if (bt410.1.size : Int) = t398 then ((impl_IsClean.f bt405.1 t399 t400).bind fun t417 => (laws_FnSwitched.j0 k t398 t399 t400 t401 bt405.1 bt407.1 bt407.2.1 bt410.1 bt412.1 (!t417))) else (laws_FnSwitched.j0 k t398 t399 t400 t401 bt405.1 bt407.1 bt407.2.1 bt410.1 bt412.1 true)) else (laws_FnSwitched.j0 k t398 t399 t400 t401 bt405.1 bt407.1 bt407.2.1 bt410.1 bt412.1 true)) else (laws_FnSwitched.j0 k t398 t399 t400 t401 bt405.1 bt407.1 bt407.2.1 bt410.1 bt412.1 true)) else (laws_FnSwitched.j0 k t398 t399 t400 t401 bt405.1 bt407.1 bt407.2.1 bt410.1 bt412.1 true)) else (laws_FnSwitched.j0 k t398 t399 t400 t401 bt405.1 bt407.1 bt407.2.1 bt410.1 bt412.1 true))) else (laws_FnSwitched.j0 k t398 t399 t400 t401 bt405.1 bt407.1 bt407.2.1 bt410.1 bt412.1 true)) else (laws_FnSwitched.j0 k t398 t399 t400 t401 bt405.1 bt407.1 bt407.2.1 bt410.1 bt412.1 true)) else (laws_FnSwitched.j0 k t398 t399 t400 t401 bt405.1 bt407.1 bt407.2.1 bt410.1 bt412.1 true)) else (laws_FnSwitched.j0 k t398 t399 t400 t401 bt405.1 bt407.1 bt407.2.1 bt410.1 bt412.1 true)))))))) = some r := H
    have A8 := Aside0.mk A80
    clear A80
    replace H := Option.bind_eq_some_iff.mp H
    obtain ⟨t402, A90, H⟩ := H
    replace H : ((laws_b10At.f l1 2 2).bind fun t403 => ((impl_SafeSwitch.f t402 t403 t399 t400 t401).bind fun bt405 => ((impl_EnablesOf.f t402 t403 t399 t400 t401).bind fun bt407 => ((impl_PlainSwitch.f t399 t400 t401).bind fun bt410 => ((impl_SwitchTimes.f t402 t403 t399 t400 t401).bind fun bt412 => (if bt405.2 = true then (if bt407.2.2 = true then (if bt410.2 = true then (if bt412.2 = true then ((impl_ValidSwitch.f t402 t403).bind fun t416 => (if t416 = true then (if (bt405.1.size : Int) = t398 then (if (bt407.1.size : Int) = t398 then (if (bt407.2.1.size : Int) = t398 then (if (bt410.1.size : Int) = t398 then ((impl_IsClean.f bt405.1 t399 t400).bind fun t417 => (laws_FnSwitched.j0 k t398 t399 t400 t401 bt405.1 bt407.1 bt407.2.1 bt410.1 bt412.1 (!t417))) else (laws_FnSwitched.j0 k t398 t399 t400 t401 bt405.1 bt407.1 bt407.2.1 bt410.1 bt412.1 true)) else (laws_FnSwitched.j0 k t398 t399 t400 t401 bt405.1 bt407.1 bt407.2.1 bt410.1 bt412.1 true)) else (laws_FnSwitched.j0 k t398 t399 t400 t401 bt405.1 bt407.1 bt407.2.1 bt410.1 bt412.1 true)) else (laws_FnSwitched.j0 k t398 t399 t400 t401 bt405.1 bt407.1 bt407.2.1 bt410.1 bt412.1 true)) else (laws_FnSwitched.j0 k t398 t399 t400 t401 bt405.1 bt407.1 bt407.2.1 bt410.1 bt412.1 true))) else (laws_FnSwitched.j0 k t398 t399 t400 t401 bt405.1 bt407.1 bt407.2.1 bt410.1 bt412.1 true)) else (laws_FnSwitched.j0 k t398 t399 t400 t401 bt405.1 bt407.1 bt407.2.1 bt410.1 bt412.1 true)) else (laws_FnSwitched.j0 k t398 t399 t400 t401 bt405.1 bt407.1 bt407.2.1 bt410.1 bt412.1 true)) else (laws_FnSwitched.j0 k t398 t399 t400 t401 bt405.1 bt407.1 bt407.2.1 bt410.1 bt412.1 true))))))) = some r := H
    have A9 := Aside0.mk A90
    clear A90
    replace H := Option.bind_eq_some_iff.mp H
    obtain ⟨t403, A100, H⟩ := H
    replace H : ((impl_SafeSwitch.f t402 t403 t399 t400 t401).bind fun bt405 => ((impl_EnablesOf.f t402 t403 t399 t400 t401).bind fun bt407 => ((impl_PlainSwitch.f t399 t400 t401).bind fun bt410 => ((impl_SwitchTimes.f t402 t403 t399 t400 t401).bind fun bt412 => (if bt405.2 = true then (if bt407.2.2 = true then (if bt410.2 = true then (if bt412.2 = true then ((impl_ValidSwitch.f t402 t403).bind fun t416 => (if t416 = true then (if (bt405.1.size : Int) = t398 then (if (bt407.1.size : Int) = t398 then (if (bt407.2.1.size : Int) = t398 then (if (bt410.1.size : Int) = t398 then ((impl_IsClean.f bt405.1 t399 t400).bind fun t417 => (laws_FnSwitched.j0 k t398 t399 t400 t401 bt405.1 bt407.1 bt407.2.1 bt410.1 bt412.1 (!t417))) else (laws_FnSwitched.j0 k t398 t399 t400 t401 bt405.1 bt407.1 bt407.2.1 bt410.1 bt412.1 true)) else (laws_FnSwitched.j0 k t398 t399 t400 t401 bt405.1 bt407.1 bt407.2.1 bt410.1 bt412.1 true)) else (laws_FnSwitched.j0 k t398 t399 t400 t401 bt405.1 bt407.1 bt407.2.1 bt410.1 bt412.1 true)) else (laws_FnSwitched.j0 k t398 t399 t400 t401 bt405.1 bt407.1 bt407.2.1 bt410.1 bt412.1 true)) else (laws_FnSwitched.j0 k t398 t399 t400 t401 bt405.1 bt407.1 bt407.2.1 bt410.1 bt412.1 true))) else (laws_FnSwitched.j0 k t398 t399 t400 t401 bt405.1 bt407.1 bt407.2.1 bt410.1 bt412.1 true)) else (laws_FnSwitched.j0 k t398 t399 t400 t401 bt405.1 bt407.1 bt407.2.1 bt410.1 bt412.1 true)) else (laws_FnSwitched.j0 k t398 t399 t400 t401 bt405.1 bt407.1 bt407.2.1 bt410.1 bt412.1 true)) else (laws_FnSwitched.j0 k t398 t399 t400 t401 bt405.1 bt407.1 bt407.2.1 bt410.1 bt412.1 true)))))) = some r := H
    have A10 := Aside0.mk A100
    clear A100
    replace H := Option.bind_eq_some_iff.mp H
    obtain ⟨⟨t405, t406⟩, A110, H⟩ := H
    replace H : ((impl_EnablesOf.f t402 t403 t399 t400 t401).bind fun bt407 => ((impl_PlainSwitch.f t399 t400 t401).bind fun bt410 => ((impl_SwitchTimes.f t402 t403 t399 t400 t401).bind fun bt412 => (if t406 = true then (if bt407.2.2 = true then (if bt410.2 = true then (if bt412.2 = true then ((impl_ValidSwitch.f t402 t403).bind fun t416 => (if t416 = true then (if (t405.size : Int) = t398 then (if (bt407.1.size : Int) = t398 then (if (bt407.2.1.size : Int) = t398 then (if (bt410.1.size : Int) = t398 then ((impl_IsClean.f t405 t399 t400).bind fun t417 => (laws_FnSwitched.j0 k t398 t399 t400 t401 t405 bt407.1 bt407.2.1 bt410.1 bt412.1 (!t417))) else (laws_FnSwitched.j0 k t398 t399 t400 t401 t405 bt407.1 bt407.2.1 bt410.1 bt412.1 true)) else (laws_FnSwitched.j0 k t398 t399 t400 t401 t405 bt407.1 bt407.2.1 bt410.1 bt412.1 true)) else (laws_FnSwitched.j0 k t398 t399 t400 t401 t405 bt407.1 bt407.2.1 bt410.1 bt412.1 true)) else (laws_FnSwitched.j0 k t398 t399 t400 t401 t405 bt407.1 bt407.2.1 bt410.1 bt412.1 true)) else (laws_FnSwitched.j0 k t398 t399 t400 t401 t405 bt407.1 bt407.2.1 bt410.1 bt412.1 true))) else (laws_FnSwitched.j0 k t398 t399 t400 t401 t405 bt407.1 bt407.2.1 bt410.1 bt412.1 true)) else (laws_FnSwitched.j0 k t398 t399 t400 t401 t405 bt407.1 bt407.2.1 bt410.1 bt412.1 true)) else (laws_FnSwitched.j0 k t398 t399 t400 t401 t405 bt407.1 bt407.2.1 bt410.1 bt412.1 true)) else (laws_FnSwitched.j0 k t398 t399 t400 t401 t405 bt407.1 bt407.2.1 bt410.1 bt412.1 true))))) = some r := H
    have A11 := Aside0.mk A110
    clear A110
    replace H := Option.bind_eq_some_iff.mp H
    obtain ⟨⟨t407, t408, t409⟩, A120, H⟩ := H
    replace H : ((impl_PlainSwitch.f t399 t400 t401).bind fun bt410 => ((impl_SwitchTimes.f t402 t403 t399 t400 t401).bind fun bt412 => (if t406 = true then (if t409 = true then (if bt410.2 = true then (if bt412.2 = true then ((impl_ValidSwitch.f t402 t403).bind fun t416 => (if t416 = true then (if (t405.size : Int) = t398 then (if (t407.size : Int) = t398 then (if (t408.size : Int) = t398 then (if (bt410.1.size : Int) = t398 then ((impl_IsClean.f t405 t399 t400).bind fun t417 => (laws_FnSwitched.j0 k t398 t399 t400 t401 t405 t407 t408 bt410.1 bt412.1 (!t417))) else (laws_FnSwitched.j0 k t398 t399 t400 t401 t405 t407 t408 bt410.1 bt412.1 true)) else (laws_FnSwitched.j0 k t398 t399 t400 t401 t405 t407 t408 bt410.1 bt412.1 true)) else (laws_FnSwitched.j0 k t398 t399 t400 t401 t405 t407 t408 bt410.1 bt412.1 true)) else (laws_FnSwitched.j0 k t398 t399 t400 t401 t405 t407 t408 bt410.1 bt412.1 true)) else (laws_FnSwitched.j0 k t398 t399 t400 t401 t405 t407 t408 bt410.1 bt412.1 true))) else (laws_FnSwitched.j0 k t398 t399 t400 t401 t405 t407 t408 bt410.1 bt412.1 true)) else (laws_FnSwitched.j0 k t398 t399 t400 t401 t405 t407 t408 bt410.1 bt412.1 true)) else (laws_FnSwitched.j0 k t398 t399 t400 t401 t405 t407 t408 bt410.1 bt412.1 true)) else (laws_FnSwitched.j0 k t398 t399 t400 t401 t405 t407 t408 bt410.1 bt412.1 true)))) = some r := H
    have A12 := Aside0.mk A120
    clear A120
    replace H := Option.bind_eq_some_iff.mp H
    obtain ⟨⟨t410, t411⟩, A130, H⟩ := H
    replace H : ((impl_SwitchTimes.f t402 t403 t399 t400 t401).bind fun bt412 => (if t406 = true then (if t409 = true then (if t411 = true then (if bt412.2 = true then ((impl_ValidSwitch.f t402 t403).bind fun t416 => (if t416 = true then (if (t405.size : Int) = t398 then (if (t407.size : Int) = t398 then (if (t408.size : Int) = t398 then (if (t410.size : Int) = t398 then ((impl_IsClean.f t405 t399 t400).bind fun t417 => (laws_FnSwitched.j0 k t398 t399 t400 t401 t405 t407 t408 t410 bt412.1 (!t417))) else (laws_FnSwitched.j0 k t398 t399 t400 t401 t405 t407 t408 t410 bt412.1 true)) else (laws_FnSwitched.j0 k t398 t399 t400 t401 t405 t407 t408 t410 bt412.1 true)) else (laws_FnSwitched.j0 k t398 t399 t400 t401 t405 t407 t408 t410 bt412.1 true)) else (laws_FnSwitched.j0 k t398 t399 t400 t401 t405 t407 t408 t410 bt412.1 true)) else (laws_FnSwitched.j0 k t398 t399 t400 t401 t405 t407 t408 t410 bt412.1 true))) else (laws_FnSwitched.j0 k t398 t399 t400 t401 t405 t407 t408 t410 bt412.1 true)) else (laws_FnSwitched.j0 k t398 t399 t400 t401 t405 t407 t408 t410 bt412.1 true)) else (laws_FnSwitched.j0 k t398 t399 t400 t401 t405 t407 t408 t410 bt412.1 true)) else (laws_FnSwitched.j0 k t398 t399 t400 t401 t405 t407 t408 t410 bt412.1 true))) = some r := H
    have A13 := Aside0.mk A130
    clear A130
    replace H := Option.bind_eq_some_iff.mp H
    obtain ⟨⟨t412, t415⟩, A140, H⟩ := H
    replace H : (if t406 = true then (if t409 = true then (if t411 = true then (if t415 = true then ((impl_ValidSwitch.f t402 t403).bind fun t416 => (if t416 = true then (if (t405.size : Int) = t398 then (if (t407.size : Int) = t398 then (if (t408.size : Int) = t398 then (if (t410.size : Int) = t398 then ((impl_IsClean.f t405 t399 t400).bind fun t417 => (laws_FnSwitched.j0 k t398 t399 t400 t401 t405 t407 t408 t410 t412 (!t417))) else (laws_FnSwitched.j0 k t398 t399 t400 t401 t405 t407 t408 t410 t412 true)) else (laws_FnSwitched.j0 k t398 t399 t400 t401 t405 t407 t408 t410 t412 true)) else (laws_FnSwitched.j0 k t398 t399 t400 t401 t405 t407 t408 t410 t412 true)) else (laws_FnSwitched.j0 k t398 t399 t400 t401 t405 t407 t408 t410 t412 true)) else (laws_FnSwitched.j0 k t398 t399 t400 t401 t405 t407 t408 t410 t412 true))) else (laws_FnSwitched.j0 k t398 t399 t400 t401 t405 t407 t408 t410 t412 true)) else (laws_FnSwitched.j0 k t398 t399 t400 t401 t405 t407 t408 t410 t412 true)) else (laws_FnSwitched.j0 k t398 t399 t400 t401 t405 t407 t408 t410 t412 true)) else (laws_FnSwitched.j0 k t398 t399 t400 t401 t405 t407 t408 t410 t412 true)) = some r := H
    have A14 := Aside0.mk A140
    clear A140
    have HC15 := Aside0.mk H
    clear H
    go_enter Tryd.func8, Tryd.ntmps8
    go_upto_region 12 with (first | (go_at_call 25; (with_reducible refine (laws_b10Long.calls _ _ l0 _ _ l1 false _ ?side1 ?side2 ?side3 ?side4 A3.out).mono ?_); (case side1 => repeat (first | exact HR0.out | (with_reducible refine Kd.C_alloc ?_ _) | (with_reducible refine Kd.C_drewN ?_ _) | (with_reducible refine Kd.C_drew ?_))); (case side2 => first | exact trivial | (exact HC0.out)); (case side3 => repeat (first | exact HR1.out | (with_reducible refine Kd.C_alloc ?_ _) | (with_reducible refine Kd.C_drewN ?_ _) | (with_reducible refine Kd.C_drew ?_))); (case side4 => first | exact trivial | (exact HC1.out)); rintro e w' ⟨rfl, ⟨nd, rfl⟩⟩; (try first | exact ⟨rfl, _, World.drewN_drewN _ _ _⟩ | exact ⟨rfl, _, Eq.trans (World.drewN_drewN _ _ _) (congrArg (World.drewN _) (Nat.add_assoc _ _ _))⟩)) | (go_at_call 26; (with_reducible refine (laws_b10At.calls _ _ l0 0 60 t398 _ ?side1 ?side2 A5.out).mono ?_); (case side1 => repeat (first | exact HR0.out | (with_reducible refine Kd.C_alloc ?_ _) | (with_reducible refine Kd.C_drewN ?_ _) | (with_reducible refine Kd.C_drew ?_))); (case side2 => first | exact trivial | (exact HC0.out)); rintro e w' ⟨rfl, ⟨nd, rfl⟩⟩; (try first | exact ⟨rfl, _, World.drewN_drewN _ _ _⟩ | exact ⟨rfl, _, Eq.trans (World.drewN_drewN _ _ _) (congrArg (World.drewN _) (Nat.add_assoc _ _ _))⟩)) | (go_at_call 27; (with_reducible refine (spec_B10Clock.calls k _ _ l0 t398 t399 _ ?side1 ?side2 A6.out).mono ?_); (case side1 => repeat (first | exact HR0.out | (with_reducible refine Kd.C_alloc ?_ _) | (with_reducible refine Kd.C_drewN ?_ _) | (with_reducible refine Kd.C_drew ?_))); (case side2 => first | exact trivial | (exact HC0.out)); rintro e w16 ⟨rfl, hb⟩; have n0_ := Aside0.mk (below_step (by repeat (first | (with_reducible first | exact HB.out | apply below_alloc | apply pw_below_drewN | apply below_drew1) | exact HB.out)) hb); clear HB; have HB := n0_; clear n0_; (try clear hb); (try clear hb2); (try clear hk); (try clear hi)) | (go_at_call 27; (with_reducible refine (spec_B10Clock.calls k _ _ l1 t398 t400 _ ?side1 ?side2 A7.out).mono ?_); (case side1 => repeat (first | exact (Kd.C_below HR1.out HB.out) | (with_reducible refine Kd.C_alloc ?_ _) | (with_reducible refine Kd.C_drewN ?_ _) | (with_reducible refine Kd.C_drew ?_))); (case side2 => first | exact trivial | (exact HC1.out)); rintro e w17 ⟨rfl, hb⟩; have n0_ := Aside0.mk (below_step (by repeat (first | (with_reducible first | exact HB.out | apply below_alloc | apply pw_below_drewN | apply below_drew1) | exact HB.out)) hb); clear HB; have HB := n0_; clear n0_; (try clear hb); (try clear hb2); (try clear hk); (try clear hi)) | (go_at_call 28; (with_reducible refine (spec_B10Levels.calls k _ _ l1 t398 t401 _ ?side1 ?side2 A8.out).mono ?_); (case side1 => repeat (first | exact (Kd.C_below HR1.out HB.out) | (with_reducible refine Kd.C_alloc ?_ _) | (with_reducible refine Kd.C_drewN ?_ _) | (with_reducible refine Kd.C_drew ?_))); (case side2 => first | exact trivial | (exact HC1.out)); rintro e w18 ⟨rfl, hb⟩; have n0_ := Aside0.mk (below_step (by repeat (first | (with_reducible first | exact HB.out | apply below_alloc | apply pw_below_drewN | apply below_drew1) | exact HB.out)) hb); clear HB; have HB := n0_; clear n0_; (try clear hb); (try clear hb2); (try clear hk); (try clear hi)) | (go_at_call 26; (with_reducible refine (laws_b10At.calls _ _ l1 1 4 t402 _ ?side1 ?side2 A9.out).mono ?_); (case side1 => repeat (first | exact (Kd.C_below HR1.out HB.out) | (with_reducible refine Kd.C_alloc ?_ _) | (with_reducible refine Kd.C_drewN ?_ _) | (with_reducible refine Kd.C_drew ?_))); (case side2 => first | exact trivial | (exact HC1.out)); rintro e w' ⟨rfl, ⟨nd, rfl⟩⟩; (try first | exact ⟨rfl, _, World.drewN_drewN _ _ _⟩ | exact ⟨rfl, _, Eq.trans (World.drewN_drewN _ _ _) (congrArg (World.drewN _) (Nat.add_assoc _ _ _))⟩)) | (go_at_call 26; (with_reducible refine (laws_b10At.calls _ _ l1 2 2 t403 _ ?side1 ?side2 A10.out).mono ?_); (case side1 => repeat (first | exact (Kd.C_below HR1.out (by repeat (first | (with_reducible first | exact HB.out | apply below_alloc | apply pw_below_drewN | apply below_drew1) | exact HB.out))) | (with_reducible refine Kd.C_alloc ?_ _) | (with_reducible refine Kd.C_drewN ?_ _) | (with_reducible refine Kd.C_drew ?_))); (case side2 => first | exact trivial | (exact HC1.out)); rintro e w' ⟨rfl, ⟨nd, rfl⟩⟩; (try first | exact ⟨rfl, _, World.drewN_drewN _ _ _⟩ | exact ⟨rfl, _, Eq.trans (World.drewN_drewN _ _ _) (congrArg (World.drewN _) (Nat.add_assoc _ _ _))⟩)) | ((with_reducible refine gate_dst (N := 9) rfl ?_); (try (refine gate_guard (by rfl) ?_; dsimp only)); refine box_event ?hg (N := 9) ?hd (cs := #[.int .i64 0, .int .i64 0]) (t := 30) ?hr ?_; (case hd => rfl); (case hg => rfl); (case hr => first | (go_simp; done) | (go_simp; rfl)); intro gb404 hg w19 hbox hb; have n0_ := Aside0.mk (below_step (by repeat (first | (with_reducible first | exact HB.out | apply below_alloc | apply pw_below_drewN | apply below_drew1) | exact HB.out)) hb); have n1_ := Aside0.mk (hbox); have n2_ := Aside0.mk ((by rw [hg]; exact (below_size (by repeat (first | (with_reducible first | exact HB.out | apply below_alloc | apply pw_below_drewN | apply below_drew1) | exact HB.out))) : w.heap.size ≤ gb404)); have n3_ := Aside0.mk ((by rw [hg]; exact (below_size (by repeat (first | (with_reducible first | exact HB.out | apply below_alloc | apply pw_below_drewN | apply below_drew1) | exact HB.out))) : w.heap.size ≤ gb404)); clear HB; have HB := n0_; have BK404 := n1_; have GW404 := n2_; have GE404 := n3_; clear n0_ n1_ n2_ n3_; clear hb hbox hg; have hcz20_0 : w19.cell? ⟨gb404, 0, none⟩ = some (.int .i64 0) := (blk_cell BK404.out 0).trans rfl; have hcz20_1 : w19.cell? ⟨gb404, 1, none⟩ = some (.int .i64 0) := (blk_cell BK404.out 1).trans rfl; have hfz20_0 := blk_frozen BK404.out 0; have hfz20_1 := blk_frozen BK404.out 1) | (go_at_call 19; (with_reducible refine (impl_SafeSwitch.calls t402 t403 t399 t400 t401 t405 t406 _ A11.out).mono ?_); rintro e w21 ⟨rfl, hb⟩; have n0_ := Aside0.mk (blk_below (g := gb404) (o := .cells #[.int .i64 t402, .int .i64 t403] 30 (0, 0)) (by (with_reducible repeat (first | refine blk_drewN ?_ _ | refine blk_drew ?_ | refine blk_alloc ?_ _)); refine blk_put (cs := #[.int .i64 t402, .int .i64 0]) ?_ 1 _ rfl; (with_reducible repeat (first | refine blk_drewN ?_ _ | refine blk_drew ?_ | refine blk_alloc ?_ _)); refine blk_put (cs := #[.int .i64 0, .int .i64 0]) ?_ 0 _ rfl; (with_reducible repeat (first | refine blk_drewN ?_ _ | refine blk_drew ?_ | refine blk_alloc ?_ _)); exact BK404.out) hb); have n1_ := Aside0.mk (below_step (by repeat (first | (with_reducible first | exact HB.out | apply below_alloc | apply pw_below_drewN | apply below_drew1 | refine below_set ?_ GE404.out) | exact HB.out)) hb); clear BK404; clear HB; have BK404 := n0_; have HB := n1_; clear n0_ n1_; (try clear hb); (try clear hb2); (try clear hk); (try clear hi); have hcz22_0 : w21.cell? ⟨gb404, 0, none⟩ = some (.int .i64 t402) := (blk_cell BK404.out 0).trans rfl; have hcz22_1 : w21.cell? ⟨gb404, 1, none⟩ = some (.int .i64 t403) := (blk_cell BK404.out 1).trans rfl; have hfz22_0 := blk_frozen BK404.out 0; have hfz22_1 := blk_frozen BK404.out 1) | (go_at_call 17; (with_reducible refine (impl_EnablesOf.calls t402 t403 t399 t400 t401 t407 t408 t409 _ A12.out).mono ?_); rintro e w23 ⟨rfl, hb⟩; have n0_ := Aside0.mk (blk_below (g := gb404) (o := .cells #[.int .i64 t402, .int .i64 t403] 30 (0, 0)) (by (with_reducible repeat (first | refine blk_drewN ?_ _ | refine blk_drew ?_ | refine blk_alloc ?_ _)); exact BK404.out) hb); have n1_ := Aside0.mk (below_step (by repeat (first | (with_reducible first | exact HB.out | apply below_alloc | apply pw_below_drewN | apply below_drew1 | refine below_set ?_ GE404.out) | exact HB.out)) hb); clear BK404; clear HB; have BK404 := n0_; have HB := n1_; clear n0_ n1_; (try clear hb); (try clear hb2); (try clear hk); (try clear hi)) | (go_at_call 29; (with_reducible refine (impl_PlainSwitch.calls t399 t400 t401 t410 t411 _ A13.out).mono ?_); rintro e w24 ⟨rfl, hb⟩; have n0_ := Aside0.mk (blk_below (g := gb404) (o := .cells #[.int .i64 t402, .int .i64 t403] 30 (0, 0)) (by (with_reducible repeat (first | refine blk_drewN ?_ _ | refine blk_drew ?_ | refine blk_alloc ?_ _)); exact BK404.out) hb); have n1_ := Aside0.mk (below_step (by repeat (first | (with_reducible first | exact HB.out | apply below_alloc | apply pw_below_drewN | apply below_drew1 | refine below_set ?_ GE404.out) | exact HB.out)) hb); clear BK404; clear HB; have BK404 := n0_; have HB := n1_; clear n0_ n1_; (try clear hb); (try clear hb2); (try clear hk); (try clear hi); have hcz25_0 : w24.cell? ⟨gb404, 0, none⟩ = some (.int .i64 t402) := (blk_cell BK404.out 0).trans rfl; have hcz25_1 : w24.cell? ⟨gb404, 1, none⟩ = some (.int .i64 t403) := (blk_cell BK404.out 1).trans rfl; have hfz25_0 := blk_frozen BK404.out 0; have hfz25_1 := blk_frozen BK404.out 1) | (go_at_call 21; (with_reducible refine (impl_SwitchTimes.calls t402 t403 t399 t400 t401 t412 t415 _ A14.out).mono ?_); rintro e w26 ⟨v413, rfl, ho0, hb⟩; have n0_ := Aside0.mk (Kd.R_lower ho0 (below_size (by repeat (first | (with_reducible first | exact HB.out | apply below_alloc | apply pw_below_drewN | apply below_drew1 | refine below_set ?_ GE404.out) | exact HB.out)))); have n1_ := Aside0.mk (blk_below (g := gb404) (o := .cells #[.int .i64 t402, .int .i64 t403] 30 (0, 0)) (by (with_reducible repeat (first | refine blk_drewN ?_ _ | refine blk_drew ?_ | refine blk_alloc ?_ _)); exact BK404.out) hb); have n2_ := Aside0.mk (below_step (by repeat (first | (with_reducible first | exact HB.out | apply below_alloc | apply pw_below_drewN | apply below_drew1 | refine below_set ?_ GE404.out) | exact HB.out)) hb); clear BK404; clear HB; have HO414 := n0_; have BK404 := n1_; have HB := n2_; clear n0_ n1_ n2_; (try clear hb); (try clear hb2); (try clear hk); (try clear hi); (try clear ho0)))
    repeat (go_quiet (first | (go_at_call 25; (with_reducible refine (laws_b10Long.calls _ _ l0 _ _ l1 false _ ?side1 ?side2 ?side3 ?side4 A3.out).mono ?_); (case side1 => repeat (first | exact HR0.out | (with_reducible refine Kd.C_alloc ?_ _) | (with_reducible refine Kd.C_drewN ?_ _) | (with_reducible refine Kd.C_drew ?_))); (case side2 => first | exact trivial | (exact HC0.out)); (case side3 => repeat (first | exact HR1.out | (with_reducible refine Kd.C_alloc ?_ _) | (with_reducible refine Kd.C_drewN ?_ _) | (with_reducible refine Kd.C_drew ?_))); (case side4 => first | exact trivial | (exact HC1.out)); rintro e w' ⟨rfl, ⟨nd, rfl⟩⟩; (try first | exact ⟨rfl, _, World.drewN_drewN _ _ _⟩ | exact ⟨rfl, _, Eq.trans (World.drewN_drewN _ _ _) (congrArg (World.drewN _) (Nat.add_assoc _ _ _))⟩)) | (go_at_call 26; (with_reducible refine (laws_b10At.calls _ _ l0 0 60 t398 _ ?side1 ?side2 A5.out).mono ?_); (case side1 => repeat (first | exact HR0.out | (with_reducible refine Kd.C_alloc ?_ _) | (with_reducible refine Kd.C_drewN ?_ _) | (with_reducible refine Kd.C_drew ?_))); (case side2 => first | exact trivial | (exact HC0.out)); rintro e w' ⟨rfl, ⟨nd, rfl⟩⟩; (try first | exact ⟨rfl, _, World.drewN_drewN _ _ _⟩ | exact ⟨rfl, _, Eq.trans (World.drewN_drewN _ _ _) (congrArg (World.drewN _) (Nat.add_assoc _ _ _))⟩)) | (go_at_call 27; (with_reducible refine (spec_B10Clock.calls k _ _ l0 t398 t399 _ ?side1 ?side2 A6.out).mono ?_); (case side1 => repeat (first | exact HR0.out | (with_reducible refine Kd.C_alloc ?_ _) | (with_reducible refine Kd.C_drewN ?_ _) | (with_reducible refine Kd.C_drew ?_))); (case side2 => first | exact trivial | (exact HC0.out)); rintro e w16 ⟨rfl, hb⟩; have n0_ := Aside0.mk (below_step (by repeat (first | (with_reducible first | exact HB.out | apply below_alloc | apply pw_below_drewN | apply below_drew1) | exact HB.out)) hb); clear HB; have HB := n0_; clear n0_; (try clear hb); (try clear hb2); (try clear hk); (try clear hi)) | (go_at_call 27; (with_reducible refine (spec_B10Clock.calls k _ _ l1 t398 t400 _ ?side1 ?side2 A7.out).mono ?_); (case side1 => repeat (first | exact (Kd.C_below HR1.out HB.out) | (with_reducible refine Kd.C_alloc ?_ _) | (with_reducible refine Kd.C_drewN ?_ _) | (with_reducible refine Kd.C_drew ?_))); (case side2 => first | exact trivial | (exact HC1.out)); rintro e w17 ⟨rfl, hb⟩; have n0_ := Aside0.mk (below_step (by repeat (first | (with_reducible first | exact HB.out | apply below_alloc | apply pw_below_drewN | apply below_drew1) | exact HB.out)) hb); clear HB; have HB := n0_; clear n0_; (try clear hb); (try clear hb2); (try clear hk); (try clear hi)) | (go_at_call 28; (with_reducible refine (spec_B10Levels.calls k _ _ l1 t398 t401 _ ?side1 ?side2 A8.out).mono ?_); (case side1 => repeat (first | exact (Kd.C_below HR1.out HB.out) | (with_reducible refine Kd.C_alloc ?_ _) | (with_reducible refine Kd.C_drewN ?_ _) | (with_reducible refine Kd.C_drew ?_))); (case side2 => first | exact trivial | (exact HC1.out)); rintro e w18 ⟨rfl, hb⟩; have n0_ := Aside0.mk (below_step (by repeat (first | (with_reducible first | exact HB.out | apply below_alloc | apply pw_below_drewN | apply below_drew1) | exact HB.out)) hb); clear HB; have HB := n0_; clear n0_; (try clear hb); (try clear hb2); (try clear hk); (try clear hi)) | (go_at_call 26; (with_reducible refine (laws_b10At.calls _ _ l1 1 4 t402 _ ?side1 ?side2 A9.out).mono ?_); (case side1 => repeat (first | exact (Kd.C_below HR1.out HB.out) | (with_reducible refine Kd.C_alloc ?_ _) | (with_reducible refine Kd.C_drewN ?_ _) | (with_reducible refine Kd.C_drew ?_))); (case side2 => first | exact trivial | (exact HC1.out)); rintro e w' ⟨rfl, ⟨nd, rfl⟩⟩; (try first | exact ⟨rfl, _, World.drewN_drewN _ _ _⟩ | exact ⟨rfl, _, Eq.trans (World.drewN_drewN _ _ _) (congrArg (World.drewN _) (Nat.add_assoc _ _ _))⟩)) | (go_at_call 26; (with_reducible refine (laws_b10At.calls _ _ l1 2 2 t403 _ ?side1 ?side2 A10.out).mono ?_); (case side1 => repeat (first | exact (Kd.C_below HR1.out (by repeat (first | (with_reducible first | exact HB.out | apply below_alloc | apply pw_below_drewN | apply below_drew1) | exact HB.out))) | (with_reducible refine Kd.C_alloc ?_ _) | (with_reducible refine Kd.C_drewN ?_ _) | (with_reducible refine Kd.C_drew ?_))); (case side2 => first | exact trivial | (exact HC1.out)); rintro e w' ⟨rfl, ⟨nd, rfl⟩⟩; (try first | exact ⟨rfl, _, World.drewN_drewN _ _ _⟩ | exact ⟨rfl, _, Eq.trans (World.drewN_drewN _ _ _) (congrArg (World.drewN _) (Nat.add_assoc _ _ _))⟩)) | ((with_reducible refine gate_dst (N := 9) rfl ?_); (try (refine gate_guard (by rfl) ?_; dsimp only)); refine box_event ?hg (N := 9) ?hd (cs := #[.int .i64 0, .int .i64 0]) (t := 30) ?hr ?_; (case hd => rfl); (case hg => rfl); (case hr => first | (go_simp; done) | (go_simp; rfl)); intro gb404 hg w19 hbox hb; have n0_ := Aside0.mk (below_step (by repeat (first | (with_reducible first | exact HB.out | apply below_alloc | apply pw_below_drewN | apply below_drew1) | exact HB.out)) hb); have n1_ := Aside0.mk (hbox); have n2_ := Aside0.mk ((by rw [hg]; exact (below_size (by repeat (first | (with_reducible first | exact HB.out | apply below_alloc | apply pw_below_drewN | apply below_drew1) | exact HB.out))) : w.heap.size ≤ gb404)); have n3_ := Aside0.mk ((by rw [hg]; exact (below_size (by repeat (first | (with_reducible first | exact HB.out | apply below_alloc | apply pw_below_drewN | apply below_drew1) | exact HB.out))) : w.heap.size ≤ gb404)); clear HB; have HB := n0_; have BK404 := n1_; have GW404 := n2_; have GE404 := n3_; clear n0_ n1_ n2_ n3_; clear hb hbox hg; have hcz20_0 : w19.cell? ⟨gb404, 0, none⟩ = some (.int .i64 0) := (blk_cell BK404.out 0).trans rfl; have hcz20_1 : w19.cell? ⟨gb404, 1, none⟩ = some (.int .i64 0) := (blk_cell BK404.out 1).trans rfl; have hfz20_0 := blk_frozen BK404.out 0; have hfz20_1 := blk_frozen BK404.out 1) | (go_at_call 19; (with_reducible refine (impl_SafeSwitch.calls t402 t403 t399 t400 t401 t405 t406 _ A11.out).mono ?_); rintro e w21 ⟨rfl, hb⟩; have n0_ := Aside0.mk (blk_below (g := gb404) (o := .cells #[.int .i64 t402, .int .i64 t403] 30 (0, 0)) (by (with_reducible repeat (first | refine blk_drewN ?_ _ | refine blk_drew ?_ | refine blk_alloc ?_ _)); refine blk_put (cs := #[.int .i64 t402, .int .i64 0]) ?_ 1 _ rfl; (with_reducible repeat (first | refine blk_drewN ?_ _ | refine blk_drew ?_ | refine blk_alloc ?_ _)); refine blk_put (cs := #[.int .i64 0, .int .i64 0]) ?_ 0 _ rfl; (with_reducible repeat (first | refine blk_drewN ?_ _ | refine blk_drew ?_ | refine blk_alloc ?_ _)); exact BK404.out) hb); have n1_ := Aside0.mk (below_step (by repeat (first | (with_reducible first | exact HB.out | apply below_alloc | apply pw_below_drewN | apply below_drew1 | refine below_set ?_ GE404.out) | exact HB.out)) hb); clear BK404; clear HB; have BK404 := n0_; have HB := n1_; clear n0_ n1_; (try clear hb); (try clear hb2); (try clear hk); (try clear hi); have hcz22_0 : w21.cell? ⟨gb404, 0, none⟩ = some (.int .i64 t402) := (blk_cell BK404.out 0).trans rfl; have hcz22_1 : w21.cell? ⟨gb404, 1, none⟩ = some (.int .i64 t403) := (blk_cell BK404.out 1).trans rfl; have hfz22_0 := blk_frozen BK404.out 0; have hfz22_1 := blk_frozen BK404.out 1) | (go_at_call 17; (with_reducible refine (impl_EnablesOf.calls t402 t403 t399 t400 t401 t407 t408 t409 _ A12.out).mono ?_); rintro e w23 ⟨rfl, hb⟩; have n0_ := Aside0.mk (blk_below (g := gb404) (o := .cells #[.int .i64 t402, .int .i64 t403] 30 (0, 0)) (by (with_reducible repeat (first | refine blk_drewN ?_ _ | refine blk_drew ?_ | refine blk_alloc ?_ _)); exact BK404.out) hb); have n1_ := Aside0.mk (below_step (by repeat (first | (with_reducible first | exact HB.out | apply below_alloc | apply pw_below_drewN | apply below_drew1 | refine below_set ?_ GE404.out) | exact HB.out)) hb); clear BK404; clear HB; have BK404 := n0_; have HB := n1_; clear n0_ n1_; (try clear hb); (try clear hb2); (try clear hk); (try clear hi)) | (go_at_call 29; (with_reducible refine (impl_PlainSwitch.calls t399 t400 t401 t410 t411 _ A13.out).mono ?_); rintro e w24 ⟨rfl, hb⟩; have n0_ := Aside0.mk (blk_below (g := gb404) (o := .cells #[.int .i64 t402, .int .i64 t403] 30 (0, 0)) (by (with_reducible repeat (first | refine blk_drewN ?_ _ | refine blk_drew ?_ | refine blk_alloc ?_ _)); exact BK404.out) hb); have n1_ := Aside0.mk (below_step (by repeat (first | (with_reducible first | exact HB.out | apply below_alloc | apply pw_below_drewN | apply below_drew1 | refine below_set ?_ GE404.out) | exact HB.out)) hb); clear BK404; clear HB; have BK404 := n0_; have HB := n1_; clear n0_ n1_; (try clear hb); (try clear hb2); (try clear hk); (try clear hi); have hcz25_0 : w24.cell? ⟨gb404, 0, none⟩ = some (.int .i64 t402) := (blk_cell BK404.out 0).trans rfl; have hcz25_1 : w24.cell? ⟨gb404, 1, none⟩ = some (.int .i64 t403) := (blk_cell BK404.out 1).trans rfl; have hfz25_0 := blk_frozen BK404.out 0; have hfz25_1 := blk_frozen BK404.out 1) | (go_at_call 21; (with_reducible refine (impl_SwitchTimes.calls t402 t403 t399 t400 t401 t412 t415 _ A14.out).mono ?_); rintro e w26 ⟨v413, rfl, ho0, hb⟩; have n0_ := Aside0.mk (Kd.R_lower ho0 (below_size (by repeat (first | (with_reducible first | exact HB.out | apply below_alloc | apply pw_below_drewN | apply below_drew1 | refine below_set ?_ GE404.out) | exact HB.out)))); have n1_ := Aside0.mk (blk_below (g := gb404) (o := .cells #[.int .i64 t402, .int .i64 t403] 30 (0, 0)) (by (with_reducible repeat (first | refine blk_drewN ?_ _ | refine blk_drew ?_ | refine blk_alloc ?_ _)); exact BK404.out) hb); have n2_ := Aside0.mk (below_step (by repeat (first | (with_reducible first | exact HB.out | apply below_alloc | apply pw_below_drewN | apply below_drew1 | refine below_set ?_ GE404.out) | exact HB.out)) hb); clear BK404; clear HB; have HO414 := n0_; have BK404 := n1_; have HB := n2_; clear n0_ n1_ n2_; (try clear hb); (try clear hb2); (try clear hk); (try clear hi); (try clear ho0))); go_upto_region 12 with (first | (go_at_call 25; (with_reducible refine (laws_b10Long.calls _ _ l0 _ _ l1 false _ ?side1 ?side2 ?side3 ?side4 A3.out).mono ?_); (case side1 => repeat (first | exact HR0.out | (with_reducible refine Kd.C_alloc ?_ _) | (with_reducible refine Kd.C_drewN ?_ _) | (with_reducible refine Kd.C_drew ?_))); (case side2 => first | exact trivial | (exact HC0.out)); (case side3 => repeat (first | exact HR1.out | (with_reducible refine Kd.C_alloc ?_ _) | (with_reducible refine Kd.C_drewN ?_ _) | (with_reducible refine Kd.C_drew ?_))); (case side4 => first | exact trivial | (exact HC1.out)); rintro e w' ⟨rfl, ⟨nd, rfl⟩⟩; (try first | exact ⟨rfl, _, World.drewN_drewN _ _ _⟩ | exact ⟨rfl, _, Eq.trans (World.drewN_drewN _ _ _) (congrArg (World.drewN _) (Nat.add_assoc _ _ _))⟩)) | (go_at_call 26; (with_reducible refine (laws_b10At.calls _ _ l0 0 60 t398 _ ?side1 ?side2 A5.out).mono ?_); (case side1 => repeat (first | exact HR0.out | (with_reducible refine Kd.C_alloc ?_ _) | (with_reducible refine Kd.C_drewN ?_ _) | (with_reducible refine Kd.C_drew ?_))); (case side2 => first | exact trivial | (exact HC0.out)); rintro e w' ⟨rfl, ⟨nd, rfl⟩⟩; (try first | exact ⟨rfl, _, World.drewN_drewN _ _ _⟩ | exact ⟨rfl, _, Eq.trans (World.drewN_drewN _ _ _) (congrArg (World.drewN _) (Nat.add_assoc _ _ _))⟩)) | (go_at_call 27; (with_reducible refine (spec_B10Clock.calls k _ _ l0 t398 t399 _ ?side1 ?side2 A6.out).mono ?_); (case side1 => repeat (first | exact HR0.out | (with_reducible refine Kd.C_alloc ?_ _) | (with_reducible refine Kd.C_drewN ?_ _) | (with_reducible refine Kd.C_drew ?_))); (case side2 => first | exact trivial | (exact HC0.out)); rintro e w16 ⟨rfl, hb⟩; have n0_ := Aside0.mk (below_step (by repeat (first | (with_reducible first | exact HB.out | apply below_alloc | apply pw_below_drewN | apply below_drew1) | exact HB.out)) hb); clear HB; have HB := n0_; clear n0_; (try clear hb); (try clear hb2); (try clear hk); (try clear hi)) | (go_at_call 27; (with_reducible refine (spec_B10Clock.calls k _ _ l1 t398 t400 _ ?side1 ?side2 A7.out).mono ?_); (case side1 => repeat (first | exact (Kd.C_below HR1.out HB.out) | (with_reducible refine Kd.C_alloc ?_ _) | (with_reducible refine Kd.C_drewN ?_ _) | (with_reducible refine Kd.C_drew ?_))); (case side2 => first | exact trivial | (exact HC1.out)); rintro e w17 ⟨rfl, hb⟩; have n0_ := Aside0.mk (below_step (by repeat (first | (with_reducible first | exact HB.out | apply below_alloc | apply pw_below_drewN | apply below_drew1) | exact HB.out)) hb); clear HB; have HB := n0_; clear n0_; (try clear hb); (try clear hb2); (try clear hk); (try clear hi)) | (go_at_call 28; (with_reducible refine (spec_B10Levels.calls k _ _ l1 t398 t401 _ ?side1 ?side2 A8.out).mono ?_); (case side1 => repeat (first | exact (Kd.C_below HR1.out HB.out) | (with_reducible refine Kd.C_alloc ?_ _) | (with_reducible refine Kd.C_drewN ?_ _) | (with_reducible refine Kd.C_drew ?_))); (case side2 => first | exact trivial | (exact HC1.out)); rintro e w18 ⟨rfl, hb⟩; have n0_ := Aside0.mk (below_step (by repeat (first | (with_reducible first | exact HB.out | apply below_alloc | apply pw_below_drewN | apply below_drew1) | exact HB.out)) hb); clear HB; have HB := n0_; clear n0_; (try clear hb); (try clear hb2); (try clear hk); (try clear hi)) | (go_at_call 26; (with_reducible refine (laws_b10At.calls _ _ l1 1 4 t402 _ ?side1 ?side2 A9.out).mono ?_); (case side1 => repeat (first | exact (Kd.C_below HR1.out HB.out) | (with_reducible refine Kd.C_alloc ?_ _) | (with_reducible refine Kd.C_drewN ?_ _) | (with_reducible refine Kd.C_drew ?_))); (case side2 => first | exact trivial | (exact HC1.out)); rintro e w' ⟨rfl, ⟨nd, rfl⟩⟩; (try first | exact ⟨rfl, _, World.drewN_drewN _ _ _⟩ | exact ⟨rfl, _, Eq.trans (World.drewN_drewN _ _ _) (congrArg (World.drewN _) (Nat.add_assoc _ _ _))⟩)) | (go_at_call 26; (with_reducible refine (laws_b10At.calls _ _ l1 2 2 t403 _ ?side1 ?side2 A10.out).mono ?_); (case side1 => repeat (first | exact (Kd.C_below HR1.out (by repeat (first | (with_reducible first | exact HB.out | apply below_alloc | apply pw_below_drewN | apply below_drew1) | exact HB.out))) | (with_reducible refine Kd.C_alloc ?_ _) | (with_reducible refine Kd.C_drewN ?_ _) | (with_reducible refine Kd.C_drew ?_))); (case side2 => first | exact trivial | (exact HC1.out)); rintro e w' ⟨rfl, ⟨nd, rfl⟩⟩; (try first | exact ⟨rfl, _, World.drewN_drewN _ _ _⟩ | exact ⟨rfl, _, Eq.trans (World.drewN_drewN _ _ _) (congrArg (World.drewN _) (Nat.add_assoc _ _ _))⟩)) | ((with_reducible refine gate_dst (N := 9) rfl ?_); (try (refine gate_guard (by rfl) ?_; dsimp only)); refine box_event ?hg (N := 9) ?hd (cs := #[.int .i64 0, .int .i64 0]) (t := 30) ?hr ?_; (case hd => rfl); (case hg => rfl); (case hr => first | (go_simp; done) | (go_simp; rfl)); intro gb404 hg w19 hbox hb; have n0_ := Aside0.mk (below_step (by repeat (first | (with_reducible first | exact HB.out | apply below_alloc | apply pw_below_drewN | apply below_drew1) | exact HB.out)) hb); have n1_ := Aside0.mk (hbox); have n2_ := Aside0.mk ((by rw [hg]; exact (below_size (by repeat (first | (with_reducible first | exact HB.out | apply below_alloc | apply pw_below_drewN | apply below_drew1) | exact HB.out))) : w.heap.size ≤ gb404)); have n3_ := Aside0.mk ((by rw [hg]; exact (below_size (by repeat (first | (with_reducible first | exact HB.out | apply below_alloc | apply pw_below_drewN | apply below_drew1) | exact HB.out))) : w.heap.size ≤ gb404)); clear HB; have HB := n0_; have BK404 := n1_; have GW404 := n2_; have GE404 := n3_; clear n0_ n1_ n2_ n3_; clear hb hbox hg; have hcz20_0 : w19.cell? ⟨gb404, 0, none⟩ = some (.int .i64 0) := (blk_cell BK404.out 0).trans rfl; have hcz20_1 : w19.cell? ⟨gb404, 1, none⟩ = some (.int .i64 0) := (blk_cell BK404.out 1).trans rfl; have hfz20_0 := blk_frozen BK404.out 0; have hfz20_1 := blk_frozen BK404.out 1) | (go_at_call 19; (with_reducible refine (impl_SafeSwitch.calls t402 t403 t399 t400 t401 t405 t406 _ A11.out).mono ?_); rintro e w21 ⟨rfl, hb⟩; have n0_ := Aside0.mk (blk_below (g := gb404) (o := .cells #[.int .i64 t402, .int .i64 t403] 30 (0, 0)) (by (with_reducible repeat (first | refine blk_drewN ?_ _ | refine blk_drew ?_ | refine blk_alloc ?_ _)); refine blk_put (cs := #[.int .i64 t402, .int .i64 0]) ?_ 1 _ rfl; (with_reducible repeat (first | refine blk_drewN ?_ _ | refine blk_drew ?_ | refine blk_alloc ?_ _)); refine blk_put (cs := #[.int .i64 0, .int .i64 0]) ?_ 0 _ rfl; (with_reducible repeat (first | refine blk_drewN ?_ _ | refine blk_drew ?_ | refine blk_alloc ?_ _)); exact BK404.out) hb); have n1_ := Aside0.mk (below_step (by repeat (first | (with_reducible first | exact HB.out | apply below_alloc | apply pw_below_drewN | apply below_drew1 | refine below_set ?_ GE404.out) | exact HB.out)) hb); clear BK404; clear HB; have BK404 := n0_; have HB := n1_; clear n0_ n1_; (try clear hb); (try clear hb2); (try clear hk); (try clear hi); have hcz22_0 : w21.cell? ⟨gb404, 0, none⟩ = some (.int .i64 t402) := (blk_cell BK404.out 0).trans rfl; have hcz22_1 : w21.cell? ⟨gb404, 1, none⟩ = some (.int .i64 t403) := (blk_cell BK404.out 1).trans rfl; have hfz22_0 := blk_frozen BK404.out 0; have hfz22_1 := blk_frozen BK404.out 1) | (go_at_call 17; (with_reducible refine (impl_EnablesOf.calls t402 t403 t399 t400 t401 t407 t408 t409 _ A12.out).mono ?_); rintro e w23 ⟨rfl, hb⟩; have n0_ := Aside0.mk (blk_below (g := gb404) (o := .cells #[.int .i64 t402, .int .i64 t403] 30 (0, 0)) (by (with_reducible repeat (first | refine blk_drewN ?_ _ | refine blk_drew ?_ | refine blk_alloc ?_ _)); exact BK404.out) hb); have n1_ := Aside0.mk (below_step (by repeat (first | (with_reducible first | exact HB.out | apply below_alloc | apply pw_below_drewN | apply below_drew1 | refine below_set ?_ GE404.out) | exact HB.out)) hb); clear BK404; clear HB; have BK404 := n0_; have HB := n1_; clear n0_ n1_; (try clear hb); (try clear hb2); (try clear hk); (try clear hi)) | (go_at_call 29; (with_reducible refine (impl_PlainSwitch.calls t399 t400 t401 t410 t411 _ A13.out).mono ?_); rintro e w24 ⟨rfl, hb⟩; have n0_ := Aside0.mk (blk_below (g := gb404) (o := .cells #[.int .i64 t402, .int .i64 t403] 30 (0, 0)) (by (with_reducible repeat (first | refine blk_drewN ?_ _ | refine blk_drew ?_ | refine blk_alloc ?_ _)); exact BK404.out) hb); have n1_ := Aside0.mk (below_step (by repeat (first | (with_reducible first | exact HB.out | apply below_alloc | apply pw_below_drewN | apply below_drew1 | refine below_set ?_ GE404.out) | exact HB.out)) hb); clear BK404; clear HB; have BK404 := n0_; have HB := n1_; clear n0_ n1_; (try clear hb); (try clear hb2); (try clear hk); (try clear hi); have hcz25_0 : w24.cell? ⟨gb404, 0, none⟩ = some (.int .i64 t402) := (blk_cell BK404.out 0).trans rfl; have hcz25_1 : w24.cell? ⟨gb404, 1, none⟩ = some (.int .i64 t403) := (blk_cell BK404.out 1).trans rfl; have hfz25_0 := blk_frozen BK404.out 0; have hfz25_1 := blk_frozen BK404.out 1) | (go_at_call 21; (with_reducible refine (impl_SwitchTimes.calls t402 t403 t399 t400 t401 t412 t415 _ A14.out).mono ?_); rintro e w26 ⟨v413, rfl, ho0, hb⟩; have n0_ := Aside0.mk (Kd.R_lower ho0 (below_size (by repeat (first | (with_reducible first | exact HB.out | apply below_alloc | apply pw_below_drewN | apply below_drew1 | refine below_set ?_ GE404.out) | exact HB.out)))); have n1_ := Aside0.mk (blk_below (g := gb404) (o := .cells #[.int .i64 t402, .int .i64 t403] 30 (0, 0)) (by (with_reducible repeat (first | refine blk_drewN ?_ _ | refine blk_drew ?_ | refine blk_alloc ?_ _)); exact BK404.out) hb); have n2_ := Aside0.mk (below_step (by repeat (first | (with_reducible first | exact HB.out | apply below_alloc | apply pw_below_drewN | apply below_drew1 | refine below_set ?_ GE404.out) | exact HB.out)) hb); clear BK404; clear HB; have HO414 := n0_; have BK404 := n1_; have HB := n2_; clear n0_ n1_ n2_; (try clear hb); (try clear hb2); (try clear hk); (try clear hi); (try clear ho0))))
    (try simp only [Act.put, List.setIfInBounds_toArray, List.set_cons_zero, List.set_cons_succ])
    go_cut [122] (fun v122 wc => ∃ (kq : Nat) (x122_14 : Bool), v122 = .bool x122_14 ∧ Aside0 (laws_FnSwitched.j0 kq t398 t399 t400 t401 t405 t407 t408 t410 t412 x122_14 = some r) ∧ Aside0 (kq ≤ k) ∧ Aside0 (Kd.R (Kd.int .i64) 2 wc w.heap.size (fun _ => True) v413 t412) ∧ Aside0 (wc.heap[gb404]? = some (.cells #[.int .i64 t402, .int .i64 t403] 30 (0, 0))) ∧ Aside0 (Below w.heap.size w wc))
    case first =>as_aux_lemma =>
      have H := HC15.out
      clear HC15
      by_cases c27 : t406 = true
      · subst c27
        have H1 : (if t409 = true then (if t411 = true then (if t415 = true then ((impl_ValidSwitch.f t402 t403).bind fun t416 => (if t416 = true then (if (t405.size : Int) = t398 then (if (t407.size : Int) = t398 then (if (t408.size : Int) = t398 then (if (t410.size : Int) = t398 then ((impl_IsClean.f t405 t399 t400).bind fun t417 => (laws_FnSwitched.j0 k t398 t399 t400 t401 t405 t407 t408 t410 t412 (!t417))) else (laws_FnSwitched.j0 k t398 t399 t400 t401 t405 t407 t408 t410 t412 true)) else (laws_FnSwitched.j0 k t398 t399 t400 t401 t405 t407 t408 t410 t412 true)) else (laws_FnSwitched.j0 k t398 t399 t400 t401 t405 t407 t408 t410 t412 true)) else (laws_FnSwitched.j0 k t398 t399 t400 t401 t405 t407 t408 t410 t412 true)) else (laws_FnSwitched.j0 k t398 t399 t400 t401 t405 t407 t408 t410 t412 true))) else (laws_FnSwitched.j0 k t398 t399 t400 t401 t405 t407 t408 t410 t412 true)) else (laws_FnSwitched.j0 k t398 t399 t400 t401 t405 t407 t408 t410 t412 true)) else (laws_FnSwitched.j0 k t398 t399 t400 t401 t405 t407 t408 t410 t412 true)) = some r := by rw [if_pos rfl] at H; exact H
        clear H
        have H := H1
        clear H1
        by_cases c28 : t409 = true
        · subst c28
          have H1 : (if t411 = true then (if t415 = true then ((impl_ValidSwitch.f t402 t403).bind fun t416 => (if t416 = true then (if (t405.size : Int) = t398 then (if (t407.size : Int) = t398 then (if (t408.size : Int) = t398 then (if (t410.size : Int) = t398 then ((impl_IsClean.f t405 t399 t400).bind fun t417 => (laws_FnSwitched.j0 k t398 t399 t400 t401 t405 t407 t408 t410 t412 (!t417))) else (laws_FnSwitched.j0 k t398 t399 t400 t401 t405 t407 t408 t410 t412 true)) else (laws_FnSwitched.j0 k t398 t399 t400 t401 t405 t407 t408 t410 t412 true)) else (laws_FnSwitched.j0 k t398 t399 t400 t401 t405 t407 t408 t410 t412 true)) else (laws_FnSwitched.j0 k t398 t399 t400 t401 t405 t407 t408 t410 t412 true)) else (laws_FnSwitched.j0 k t398 t399 t400 t401 t405 t407 t408 t410 t412 true))) else (laws_FnSwitched.j0 k t398 t399 t400 t401 t405 t407 t408 t410 t412 true)) else (laws_FnSwitched.j0 k t398 t399 t400 t401 t405 t407 t408 t410 t412 true)) = some r := by rw [if_pos rfl] at H; exact H
          clear H
          have H := H1
          clear H1
          by_cases c29 : t411 = true
          · subst c29
            have H1 : (if t415 = true then ((impl_ValidSwitch.f t402 t403).bind fun t416 => (if t416 = true then (if (t405.size : Int) = t398 then (if (t407.size : Int) = t398 then (if (t408.size : Int) = t398 then (if (t410.size : Int) = t398 then ((impl_IsClean.f t405 t399 t400).bind fun t417 => (laws_FnSwitched.j0 k t398 t399 t400 t401 t405 t407 t408 t410 t412 (!t417))) else (laws_FnSwitched.j0 k t398 t399 t400 t401 t405 t407 t408 t410 t412 true)) else (laws_FnSwitched.j0 k t398 t399 t400 t401 t405 t407 t408 t410 t412 true)) else (laws_FnSwitched.j0 k t398 t399 t400 t401 t405 t407 t408 t410 t412 true)) else (laws_FnSwitched.j0 k t398 t399 t400 t401 t405 t407 t408 t410 t412 true)) else (laws_FnSwitched.j0 k t398 t399 t400 t401 t405 t407 t408 t410 t412 true))) else (laws_FnSwitched.j0 k t398 t399 t400 t401 t405 t407 t408 t410 t412 true)) = some r := by rw [if_pos rfl] at H; exact H
            clear H
            have H := H1
            clear H1
            by_cases c30 : t415 = true
            · subst c30
              have H1 : ((impl_ValidSwitch.f t402 t403).bind fun t416 => (if t416 = true then (if (t405.size : Int) = t398 then (if (t407.size : Int) = t398 then (if (t408.size : Int) = t398 then (if (t410.size : Int) = t398 then ((impl_IsClean.f t405 t399 t400).bind fun t417 => (laws_FnSwitched.j0 k t398 t399 t400 t401 t405 t407 t408 t410 t412 (!t417))) else (laws_FnSwitched.j0 k t398 t399 t400 t401 t405 t407 t408 t410 t412 true)) else (laws_FnSwitched.j0 k t398 t399 t400 t401 t405 t407 t408 t410 t412 true)) else (laws_FnSwitched.j0 k t398 t399 t400 t401 t405 t407 t408 t410 t412 true)) else (laws_FnSwitched.j0 k t398 t399 t400 t401 t405 t407 t408 t410 t412 true)) else (laws_FnSwitched.j0 k t398 t399 t400 t401 t405 t407 t408 t410 t412 true))) = some r := by rw [if_pos rfl] at H; exact H
              clear H
              have H := H1
              clear H1
              replace H := Option.bind_eq_some_iff.mp H
              obtain ⟨t416, A310, H⟩ := H
              replace H : (if t416 = true then (if (t405.size : Int) = t398 then (if (t407.size : Int) = t398 then (if (t408.size : Int) = t398 then (if (t410.size : Int) = t398 then ((impl_IsClean.f t405 t399 t400).bind fun t417 => (laws_FnSwitched.j0 k t398 t399 t400 t401 t405 t407 t408 t410 t412 (!t417))) else (laws_FnSwitched.j0 k t398 t399 t400 t401 t405 t407 t408 t410 t412 true)) else (laws_FnSwitched.j0 k t398 t399 t400 t401 t405 t407 t408 t410 t412 true)) else (laws_FnSwitched.j0 k t398 t399 t400 t401 t405 t407 t408 t410 t412 true)) else (laws_FnSwitched.j0 k t398 t399 t400 t401 t405 t407 t408 t410 t412 true)) else (laws_FnSwitched.j0 k t398 t399 t400 t401 t405 t407 t408 t410 t412 true)) = some r := H
              have A31 := Aside0.mk A310
              clear A310
              by_cases c32 : t416 = true
              · subst c32
                have H1 : (if (t405.size : Int) = t398 then (if (t407.size : Int) = t398 then (if (t408.size : Int) = t398 then (if (t410.size : Int) = t398 then ((impl_IsClean.f t405 t399 t400).bind fun t417 => (laws_FnSwitched.j0 k t398 t399 t400 t401 t405 t407 t408 t410 t412 (!t417))) else (laws_FnSwitched.j0 k t398 t399 t400 t401 t405 t407 t408 t410 t412 true)) else (laws_FnSwitched.j0 k t398 t399 t400 t401 t405 t407 t408 t410 t412 true)) else (laws_FnSwitched.j0 k t398 t399 t400 t401 t405 t407 t408 t410 t412 true)) else (laws_FnSwitched.j0 k t398 t399 t400 t401 t405 t407 t408 t410 t412 true)) = some r := by rw [if_pos rfl] at H; exact H
                clear H
                have H := H1
                clear H1
                by_cases c33 : (t405.size : Int) = t398
                · rw [if_pos c33] at H
                  have c33b0 : ((t405.size : Int) == t398) = true := beq_iff_eq.mpr c33
                  have c33b1 : ((t405.size : Int) != t398) = false := bne_eq_false_iff_eq.mpr c33
                  clear c33
                  (first | rw [c33b0] | (simp only [i64_w, i32_w]; rw [c33b0]) | skip)
                  by_cases c34 : (t407.size : Int) = t398
                  · rw [if_pos c34] at H
                    have c34b0 : ((t407.size : Int) == t398) = true := beq_iff_eq.mpr c34
                    have c34b1 : ((t407.size : Int) != t398) = false := bne_eq_false_iff_eq.mpr c34
                    clear c34
                    by_cases c35 : (t408.size : Int) = t398
                    · rw [if_pos c35] at H
                      have c35b0 : ((t408.size : Int) == t398) = true := beq_iff_eq.mpr c35
                      have c35b1 : ((t408.size : Int) != t398) = false := bne_eq_false_iff_eq.mpr c35
                      clear c35
                      by_cases c36 : (t410.size : Int) = t398
                      · rw [if_pos c36] at H
                        have c36b0 : ((t410.size : Int) == t398) = true := beq_iff_eq.mpr c36
                        have c36b1 : ((t410.size : Int) != t398) = false := bne_eq_false_iff_eq.mpr c36
                        clear c36
                        replace H := Option.bind_eq_some_iff.mp H
                        obtain ⟨t417, A370, H⟩ := H
                        replace H : (laws_FnSwitched.j0 k t398 t399 t400 t401 t405 t407 t408 t410 t412 (!t417)) = some r := H
                        have A37 := Aside0.mk A370
                        clear A370
                        have H' := Aside0.mk H
                        clear H
                        have hcz38_0 : w26.cell? ⟨gb404, 0, none⟩ = some (.int .i64 t402) := (blk_cell BK404.out 0).trans rfl
                        have hcz38_1 : w26.cell? ⟨gb404, 1, none⟩ = some (.int .i64 t403) := (blk_cell BK404.out 1).trans rfl
                        have hfz38_0 := blk_frozen BK404.out 0
                        have hfz38_1 := blk_frozen BK404.out 1
                        go_wp2_with (first | (go_at_call 30; (with_reducible refine (impl_ValidSwitch.calls t402 t403 true _ A31.out).mono ?_); rintro e w39 ⟨rfl, hb⟩; have n0_ := Aside0.mk (Kd.R_below (by (with_reducible repeat (first | apply Kd.R_alloc | apply Kd.R_drewN | apply Kd.R_drew)); exact HO414.out) hb); have n1_ := Aside0.mk (blk_below (g := gb404) (o := .cells #[.int .i64 t402, .int .i64 t403] 30 (0, 0)) (by (with_reducible repeat (first | refine blk_drewN ?_ _ | refine blk_drew ?_ | refine blk_alloc ?_ _)); exact BK404.out) hb); have n2_ := Aside0.mk (below_step (by repeat (first | (with_reducible first | exact HB.out | apply below_alloc | apply pw_below_drewN | apply below_drew1 | refine below_set ?_ GE404.out) | exact HB.out)) hb); clear HO414; clear BK404; clear HB; have HO414 := n0_; have BK404 := n1_; have HB := n2_; clear n0_ n1_ n2_; (try clear hb); (try clear hb2); (try clear hk); (try clear hi)) | (go_at_call 14; (with_reducible refine (impl_IsClean.calls t405 t399 t400 t417 _ A37.out).mono ?_); rintro e w40 ⟨rfl, hb⟩; have n0_ := Aside0.mk (Kd.R_below (by (with_reducible repeat (first | apply Kd.R_alloc | apply Kd.R_drewN | apply Kd.R_drew)); exact HO414.out) hb); have n1_ := Aside0.mk (blk_below (g := gb404) (o := .cells #[.int .i64 t402, .int .i64 t403] 30 (0, 0)) (by (with_reducible repeat (first | refine blk_drewN ?_ _ | refine blk_drew ?_ | refine blk_alloc ?_ _)); exact BK404.out) hb); have n2_ := Aside0.mk (below_step (by repeat (first | (with_reducible first | exact HB.out | apply below_alloc | apply pw_below_drewN | apply below_drew1 | refine below_set ?_ GE404.out) | exact HB.out)) hb); clear HO414; clear BK404; clear HB; have HO414 := n0_; have BK404 := n1_; have HB := n2_; clear n0_ n1_ n2_; (try clear hb); (try clear hb2); (try clear hk); (try clear hi)))
                        repeat (go_quiet (first | (go_at_call 30; (with_reducible refine (impl_ValidSwitch.calls t402 t403 true _ A31.out).mono ?_); rintro e w39 ⟨rfl, hb⟩; have n0_ := Aside0.mk (Kd.R_below (by (with_reducible repeat (first | apply Kd.R_alloc | apply Kd.R_drewN | apply Kd.R_drew)); exact HO414.out) hb); have n1_ := Aside0.mk (blk_below (g := gb404) (o := .cells #[.int .i64 t402, .int .i64 t403] 30 (0, 0)) (by (with_reducible repeat (first | refine blk_drewN ?_ _ | refine blk_drew ?_ | refine blk_alloc ?_ _)); exact BK404.out) hb); have n2_ := Aside0.mk (below_step (by repeat (first | (with_reducible first | exact HB.out | apply below_alloc | apply pw_below_drewN | apply below_drew1 | refine below_set ?_ GE404.out) | exact HB.out)) hb); clear HO414; clear BK404; clear HB; have HO414 := n0_; have BK404 := n1_; have HB := n2_; clear n0_ n1_ n2_; (try clear hb); (try clear hb2); (try clear hk); (try clear hi)) | (go_at_call 14; (with_reducible refine (impl_IsClean.calls t405 t399 t400 t417 _ A37.out).mono ?_); rintro e w40 ⟨rfl, hb⟩; have n0_ := Aside0.mk (Kd.R_below (by (with_reducible repeat (first | apply Kd.R_alloc | apply Kd.R_drewN | apply Kd.R_drew)); exact HO414.out) hb); have n1_ := Aside0.mk (blk_below (g := gb404) (o := .cells #[.int .i64 t402, .int .i64 t403] 30 (0, 0)) (by (with_reducible repeat (first | refine blk_drewN ?_ _ | refine blk_drew ?_ | refine blk_alloc ?_ _)); exact BK404.out) hb); have n2_ := Aside0.mk (below_step (by repeat (first | (with_reducible first | exact HB.out | apply below_alloc | apply pw_below_drewN | apply below_drew1 | refine below_set ?_ GE404.out) | exact HB.out)) hb); clear HO414; clear BK404; clear HB; have HO414 := n0_; have BK404 := n1_; have HB := n2_; clear n0_ n1_ n2_; (try clear hb); (try clear hb2); (try clear hk); (try clear hi))); try go_wp2_with (first | (go_at_call 30; (with_reducible refine (impl_ValidSwitch.calls t402 t403 true _ A31.out).mono ?_); rintro e w39 ⟨rfl, hb⟩; have n0_ := Aside0.mk (Kd.R_below (by (with_reducible repeat (first | apply Kd.R_alloc | apply Kd.R_drewN | apply Kd.R_drew)); exact HO414.out) hb); have n1_ := Aside0.mk (blk_below (g := gb404) (o := .cells #[.int .i64 t402, .int .i64 t403] 30 (0, 0)) (by (with_reducible repeat (first | refine blk_drewN ?_ _ | refine blk_drew ?_ | refine blk_alloc ?_ _)); exact BK404.out) hb); have n2_ := Aside0.mk (below_step (by repeat (first | (with_reducible first | exact HB.out | apply below_alloc | apply pw_below_drewN | apply below_drew1 | refine below_set ?_ GE404.out) | exact HB.out)) hb); clear HO414; clear BK404; clear HB; have HO414 := n0_; have BK404 := n1_; have HB := n2_; clear n0_ n1_ n2_; (try clear hb); (try clear hb2); (try clear hk); (try clear hi)) | (go_at_call 14; (with_reducible refine (impl_IsClean.calls t405 t399 t400 t417 _ A37.out).mono ?_); rintro e w40 ⟨rfl, hb⟩; have n0_ := Aside0.mk (Kd.R_below (by (with_reducible repeat (first | apply Kd.R_alloc | apply Kd.R_drewN | apply Kd.R_drew)); exact HO414.out) hb); have n1_ := Aside0.mk (blk_below (g := gb404) (o := .cells #[.int .i64 t402, .int .i64 t403] 30 (0, 0)) (by (with_reducible repeat (first | refine blk_drewN ?_ _ | refine blk_drew ?_ | refine blk_alloc ?_ _)); exact BK404.out) hb); have n2_ := Aside0.mk (below_step (by repeat (first | (with_reducible first | exact HB.out | apply below_alloc | apply pw_below_drewN | apply below_drew1 | refine below_set ?_ GE404.out) | exact HB.out)) hb); clear HO414; clear BK404; clear HB; have HO414 := n0_; have BK404 := n1_; have HB := n2_; clear n0_ n1_ n2_; (try clear hb); (try clear hb2); (try clear hk); (try clear hi))))
                        go_meet
                        case rel => exact ⟨_, (!t417), (by first | rfl | (simp; done) | (simp [*]; done)), H', ⟨by first | omega | exact Nat.le_refl _⟩, ⟨by (with_reducible repeat (first | apply Kd.R_alloc | apply Kd.R_drewN | apply Kd.R_drew)); exact HO414.out⟩, ⟨by (with_reducible repeat (first | refine blk_drewN ?_ _ | refine blk_drew ?_ | refine blk_alloc ?_ _)); exact BK404.out⟩, ⟨by repeat (first | (with_reducible first | exact HB.out | apply below_alloc | apply pw_below_drewN | apply below_drew1 | refine below_set ?_ GE404.out) | exact HB.out)⟩⟩
                      · rw [if_neg c36] at H
                        have c36b0 : ((t410.size : Int) == t398) = false := beq_eq_false_iff_ne.mpr c36
                        have c36b1 : ((t410.size : Int) != t398) = true := bne_iff_ne.mpr c36
                        exact absurd HRT.out (by rw [laws_FnSwitched.j0_no _ _ _ _ _ _ _ _ _ _ _ H]; decide)
                    · rw [if_neg c35] at H
                      have c35b0 : ((t408.size : Int) == t398) = false := beq_eq_false_iff_ne.mpr c35
                      have c35b1 : ((t408.size : Int) != t398) = true := bne_iff_ne.mpr c35
                      exact absurd HRT.out (by rw [laws_FnSwitched.j0_no _ _ _ _ _ _ _ _ _ _ _ H]; decide)
                  · rw [if_neg c34] at H
                    have c34b0 : ((t407.size : Int) == t398) = false := beq_eq_false_iff_ne.mpr c34
                    have c34b1 : ((t407.size : Int) != t398) = true := bne_iff_ne.mpr c34
                    exact absurd HRT.out (by rw [laws_FnSwitched.j0_no _ _ _ _ _ _ _ _ _ _ _ H]; decide)
                · rw [if_neg c33] at H
                  have c33b0 : ((t405.size : Int) == t398) = false := beq_eq_false_iff_ne.mpr c33
                  have c33b1 : ((t405.size : Int) != t398) = true := bne_iff_ne.mpr c33
                  (first | rw [c33b0] | (simp only [i64_w, i32_w]; rw [c33b0]) | skip)
                  exact absurd HRT.out (by rw [laws_FnSwitched.j0_no _ _ _ _ _ _ _ _ _ _ _ H]; decide)
              · replace c32 := Bool.eq_false_iff.mpr c32
                subst c32
                have H1 : (laws_FnSwitched.j0 k t398 t399 t400 t401 t405 t407 t408 t410 t412 true) = some r := by rw [if_neg (show ¬ (false = true) by decide)] at H; exact H
                exact absurd HRT.out (by rw [laws_FnSwitched.j0_no _ _ _ _ _ _ _ _ _ _ _ H1]; decide)
            · replace c30 := Bool.eq_false_iff.mpr c30
              subst c30
              have H1 : (laws_FnSwitched.j0 k t398 t399 t400 t401 t405 t407 t408 t410 t412 true) = some r := by rw [if_neg (show ¬ (false = true) by decide)] at H; exact H
              exact absurd HRT.out (by rw [laws_FnSwitched.j0_no _ _ _ _ _ _ _ _ _ _ _ H1]; decide)
          · replace c29 := Bool.eq_false_iff.mpr c29
            subst c29
            have H1 : (laws_FnSwitched.j0 k t398 t399 t400 t401 t405 t407 t408 t410 t412 true) = some r := by rw [if_neg (show ¬ (false = true) by decide)] at H; exact H
            exact absurd HRT.out (by rw [laws_FnSwitched.j0_no _ _ _ _ _ _ _ _ _ _ _ H1]; decide)
        · replace c28 := Bool.eq_false_iff.mpr c28
          subst c28
          have H1 : (laws_FnSwitched.j0 k t398 t399 t400 t401 t405 t407 t408 t410 t412 true) = some r := by rw [if_neg (show ¬ (false = true) by decide)] at H; exact H
          exact absurd HRT.out (by rw [laws_FnSwitched.j0_no _ _ _ _ _ _ _ _ _ _ _ H1]; decide)
      · replace c27 := Bool.eq_false_iff.mpr c27
        subst c27
        have H1 : (laws_FnSwitched.j0 k t398 t399 t400 t401 t405 t407 t408 t410 t412 true) = some r := by rw [if_neg (show ¬ (false = true) by decide)] at H; exact H
        exact absurd HRT.out (by rw [laws_FnSwitched.j0_no _ _ _ _ _ _ _ _ _ _ _ H1]; decide)
    case rest =>as_aux_lemma =>
      clear HC15
      try clear c1
      try clear c2
      try clear p2
      try clear c3
      try clear c4
      try clear c8
      try clear c27
      try clear c28
      try clear c29
      try clear c30
      try clear c32
      try clear c33
      try clear c33b0
      try clear c33b1
      try clear c34
      try clear c34b0
      try clear c34b1
      try clear c35
      try clear c35b0
      try clear c35b1
      try clear c36
      try clear c36b0
      try clear c36b1
      try clear hcz20_0
      try clear hcz20_1
      try clear hcz22_0
      try clear hcz22_1
      try clear hcz25_0
      try clear hcz25_1
      try clear hcz38_0
      try clear hcz38_1
      try clear hcz41_0
      try clear hcz41_1
      try clear hcz43_0
      try clear hcz43_1
      try clear hcz45_0
      try clear hcz45_1
      try clear hcz47_0
      try clear hcz47_1
      try clear hcz49_0
      try clear hcz49_1
      try clear hfz20_0
      try clear hfz20_1
      try clear hfz22_0
      try clear hfz22_1
      try clear hfz25_0
      try clear hfz25_1
      try clear hfz38_0
      try clear hfz38_1
      try clear hfz41_0
      try clear hfz41_1
      try clear hfz43_0
      try clear hfz43_1
      try clear hfz45_0
      try clear hfz45_1
      try clear hfz47_0
      try clear hfz47_1
      try clear hfz49_0
      try clear hfz49_1
      obtain ⟨kq, x122_14, rfl, HA, HJ14, HO_17, BK404, HB⟩ := hcut
      cases kq with
      | zero => exact absurd HA.out (by simp [laws_FnSwitched.j0])
      | succ kj14 =>
        have H := HA.out
        clear HA
        simp only [laws_FnSwitched.j0] at H
        by_cases c51 : x122_14 = true
        · subst c51
          have H1 : (some false) = some r := by rw [if_pos rfl] at H; exact H
          clear H
          have H := H1
          clear H1
          exact absurd (Option.some.inj (H.trans (congrArg some HRT.out))) (by decide)
        · replace c51 := Bool.eq_false_iff.mpr c51
          subst c51
          have H1 : (laws_FnSwitched.l0 kj14 t398 t399 t400 t401 t405 t407 t408 t410 t412 0 0) = some r := by rw [if_neg (show ¬ (false = true) by decide)] at H; exact H
          clear H
          have H := H1
          clear H1
          have H' := Aside0.mk H
          clear H
          go_wp2
          repeat (go_quiet (fail); try go_wp2)
          go_loopg [19, 20] kj14 (fun kq v19 v20 w' => ∃ (x19_2 : Int) (x20_2 : Int), v19 = .int .i64 x19_2 ∧ v20 = .int .i64 x20_2 ∧ Aside0 (laws_FnSwitched.l0 kq t398 t399 t400 t401 t405 t407 t408 t410 t412 x19_2 x20_2 = some r) ∧ Aside0 (kq ≤ kj14) ∧ Aside0 (Kd.R (Kd.int .i64) 2 w' w.heap.size (fun _ => True) v413 t412) ∧ Aside0 (w'.heap[gb404]? = some (.cells #[.int .i64 t402, .int .i64 t403] 30 (0, 0))) ∧ Aside0 (Below w.heap.size w w'))
          case atStart => exact ⟨(0), (0), (by first | rfl | (simp; done) | (simp [*]; done)), (by first | rfl | (simp; done) | (simp [*]; done)), H', ⟨Nat.le_refl _⟩, ⟨by (with_reducible repeat (first | apply Kd.R_alloc | apply Kd.R_drewN | apply Kd.R_drew)); exact HO_17.out⟩, ⟨by (with_reducible repeat (first | refine blk_drewN ?_ _ | refine blk_drew ?_ | refine blk_alloc ?_ _)); exact BK404.out⟩, ⟨by repeat (first | (with_reducible first | exact HB.out | apply below_alloc | apply pw_below_drewN | apply below_drew1 | refine below_set ?_ GE404.out) | exact HB.out)⟩⟩
          case round =>as_aux_lemma =>
            clear H'
            try clear c1
            try clear c2
            try clear p2
            try clear c3
            try clear c4
            try clear c5
            try clear c8
            try clear c27
            try clear c28
            try clear c29
            try clear c30
            try clear c32
            try clear c33
            try clear c33b0
            try clear c33b1
            try clear c34
            try clear c34b0
            try clear c34b1
            try clear c35
            try clear c35b0
            try clear c35b1
            try clear c36
            try clear c36b0
            try clear c36b1
            try clear c51
            try clear hcz20_0
            try clear hcz20_1
            try clear hcz22_0
            try clear hcz22_1
            try clear hcz25_0
            try clear hcz25_1
            try clear hcz38_0
            try clear hcz38_1
            try clear hcz41_0
            try clear hcz41_1
            try clear hcz43_0
            try clear hcz43_1
            try clear hcz45_0
            try clear hcz45_1
            try clear hcz47_0
            try clear hcz47_1
            try clear hcz49_0
            try clear hcz49_1
            try clear hfz20_0
            try clear hfz20_1
            try clear hfz22_0
            try clear hfz22_1
            try clear hfz25_0
            try clear hfz25_1
            try clear hfz38_0
            try clear hfz38_1
            try clear hfz41_0
            try clear hfz41_1
            try clear hfz43_0
            try clear hfz43_1
            try clear hfz45_0
            try clear hfz45_1
            try clear hfz47_0
            try clear hfz47_1
            try clear hfz49_0
            try clear hfz49_1
            try clear p2
            obtain ⟨x19_2, x20_2, rfl, rfl, HA, HK2, HO_17, BK404, HB⟩ := hrel
            cases gk with
            | zero => exact absurd HA.out (by simp [laws_FnSwitched.l0])
            | succ k2 =>
              have H := HA.out
              clear HA
              simp only [laws_FnSwitched.l0] at H
              by_cases c52 : x20_2 < t398
              · rw [if_pos c52] at H
                have c52b0 : decide (x20_2 < t398) = true := decide_eq_true c52
                clear c52
                have HC53 := Aside0.mk H
                clear H
                go_upto_region 18 with (fail)
                repeat (go_quiet (fail); go_upto_region 18 with (fail))
                go_cut [166] (fun v166 wc => ∃ (kq : Nat) (x166_52 : Bool), v166 = .bool x166_52 ∧ Aside0 (laws_FnSwitched.j2 kq t398 t399 t400 t401 t405 t407 t408 t410 t412 x19_2 x20_2 x166_52 = some r) ∧ Aside0 (kq ≤ k2) ∧ Aside0 (Kd.R (Kd.int .i64) 2 wc w.heap.size (fun _ => True) v413 t412) ∧ Aside0 (wc.heap[gb404]? = some (.cells #[.int .i64 t402, .int .i64 t403] 30 (0, 0))) ∧ Aside0 (Below w.heap.size w wc))
                case first =>as_aux_lemma =>
                  have H := HC53.out
                  clear HC53
                  by_cases c54 : 0 ≤ x20_2
                  · rw [if_pos c54] at H
                    have c54b0 : decide (0 ≤ x20_2) = true := decide_eq_true c54
                    clear c54
                    (first | rw [c54b0] | (simp only [i64_w, i32_w]; rw [c54b0]) | skip)
                    by_cases c55 : x20_2 < (t407.size : Int)
                    · rw [if_pos c55] at H
                      have c55b0 : decide (x20_2 < (t407.size : Int)) = true := decide_eq_true c55
                      clear c55
                      by_cases c57 : (bt t407 x20_2) = 49
                      · rw [if_pos c57] at H
                        have c57b0 : ((bt t407 x20_2) == 49) = true := beq_iff_eq.mpr c57
                        have c57b1 : ((bt t407 x20_2) != 49) = false := bne_eq_false_iff_eq.mpr c57
                        clear c57
                        by_cases c58 : x20_2 < (t408.size : Int)
                        · rw [if_pos c58] at H
                          have c58b0 : decide (x20_2 < (t408.size : Int)) = true := decide_eq_true c58
                          clear c58
                          by_cases c60 : (bt t408 x20_2) = 49
                          · rw [if_pos c60] at H
                            have c60b0 : ((bt t408 x20_2) == 49) = true := beq_iff_eq.mpr c60
                            have c60b1 : ((bt t408 x20_2) != 49) = false := bne_eq_false_iff_eq.mpr c60
                            clear c60
                            exact absurd HRT.out (by rw [laws_FnSwitched.j2_no _ _ _ _ _ _ _ _ _ _ _ _ _ H]; decide)
                          · rw [if_neg c60] at H
                            have c60b0 : ((bt t408 x20_2) == 49) = false := beq_eq_false_iff_ne.mpr c60
                            have c60b1 : ((bt t408 x20_2) != 49) = true := bne_iff_ne.mpr c60
                            by_cases c61 : x20_2 < (t405.size : Int)
                            · rw [if_pos c61] at H
                              have c61b0 : decide (x20_2 < (t405.size : Int)) = true := decide_eq_true c61
                              clear c61
                              by_cases c64 : x20_2 < (t399.size : Int)
                              · rw [if_pos c64] at H
                                have c64b0 : decide (x20_2 < (t399.size : Int)) = true := decide_eq_true c64
                                clear c64
                                by_cases c66 : (bt t399 x20_2) = 49
                                · rw [if_pos c66] at H
                                  have c66b0 : ((bt t399 x20_2) == 49) = true := beq_iff_eq.mpr c66
                                  have c66b1 : ((bt t399 x20_2) != 49) = false := bne_eq_false_iff_eq.mpr c66
                                  clear c66
                                  have H' := Aside0.mk H
                                  clear H
                                  have p56 : 0 ≤ (x20_2 : Int) := of_decide_eq_true (by first | (with_reducible assumption) | assumption)
                                  have q56 : x20_2 < (t407.size : Int) := of_decide_eq_true (by first | (with_reducible assumption) | assumption)
                                  have hx56 := bt_at t407 x20_2
                                  replace p56 := eq_true p56
                                  replace q56 := eq_true q56
                                  have p59 : 0 ≤ (x20_2 : Int) := of_decide_eq_true (by first | (with_reducible assumption) | assumption)
                                  have q59 : x20_2 < (t408.size : Int) := of_decide_eq_true (by first | (with_reducible assumption) | assumption)
                                  have hx59 := bt_at t408 x20_2
                                  replace p59 := eq_true p59
                                  replace q59 := eq_true q59
                                  have p62 : 0 ≤ (x20_2 : Int) := of_decide_eq_true (by first | (with_reducible assumption) | assumption)
                                  have q62 : x20_2 < (t405.size : Int) := of_decide_eq_true (by first | (with_reducible assumption) | assumption)
                                  have hx62 := bt_at t405 x20_2
                                  replace p62 := eq_true p62
                                  replace q62 := eq_true q62
                                  have p63 : 0 ≤ (x20_2 : Int) := of_decide_eq_true (by first | (with_reducible assumption) | assumption)
                                  have q63 : x20_2 < (t407.size : Int) := of_decide_eq_true (by first | (with_reducible assumption) | assumption)
                                  have hx63 := bt_at t407 x20_2
                                  replace p63 := eq_true p63
                                  replace q63 := eq_true q63
                                  have p65 : 0 ≤ (x20_2 : Int) := of_decide_eq_true (by first | (with_reducible assumption) | assumption)
                                  have q65 : x20_2 < (t399.size : Int) := of_decide_eq_true (by first | (with_reducible assumption) | assumption)
                                  have hx65 := bt_at t399 x20_2
                                  replace p65 := eq_true p65
                                  replace q65 := eq_true q65
                                  go_wp2
                                  repeat (go_quiet (fail); try go_wp2)
                                  go_meet
                                  case rel => exact ⟨_, ((((bt t405 x20_2) == 49) != true)), (by first | rfl | (simp; done) | (simp [*]; done)), H', ⟨by have := HJ14.out; have := HK2.out; first | omega | exact Nat.le_refl _⟩, ⟨by (with_reducible repeat (first | apply Kd.R_alloc | apply Kd.R_drewN | apply Kd.R_drew)); exact HO_17.out⟩, ⟨by (with_reducible repeat (first | refine blk_drewN ?_ _ | refine blk_drew ?_ | refine blk_alloc ?_ _)); exact BK404.out⟩, ⟨by repeat (first | (with_reducible first | exact HB.out | apply below_alloc | apply pw_below_drewN | apply below_drew1 | refine below_set ?_ GE404.out) | exact HB.out)⟩⟩
                                · rw [if_neg c66] at H
                                  have c66b0 : ((bt t399 x20_2) == 49) = false := beq_eq_false_iff_ne.mpr c66
                                  have c66b1 : ((bt t399 x20_2) != 49) = true := bne_iff_ne.mpr c66
                                  have H' := Aside0.mk H
                                  clear H
                                  have p56 : 0 ≤ (x20_2 : Int) := of_decide_eq_true (by first | (with_reducible assumption) | assumption)
                                  have q56 : x20_2 < (t407.size : Int) := of_decide_eq_true (by first | (with_reducible assumption) | assumption)
                                  have hx56 := bt_at t407 x20_2
                                  replace p56 := eq_true p56
                                  replace q56 := eq_true q56
                                  have p59 : 0 ≤ (x20_2 : Int) := of_decide_eq_true (by first | (with_reducible assumption) | assumption)
                                  have q59 : x20_2 < (t408.size : Int) := of_decide_eq_true (by first | (with_reducible assumption) | assumption)
                                  have hx59 := bt_at t408 x20_2
                                  replace p59 := eq_true p59
                                  replace q59 := eq_true q59
                                  have p62 : 0 ≤ (x20_2 : Int) := of_decide_eq_true (by first | (with_reducible assumption) | assumption)
                                  have q62 : x20_2 < (t405.size : Int) := of_decide_eq_true (by first | (with_reducible assumption) | assumption)
                                  have hx62 := bt_at t405 x20_2
                                  replace p62 := eq_true p62
                                  replace q62 := eq_true q62
                                  have p63 : 0 ≤ (x20_2 : Int) := of_decide_eq_true (by first | (with_reducible assumption) | assumption)
                                  have q63 : x20_2 < (t407.size : Int) := of_decide_eq_true (by first | (with_reducible assumption) | assumption)
                                  have hx63 := bt_at t407 x20_2
                                  replace p63 := eq_true p63
                                  replace q63 := eq_true q63
                                  have p65 : 0 ≤ (x20_2 : Int) := of_decide_eq_true (by first | (with_reducible assumption) | assumption)
                                  have q65 : x20_2 < (t399.size : Int) := of_decide_eq_true (by first | (with_reducible assumption) | assumption)
                                  have hx65 := bt_at t399 x20_2
                                  replace p65 := eq_true p65
                                  replace q65 := eq_true q65
                                  have p67 : 0 ≤ (x20_2 : Int) := of_decide_eq_true (by first | (with_reducible assumption) | assumption)
                                  have q67 : x20_2 < (t408.size : Int) := of_decide_eq_true (by first | (with_reducible assumption) | assumption)
                                  have hx67 := bt_at t408 x20_2
                                  replace p67 := eq_true p67
                                  replace q67 := eq_true q67
                                  go_wp2
                                  repeat (go_quiet (fail); try go_wp2)
                                  go_meet
                                  case rel => exact ⟨_, ((((bt t405 x20_2) == 49) != false)), (by first | rfl | (simp; done) | (simp [*]; done)), H', ⟨by have := HJ14.out; have := HK2.out; first | omega | exact Nat.le_refl _⟩, ⟨by (with_reducible repeat (first | apply Kd.R_alloc | apply Kd.R_drewN | apply Kd.R_drew)); exact HO_17.out⟩, ⟨by (with_reducible repeat (first | refine blk_drewN ?_ _ | refine blk_drew ?_ | refine blk_alloc ?_ _)); exact BK404.out⟩, ⟨by repeat (first | (with_reducible first | exact HB.out | apply below_alloc | apply pw_below_drewN | apply below_drew1 | refine below_set ?_ GE404.out) | exact HB.out)⟩⟩
                              · rw [if_neg c64] at H
                                exact absurd H (by simp)
                            · rw [if_neg c61] at H
                              exact absurd H (by simp)
                        · rw [if_neg c58] at H
                          exact absurd H (by simp)
                      · rw [if_neg c57] at H
                        have c57b0 : ((bt t407 x20_2) == 49) = false := beq_eq_false_iff_ne.mpr c57
                        have c57b1 : ((bt t407 x20_2) != 49) = true := bne_iff_ne.mpr c57
                        by_cases c68 : x20_2 < (t405.size : Int)
                        · rw [if_pos c68] at H
                          have c68b0 : decide (x20_2 < (t405.size : Int)) = true := decide_eq_true c68
                          clear c68
                          by_cases c71 : x20_2 < (t408.size : Int)
                          · rw [if_pos c71] at H
                            have c71b0 : decide (x20_2 < (t408.size : Int)) = true := decide_eq_true c71
                            clear c71
                            by_cases c73 : (bt t408 x20_2) = 49
                            · rw [if_pos c73] at H
                              have c73b0 : ((bt t408 x20_2) == 49) = true := beq_iff_eq.mpr c73
                              have c73b1 : ((bt t408 x20_2) != 49) = false := bne_eq_false_iff_eq.mpr c73
                              clear c73
                              by_cases c74 : x20_2 < (t400.size : Int)
                              · rw [if_pos c74] at H
                                have c74b0 : decide (x20_2 < (t400.size : Int)) = true := decide_eq_true c74
                                clear c74
                                have H' := Aside0.mk H
                                clear H
                                have p56 : 0 ≤ (x20_2 : Int) := of_decide_eq_true (by first | (with_reducible assumption) | assumption)
                                have q56 : x20_2 < (t407.size : Int) := of_decide_eq_true (by first | (with_reducible assumption) | assumption)
                                have hx56 := bt_at t407 x20_2
                                replace p56 := eq_true p56
                                replace q56 := eq_true q56
                                have p69 : 0 ≤ (x20_2 : Int) := of_decide_eq_true (by first | (with_reducible assumption) | assumption)
                                have q69 : x20_2 < (t405.size : Int) := of_decide_eq_true (by first | (with_reducible assumption) | assumption)
                                have hx69 := bt_at t405 x20_2
                                replace p69 := eq_true p69
                                replace q69 := eq_true q69
                                have p70 : 0 ≤ (x20_2 : Int) := of_decide_eq_true (by first | (with_reducible assumption) | assumption)
                                have q70 : x20_2 < (t407.size : Int) := of_decide_eq_true (by first | (with_reducible assumption) | assumption)
                                have hx70 := bt_at t407 x20_2
                                replace p70 := eq_true p70
                                replace q70 := eq_true q70
                                have p72 : 0 ≤ (x20_2 : Int) := of_decide_eq_true (by first | (with_reducible assumption) | assumption)
                                have q72 : x20_2 < (t408.size : Int) := of_decide_eq_true (by first | (with_reducible assumption) | assumption)
                                have hx72 := bt_at t408 x20_2
                                replace p72 := eq_true p72
                                replace q72 := eq_true q72
                                have p75 : 0 ≤ (x20_2 : Int) := of_decide_eq_true (by first | (with_reducible assumption) | assumption)
                                have q75 : x20_2 < (t400.size : Int) := of_decide_eq_true (by first | (with_reducible assumption) | assumption)
                                have hx75 := bt_at t400 x20_2
                                replace p75 := eq_true p75
                                replace q75 := eq_true q75
                                go_wp2
                                repeat (go_quiet (fail); try go_wp2)
                                go_meet
                                case rel => exact ⟨_, ((((bt t405 x20_2) == 49) != ((bt t400 x20_2) == 49))), (by first | rfl | (simp; done) | (simp [*]; done)), H', ⟨by have := HJ14.out; have := HK2.out; first | omega | exact Nat.le_refl _⟩, ⟨by (with_reducible repeat (first | apply Kd.R_alloc | apply Kd.R_drewN | apply Kd.R_drew)); exact HO_17.out⟩, ⟨by (with_reducible repeat (first | refine blk_drewN ?_ _ | refine blk_drew ?_ | refine blk_alloc ?_ _)); exact BK404.out⟩, ⟨by repeat (first | (with_reducible first | exact HB.out | apply below_alloc | apply pw_below_drewN | apply below_drew1 | refine below_set ?_ GE404.out) | exact HB.out)⟩⟩
                              · rw [if_neg c74] at H
                                exact absurd H (by simp)
                            · rw [if_neg c73] at H
                              have c73b0 : ((bt t408 x20_2) == 49) = false := beq_eq_false_iff_ne.mpr c73
                              have c73b1 : ((bt t408 x20_2) != 49) = true := bne_iff_ne.mpr c73
                              have H' := Aside0.mk H
                              clear H
                              have p56 : 0 ≤ (x20_2 : Int) := of_decide_eq_true (by first | (with_reducible assumption) | assumption)
                              have q56 : x20_2 < (t407.size : Int) := of_decide_eq_true (by first | (with_reducible assumption) | assumption)
                              have hx56 := bt_at t407 x20_2
                              replace p56 := eq_true p56
                              replace q56 := eq_true q56
                              have p69 : 0 ≤ (x20_2 : Int) := of_decide_eq_true (by first | (with_reducible assumption) | assumption)
                              have q69 : x20_2 < (t405.size : Int) := of_decide_eq_true (by first | (with_reducible assumption) | assumption)
                              have hx69 := bt_at t405 x20_2
                              replace p69 := eq_true p69
                              replace q69 := eq_true q69
                              have p70 : 0 ≤ (x20_2 : Int) := of_decide_eq_true (by first | (with_reducible assumption) | assumption)
                              have q70 : x20_2 < (t407.size : Int) := of_decide_eq_true (by first | (with_reducible assumption) | assumption)
                              have hx70 := bt_at t407 x20_2
                              replace p70 := eq_true p70
                              replace q70 := eq_true q70
                              have p72 : 0 ≤ (x20_2 : Int) := of_decide_eq_true (by first | (with_reducible assumption) | assumption)
                              have q72 : x20_2 < (t408.size : Int) := of_decide_eq_true (by first | (with_reducible assumption) | assumption)
                              have hx72 := bt_at t408 x20_2
                              replace p72 := eq_true p72
                              replace q72 := eq_true q72
                              go_wp2
                              repeat (go_quiet (fail); try go_wp2)
                              go_meet
                              case rel => exact ⟨_, ((((bt t405 x20_2) == 49) != false)), (by first | rfl | (simp; done) | (simp [*]; done)), H', ⟨by have := HJ14.out; have := HK2.out; first | omega | exact Nat.le_refl _⟩, ⟨by (with_reducible repeat (first | apply Kd.R_alloc | apply Kd.R_drewN | apply Kd.R_drew)); exact HO_17.out⟩, ⟨by (with_reducible repeat (first | refine blk_drewN ?_ _ | refine blk_drew ?_ | refine blk_alloc ?_ _)); exact BK404.out⟩, ⟨by repeat (first | (with_reducible first | exact HB.out | apply below_alloc | apply pw_below_drewN | apply below_drew1 | refine below_set ?_ GE404.out) | exact HB.out)⟩⟩
                          · rw [if_neg c71] at H
                            exact absurd H (by simp)
                        · rw [if_neg c68] at H
                          exact absurd H (by simp)
                    · rw [if_neg c55] at H
                      exact absurd H (by simp)
                  · rw [if_neg c54] at H
                    exact absurd H (by simp)
                case rest =>as_aux_lemma =>
                  clear HC53
                  try clear c1
                  try clear c2
                  try clear p2
                  try clear c3
                  try clear c4
                  try clear c5
                  try clear p5
                  try clear q5
                  try clear hx5
                  try clear c6
                  try clear p6
                  try clear q6
                  try clear hx6
                  try clear c7
                  try clear p7
                  try clear q7
                  try clear hx7
                  try clear c8
                  try clear c27
                  try clear c28
                  try clear c29
                  try clear c30
                  try clear c32
                  try clear c33
                  try clear c33b0
                  try clear c33b1
                  try clear c34
                  try clear c34b0
                  try clear c34b1
                  try clear c35
                  try clear c35b0
                  try clear c35b1
                  try clear c36
                  try clear c36b0
                  try clear c36b1
                  try clear c51
                  try clear c52
                  try clear c52b0
                  try clear c54
                  try clear c54b0
                  try clear c55
                  try clear c55b0
                  try clear p56
                  try clear q56
                  try clear hx56
                  try clear c57
                  try clear c57b0
                  try clear c57b1
                  try clear c58
                  try clear c58b0
                  try clear p59
                  try clear q59
                  try clear hx59
                  try clear c60
                  try clear c60b0
                  try clear c60b1
                  try clear c61
                  try clear c61b0
                  try clear p62
                  try clear q62
                  try clear hx62
                  try clear p63
                  try clear q63
                  try clear hx63
                  try clear c64
                  try clear c64b0
                  try clear p65
                  try clear q65
                  try clear hx65
                  try clear c66
                  try clear c66b0
                  try clear c66b1
                  try clear p67
                  try clear q67
                  try clear hx67
                  try clear c68
                  try clear c68b0
                  try clear p69
                  try clear q69
                  try clear hx69
                  try clear p70
                  try clear q70
                  try clear hx70
                  try clear c71
                  try clear c71b0
                  try clear p72
                  try clear q72
                  try clear hx72
                  try clear c73
                  try clear c73b0
                  try clear c73b1
                  try clear c74
                  try clear c74b0
                  try clear p75
                  try clear q75
                  try clear hx75
                  try clear hcz20_0
                  try clear hcz20_1
                  try clear hcz22_0
                  try clear hcz22_1
                  try clear hcz25_0
                  try clear hcz25_1
                  try clear hcz38_0
                  try clear hcz38_1
                  try clear hcz41_0
                  try clear hcz41_1
                  try clear hcz43_0
                  try clear hcz43_1
                  try clear hcz45_0
                  try clear hcz45_1
                  try clear hcz47_0
                  try clear hcz47_1
                  try clear hcz49_0
                  try clear hcz49_1
                  try clear hfz20_0
                  try clear hfz20_1
                  try clear hfz22_0
                  try clear hfz22_1
                  try clear hfz25_0
                  try clear hfz25_1
                  try clear hfz38_0
                  try clear hfz38_1
                  try clear hfz41_0
                  try clear hfz41_1
                  try clear hfz43_0
                  try clear hfz43_1
                  try clear hfz45_0
                  try clear hfz45_1
                  try clear hfz47_0
                  try clear hfz47_1
                  try clear hfz49_0
                  try clear hfz49_1
                  try clear p2
                  try clear p56
                  try clear p59
                  try clear p62
                  try clear p63
                  try clear p65
                  try clear p67
                  try clear p69
                  try clear p70
                  try clear p72
                  try clear p75
                  try clear q56
                  try clear q59
                  try clear q62
                  try clear q63
                  try clear q65
                  try clear q67
                  try clear q69
                  try clear q70
                  try clear q72
                  try clear q75
                  obtain ⟨kq, x166_52, rfl, HA, HJ52, HO_17, BK404, HB⟩ := hcut
                  cases kq with
                  | zero => exact absurd HA.out (by simp [laws_FnSwitched.j2])
                  | succ kj52 =>
                    have H := HA.out
                    clear HA
                    simp only [laws_FnSwitched.j2] at H
                    by_cases c76 : x166_52 = true
                    · subst c76
                      have H1 : (some false) = some r := by rw [if_pos rfl] at H; exact H
                      clear H
                      have H := H1
                      clear H1
                      exact absurd (Option.some.inj (H.trans (congrArg some HRT.out))) (by decide)
                    · replace c76 := Bool.eq_false_iff.mpr c76
                      subst c76
                      have H1 : (if 0 ≤ x20_2 then (if x20_2 < (t399.size : Int) then (if x20_2 < (t401.size : Int) then (if (bt t401 x20_2) = 49 then (if x20_2 < (t400.size : Int) then (laws_FnSwitched.j3 kj52 t398 t399 t400 t401 t405 t407 t408 t410 t412 x19_2 x20_2 (bt t400 x20_2)) else (none)) else (laws_FnSwitched.j3 kj52 t398 t399 t400 t401 t405 t407 t408 t410 t412 x19_2 x20_2 (bt t399 x20_2))) else (none)) else (none)) else (none)) = some r := by rw [if_neg (show ¬ (false = true) by decide)] at H; exact H
                      clear H
                      have H := H1
                      clear H1
                      by_cases c77 : 0 ≤ x20_2
                      · rw [if_pos c77] at H
                        have c77b0 : decide (0 ≤ x20_2) = true := decide_eq_true c77
                        clear c77
                        by_cases c78 : x20_2 < (t399.size : Int)
                        · rw [if_pos c78] at H
                          have c78b0 : decide (x20_2 < (t399.size : Int)) = true := decide_eq_true c78
                          clear c78
                          by_cases c80 : x20_2 < (t401.size : Int)
                          · rw [if_pos c80] at H
                            have c80b0 : decide (x20_2 < (t401.size : Int)) = true := decide_eq_true c80
                            clear c80
                            have HC82 := Aside0.mk H
                            clear H
                            have p79 : 0 ≤ (x20_2 : Int) := of_decide_eq_true (by first | (with_reducible assumption) | assumption)
                            have q79 : x20_2 < (t399.size : Int) := of_decide_eq_true (by first | (with_reducible assumption) | assumption)
                            have hx79 := bt_at t399 x20_2
                            replace p79 := eq_true p79
                            replace q79 := eq_true q79
                            have p81 : 0 ≤ (x20_2 : Int) := of_decide_eq_true (by first | (with_reducible assumption) | assumption)
                            have q81 : x20_2 < (t401.size : Int) := of_decide_eq_true (by first | (with_reducible assumption) | assumption)
                            have hx81 := bt_at t401 x20_2
                            replace p81 := eq_true p81
                            replace q81 := eq_true q81
                            go_upto_if 173 with (fail)
                            repeat (go_quiet (fail); go_upto_if 173 with (fail))
                            go_cut [21] (fun v21 wc => ∃ (kq : Nat) (x21_81 : Int), v21 = .int .u8 x21_81 ∧ Aside0 (laws_FnSwitched.j3 kq t398 t399 t400 t401 t405 t407 t408 t410 t412 x19_2 x20_2 x21_81 = some r) ∧ Aside0 (kq ≤ kj52) ∧ Aside0 (Kd.R (Kd.int .i64) 2 wc w.heap.size (fun _ => True) v413 t412) ∧ Aside0 (wc.heap[gb404]? = some (.cells #[.int .i64 t402, .int .i64 t403] 30 (0, 0))) ∧ Aside0 (Below w.heap.size w wc))
                            case first =>as_aux_lemma =>
                              have H := HC82.out
                              clear HC82
                              by_cases c83 : (bt t401 x20_2) = 49
                              · rw [if_pos c83] at H
                                have c83b0 : ((bt t401 x20_2) == 49) = true := beq_iff_eq.mpr c83
                                have c83b1 : ((bt t401 x20_2) != 49) = false := bne_eq_false_iff_eq.mpr c83
                                clear c83
                                (first | rw [c83b0] | (simp only [i64_w, i32_w]; rw [c83b0]) | skip)
                                by_cases c84 : x20_2 < (t400.size : Int)
                                · rw [if_pos c84] at H
                                  have c84b0 : decide (x20_2 < (t400.size : Int)) = true := decide_eq_true c84
                                  clear c84
                                  have H' := Aside0.mk H
                                  clear H
                                  have p85 : 0 ≤ (x20_2 : Int) := of_decide_eq_true (by first | (with_reducible assumption) | assumption)
                                  have q85 : x20_2 < (t400.size : Int) := of_decide_eq_true (by first | (with_reducible assumption) | assumption)
                                  have hx85 := bt_at t400 x20_2
                                  replace p85 := eq_true p85
                                  replace q85 := eq_true q85
                                  go_wp2
                                  repeat (go_quiet (fail); try go_wp2)
                                  go_meet
                                  case rel => exact ⟨_, (bt t400 x20_2), (by first | rfl | (simp; done) | (simp [*]; done)), H', ⟨by have := HJ14.out; have := HK2.out; have := HJ52.out; first | omega | exact Nat.le_refl _⟩, ⟨by (with_reducible repeat (first | apply Kd.R_alloc | apply Kd.R_drewN | apply Kd.R_drew)); exact HO_17.out⟩, ⟨by (with_reducible repeat (first | refine blk_drewN ?_ _ | refine blk_drew ?_ | refine blk_alloc ?_ _)); exact BK404.out⟩, ⟨by repeat (first | (with_reducible first | exact HB.out | apply below_alloc | apply pw_below_drewN | apply below_drew1 | refine below_set ?_ GE404.out) | exact HB.out)⟩⟩
                                · rw [if_neg c84] at H
                                  exact absurd H (by simp)
                              · rw [if_neg c83] at H
                                have c83b0 : ((bt t401 x20_2) == 49) = false := beq_eq_false_iff_ne.mpr c83
                                have c83b1 : ((bt t401 x20_2) != 49) = true := bne_iff_ne.mpr c83
                                (first | rw [c83b0] | (simp only [i64_w, i32_w]; rw [c83b0]) | skip)
                                have H' := Aside0.mk H
                                clear H
                                go_wp2
                                repeat (go_quiet (fail); try go_wp2)
                                go_meet
                                case rel => exact ⟨_, (bt t399 x20_2), (by first | rfl | (simp; done) | (simp [*]; done)), H', ⟨by have := HJ14.out; have := HK2.out; have := HJ52.out; first | omega | exact Nat.le_refl _⟩, ⟨by (with_reducible repeat (first | apply Kd.R_alloc | apply Kd.R_drewN | apply Kd.R_drew)); exact HO_17.out⟩, ⟨by (with_reducible repeat (first | refine blk_drewN ?_ _ | refine blk_drew ?_ | refine blk_alloc ?_ _)); exact BK404.out⟩, ⟨by repeat (first | (with_reducible first | exact HB.out | apply below_alloc | apply pw_below_drewN | apply below_drew1 | refine below_set ?_ GE404.out) | exact HB.out)⟩⟩
                            case rest =>as_aux_lemma =>
                              clear HC82
                              try clear c1
                              try clear c2
                              try clear p2
                              try clear c3
                              try clear c4
                              try clear c5
                              try clear p5
                              try clear q5
                              try clear hx5
                              try clear c6
                              try clear p6
                              try clear q6
                              try clear hx6
                              try clear c7
                              try clear p7
                              try clear q7
                              try clear hx7
                              try clear c8
                              try clear p8
                              try clear q8
                              try clear hx8
                              try clear c27
                              try clear c28
                              try clear c29
                              try clear c30
                              try clear c32
                              try clear c33
                              try clear c33b0
                              try clear c33b1
                              try clear c34
                              try clear c34b0
                              try clear c34b1
                              try clear c35
                              try clear c35b0
                              try clear c35b1
                              try clear c36
                              try clear c36b0
                              try clear c36b1
                              try clear c51
                              try clear c52
                              try clear c52b0
                              try clear c54
                              try clear c54b0
                              try clear c55
                              try clear c55b0
                              try clear p56
                              try clear q56
                              try clear hx56
                              try clear c57
                              try clear c57b0
                              try clear c57b1
                              try clear c58
                              try clear c58b0
                              try clear p59
                              try clear q59
                              try clear hx59
                              try clear c60
                              try clear c60b0
                              try clear c60b1
                              try clear c61
                              try clear c61b0
                              try clear p62
                              try clear q62
                              try clear hx62
                              try clear p63
                              try clear q63
                              try clear hx63
                              try clear c64
                              try clear c64b0
                              try clear p65
                              try clear q65
                              try clear hx65
                              try clear c66
                              try clear c66b0
                              try clear c66b1
                              try clear p67
                              try clear q67
                              try clear hx67
                              try clear c68
                              try clear c68b0
                              try clear p69
                              try clear q69
                              try clear hx69
                              try clear p70
                              try clear q70
                              try clear hx70
                              try clear c71
                              try clear c71b0
                              try clear p72
                              try clear q72
                              try clear hx72
                              try clear c73
                              try clear c73b0
                              try clear c73b1
                              try clear c74
                              try clear c74b0
                              try clear p75
                              try clear q75
                              try clear hx75
                              try clear c76
                              try clear c77
                              try clear c77b0
                              try clear c78
                              try clear c78b0
                              try clear p79
                              try clear q79
                              try clear hx79
                              try clear c80
                              try clear c80b0
                              try clear p81
                              try clear q81
                              try clear hx81
                              try clear c83
                              try clear c83b0
                              try clear c83b1
                              try clear c84
                              try clear c84b0
                              try clear p85
                              try clear q85
                              try clear hx85
                              try clear hcz20_0
                              try clear hcz20_1
                              try clear hcz22_0
                              try clear hcz22_1
                              try clear hcz25_0
                              try clear hcz25_1
                              try clear hcz38_0
                              try clear hcz38_1
                              try clear hcz41_0
                              try clear hcz41_1
                              try clear hcz43_0
                              try clear hcz43_1
                              try clear hcz45_0
                              try clear hcz45_1
                              try clear hcz47_0
                              try clear hcz47_1
                              try clear hcz49_0
                              try clear hcz49_1
                              try clear hfz20_0
                              try clear hfz20_1
                              try clear hfz22_0
                              try clear hfz22_1
                              try clear hfz25_0
                              try clear hfz25_1
                              try clear hfz38_0
                              try clear hfz38_1
                              try clear hfz41_0
                              try clear hfz41_1
                              try clear hfz43_0
                              try clear hfz43_1
                              try clear hfz45_0
                              try clear hfz45_1
                              try clear hfz47_0
                              try clear hfz47_1
                              try clear hfz49_0
                              try clear hfz49_1
                              try clear p2
                              try clear p5
                              try clear p56
                              try clear p59
                              try clear p6
                              try clear p62
                              try clear p63
                              try clear p65
                              try clear p67
                              try clear p69
                              try clear p7
                              try clear p70
                              try clear p72
                              try clear p75
                              try clear p79
                              try clear p81
                              try clear p85
                              try clear q5
                              try clear q56
                              try clear q59
                              try clear q6
                              try clear q62
                              try clear q63
                              try clear q65
                              try clear q67
                              try clear q69
                              try clear q7
                              try clear q70
                              try clear q72
                              try clear q75
                              try clear q79
                              try clear q81
                              try clear q85
                              obtain ⟨kq, x21_81, rfl, HA, HJ81, HO_17, BK404, HB⟩ := hcut
                              cases kq with
                              | zero => exact absurd HA.out (by simp [laws_FnSwitched.j3])
                              | succ kj81 =>
                                have H := HA.out
                                clear HA
                                simp only [laws_FnSwitched.j3] at H
                                by_cases c86 : 0 ≤ x20_2
                                · rw [if_pos c86] at H
                                  have c86b0 : decide (0 ≤ x20_2) = true := decide_eq_true c86
                                  clear c86
                                  by_cases c87 : x20_2 < (t410.size : Int)
                                  · rw [if_pos c87] at H
                                    have c87b0 : decide (x20_2 < (t410.size : Int)) = true := decide_eq_true c87
                                    clear c87
                                    by_cases c89 : (bt t410 x20_2) = x21_81
                                    · rw [if_pos c89] at H
                                      have c89b0 : ((bt t410 x20_2) == x21_81) = true := beq_iff_eq.mpr c89
                                      have c89b1 : ((bt t410 x20_2) != x21_81) = false := bne_eq_false_iff_eq.mpr c89
                                      clear c89
                                      by_cases c90 : x20_2 = 0
                                      · rw [if_pos c90] at H
                                        have c90b0 : (x20_2 == 0) = true := beq_iff_eq.mpr c90
                                        have c90b1 : (x20_2 != 0) = false := bne_eq_false_iff_eq.mpr c90
                                        clear c90
                                        have H' := Aside0.mk H
                                        clear H
                                        have p88 : 0 ≤ (x20_2 : Int) := of_decide_eq_true (by first | (with_reducible assumption) | assumption)
                                        have q88 : x20_2 < (t410.size : Int) := of_decide_eq_true (by first | (with_reducible assumption) | assumption)
                                        have hx88 := bt_at t410 x20_2
                                        replace p88 := eq_true p88
                                        replace q88 := eq_true q88
                                        go_wp2
                                        repeat (go_quiet (fail); try go_wp2)
                                        go_roundg kj81
                                        case measure => have := HJ14.out; have := HK2.out; have := HJ52.out; have := HJ81.out; omega
                                        case rel => exact ⟨(x19_2), (wrap64 (x20_2 + 1)), (by first | rfl | (simp; done) | (simp [*]; done)), (by first | rfl | (simp; done) | (simp [*]; done)), H', ⟨by have := HJ14.out; have := HK2.out; have := HJ52.out; have := HJ81.out; omega⟩, ⟨by (with_reducible repeat (first | apply Kd.R_alloc | apply Kd.R_drewN | apply Kd.R_drew)); exact HO_17.out⟩, ⟨by (with_reducible repeat (first | refine blk_drewN ?_ _ | refine blk_drew ?_ | refine blk_alloc ?_ _)); exact BK404.out⟩, ⟨by repeat (first | (with_reducible first | exact HB.out | apply below_alloc | apply pw_below_drewN | apply below_drew1 | refine below_set ?_ GE404.out) | exact HB.out)⟩⟩
                                      · rw [if_neg c90] at H
                                        have c90b0 : (x20_2 == 0) = false := beq_eq_false_iff_ne.mpr c90
                                        have c90b1 : (x20_2 != 0) = true := bne_iff_ne.mpr c90
                                        have HC91 := Aside0.mk H
                                        clear H
                                        have p88 : 0 ≤ (x20_2 : Int) := of_decide_eq_true (by first | (with_reducible assumption) | assumption)
                                        have q88 : x20_2 < (t410.size : Int) := of_decide_eq_true (by first | (with_reducible assumption) | assumption)
                                        have hx88 := bt_at t410 x20_2
                                        replace p88 := eq_true p88
                                        replace q88 := eq_true q88
                                        go_upto_region 26 with (fail)
                                        repeat (go_quiet (fail); go_upto_region 26 with (fail))
                                        go_cut [227] (fun v227 wc => ∃ (kq : Nat) (x227_90 : Bool), v227 = .bool x227_90 ∧ Aside0 (laws_FnSwitched.j4 kq t398 t399 t400 t401 t405 t407 t408 t410 t412 x19_2 x20_2 x227_90 = some r) ∧ Aside0 (kq ≤ kj81) ∧ Aside0 (Kd.R (Kd.int .i64) 2 wc w.heap.size (fun _ => True) v413 t412) ∧ Aside0 (wc.heap[gb404]? = some (.cells #[.int .i64 t402, .int .i64 t403] 30 (0, 0))) ∧ Aside0 (Below w.heap.size w wc))
                                        case first =>as_aux_lemma =>
                                          have H := HC91.out
                                          clear HC91
                                          by_cases c92 : x20_2 < (t407.size : Int)
                                          · rw [if_pos c92] at H
                                            have c92b0 : decide (x20_2 < (t407.size : Int)) = true := decide_eq_true c92
                                            clear c92
                                            (first | rw [c92b0] | (simp only [i64_w, i32_w]; rw [c92b0]) | skip)
                                            obtain ⟨ji94, hji94⟩ : ∃ j_ : Int, (wrap64 (x20_2 - 1)) = j_ := ⟨_, rfl⟩
                                            replace H : (if 0 ≤ (ji94) then (if (ji94) < (t407.size : Int) then (if (bt t407 x20_2) = (bt t407 (ji94)) then (if x20_2 < (t408.size : Int) then (if (ji94) < (t408.size : Int) then (if (bt t408 x20_2) = (bt t408 (ji94)) then (laws_FnSwitched.j4 kj81 t398 t399 t400 t401 t405 t407 t408 t410 t412 x19_2 x20_2 false) else (if x20_2 < (t400.size : Int) then (if (bt t400 x20_2) = 48 then (if (ji94) < (t400.size : Int) then (laws_FnSwitched.j4 kj81 t398 t399 t400 t401 t405 t407 t408 t410 t412 x19_2 x20_2 ((bt t400 (ji94)) != 49)) else (none)) else (laws_FnSwitched.j4 kj81 t398 t399 t400 t401 t405 t407 t408 t410 t412 x19_2 x20_2 true)) else (none))) else (none)) else (none)) else (if x20_2 < (t399.size : Int) then (if (bt t399 x20_2) = 48 then (if (ji94) < (t399.size : Int) then (if (bt t399 (ji94)) = 49 then (if x20_2 < (t408.size : Int) then (if (ji94) < (t408.size : Int) then (if (bt t408 x20_2) = (bt t408 (ji94)) then (laws_FnSwitched.j4 kj81 t398 t399 t400 t401 t405 t407 t408 t410 t412 x19_2 x20_2 false) else (if x20_2 < (t400.size : Int) then (if (bt t400 x20_2) = 48 then (if (ji94) < (t400.size : Int) then (laws_FnSwitched.j4 kj81 t398 t399 t400 t401 t405 t407 t408 t410 t412 x19_2 x20_2 ((bt t400 (ji94)) != 49)) else (none)) else (laws_FnSwitched.j4 kj81 t398 t399 t400 t401 t405 t407 t408 t410 t412 x19_2 x20_2 true)) else (none))) else (none)) else (none)) else (laws_FnSwitched.j4 kj81 t398 t399 t400 t401 t405 t407 t408 t410 t412 x19_2 x20_2 true)) else (none)) else (laws_FnSwitched.j4 kj81 t398 t399 t400 t401 t405 t407 t408 t410 t412 x19_2 x20_2 true)) else (none))) else (none)) else (none)) = some r := by first | (rw [hji94] at H; exact H) | (simp only [hji94] at H ⊢; exact H)
                                            have hji94w : (IntKind.i64.wrap (x20_2 - 1)) = ji94 := (i64_w _).trans hji94
                                            by_cases c95 : 0 ≤ (ji94)
                                            · rw [if_pos c95] at H
                                              have c95b0 : decide (0 ≤ (ji94)) = true := decide_eq_true c95
                                              clear c95
                                              by_cases c96 : (ji94) < (t407.size : Int)
                                              · rw [if_pos c96] at H
                                                have c96b0 : decide ((ji94) < (t407.size : Int)) = true := decide_eq_true c96
                                                clear c96
                                                by_cases c98 : (bt t407 x20_2) = (bt t407 (ji94))
                                                · rw [if_pos c98] at H
                                                  have c98b0 : ((bt t407 x20_2) == (bt t407 (ji94))) = true := beq_iff_eq.mpr c98
                                                  have c98b1 : ((bt t407 x20_2) != (bt t407 (ji94))) = false := bne_eq_false_iff_eq.mpr c98
                                                  clear c98
                                                  by_cases c99 : x20_2 < (t408.size : Int)
                                                  · rw [if_pos c99] at H
                                                    have c99b0 : decide (x20_2 < (t408.size : Int)) = true := decide_eq_true c99
                                                    clear c99
                                                    by_cases c101 : (ji94) < (t408.size : Int)
                                                    · rw [if_pos c101] at H
                                                      have c101b0 : decide ((ji94) < (t408.size : Int)) = true := decide_eq_true c101
                                                      clear c101
                                                      by_cases c103 : (bt t408 x20_2) = (bt t408 (ji94))
                                                      · rw [if_pos c103] at H
                                                        have c103b0 : ((bt t408 x20_2) == (bt t408 (ji94))) = true := beq_iff_eq.mpr c103
                                                        have c103b1 : ((bt t408 x20_2) != (bt t408 (ji94))) = false := bne_eq_false_iff_eq.mpr c103
                                                        clear c103
                                                        have H' := Aside0.mk H
                                                        clear H
                                                        have p93 : 0 ≤ (x20_2 : Int) := of_decide_eq_true (by first | (with_reducible assumption) | assumption)
                                                        have q93 : x20_2 < (t407.size : Int) := of_decide_eq_true (by first | (with_reducible assumption) | assumption)
                                                        have hx93 := bt_at t407 x20_2
                                                        replace p93 := eq_true p93
                                                        replace q93 := eq_true q93
                                                        have p97 : 0 ≤ ((ji94) : Int) := of_decide_eq_true (by first | (with_reducible assumption) | assumption)
                                                        have q97 : (ji94) < (t407.size : Int) := of_decide_eq_true (by first | (with_reducible assumption) | assumption)
                                                        have hx97 := bt_at t407 (ji94)
                                                        replace p97 := eq_true p97
                                                        replace q97 := eq_true q97
                                                        have p100 : 0 ≤ (x20_2 : Int) := of_decide_eq_true (by first | (with_reducible assumption) | assumption)
                                                        have q100 : x20_2 < (t408.size : Int) := of_decide_eq_true (by first | (with_reducible assumption) | assumption)
                                                        have hx100 := bt_at t408 x20_2
                                                        replace p100 := eq_true p100
                                                        replace q100 := eq_true q100
                                                        have p102 : 0 ≤ ((ji94) : Int) := of_decide_eq_true (by first | (with_reducible assumption) | assumption)
                                                        have q102 : (ji94) < (t408.size : Int) := of_decide_eq_true (by first | (with_reducible assumption) | assumption)
                                                        have hx102 := bt_at t408 (ji94)
                                                        replace p102 := eq_true p102
                                                        replace q102 := eq_true q102
                                                        go_wp2
                                                        repeat (go_quiet (fail); try go_wp2)
                                                        go_meet
                                                        case rel => exact ⟨_, (false), (by first | rfl | (simp; done) | (simp [*]; done)), H', ⟨by have := HJ14.out; have := HK2.out; have := HJ52.out; have := HJ81.out; first | omega | exact Nat.le_refl _⟩, ⟨by (with_reducible repeat (first | apply Kd.R_alloc | apply Kd.R_drewN | apply Kd.R_drew)); exact HO_17.out⟩, ⟨by (with_reducible repeat (first | refine blk_drewN ?_ _ | refine blk_drew ?_ | refine blk_alloc ?_ _)); exact BK404.out⟩, ⟨by repeat (first | (with_reducible first | exact HB.out | apply below_alloc | apply pw_below_drewN | apply below_drew1 | refine below_set ?_ GE404.out) | exact HB.out)⟩⟩
                                                      · rw [if_neg c103] at H
                                                        have c103b0 : ((bt t408 x20_2) == (bt t408 (ji94))) = false := beq_eq_false_iff_ne.mpr c103
                                                        have c103b1 : ((bt t408 x20_2) != (bt t408 (ji94))) = true := bne_iff_ne.mpr c103
                                                        by_cases c104 : x20_2 < (t400.size : Int)
                                                        · rw [if_pos c104] at H
                                                          have c104b0 : decide (x20_2 < (t400.size : Int)) = true := decide_eq_true c104
                                                          clear c104
                                                          by_cases c106 : (bt t400 x20_2) = 48
                                                          · rw [if_pos c106] at H
                                                            have c106b0 : ((bt t400 x20_2) == 48) = true := beq_iff_eq.mpr c106
                                                            have c106b1 : ((bt t400 x20_2) != 48) = false := bne_eq_false_iff_eq.mpr c106
                                                            clear c106
                                                            by_cases c107 : (ji94) < (t400.size : Int)
                                                            · rw [if_pos c107] at H
                                                              have c107b0 : decide ((ji94) < (t400.size : Int)) = true := decide_eq_true c107
                                                              clear c107
                                                              have H' := Aside0.mk H
                                                              clear H
                                                              have p93 : 0 ≤ (x20_2 : Int) := of_decide_eq_true (by first | (with_reducible assumption) | assumption)
                                                              have q93 : x20_2 < (t407.size : Int) := of_decide_eq_true (by first | (with_reducible assumption) | assumption)
                                                              have hx93 := bt_at t407 x20_2
                                                              replace p93 := eq_true p93
                                                              replace q93 := eq_true q93
                                                              have p97 : 0 ≤ ((ji94) : Int) := of_decide_eq_true (by first | (with_reducible assumption) | assumption)
                                                              have q97 : (ji94) < (t407.size : Int) := of_decide_eq_true (by first | (with_reducible assumption) | assumption)
                                                              have hx97 := bt_at t407 (ji94)
                                                              replace p97 := eq_true p97
                                                              replace q97 := eq_true q97
                                                              have p100 : 0 ≤ (x20_2 : Int) := of_decide_eq_true (by first | (with_reducible assumption) | assumption)
                                                              have q100 : x20_2 < (t408.size : Int) := of_decide_eq_true (by first | (with_reducible assumption) | assumption)
                                                              have hx100 := bt_at t408 x20_2
                                                              replace p100 := eq_true p100
                                                              replace q100 := eq_true q100
                                                              have p102 : 0 ≤ ((ji94) : Int) := of_decide_eq_true (by first | (with_reducible assumption) | assumption)
                                                              have q102 : (ji94) < (t408.size : Int) := of_decide_eq_true (by first | (with_reducible assumption) | assumption)
                                                              have hx102 := bt_at t408 (ji94)
                                                              replace p102 := eq_true p102
                                                              replace q102 := eq_true q102
                                                              have p105 : 0 ≤ (x20_2 : Int) := of_decide_eq_true (by first | (with_reducible assumption) | assumption)
                                                              have q105 : x20_2 < (t400.size : Int) := of_decide_eq_true (by first | (with_reducible assumption) | assumption)
                                                              have hx105 := bt_at t400 x20_2
                                                              replace p105 := eq_true p105
                                                              replace q105 := eq_true q105
                                                              have p108 : 0 ≤ ((ji94) : Int) := of_decide_eq_true (by first | (with_reducible assumption) | assumption)
                                                              have q108 : (ji94) < (t400.size : Int) := of_decide_eq_true (by first | (with_reducible assumption) | assumption)
                                                              have hx108 := bt_at t400 (ji94)
                                                              replace p108 := eq_true p108
                                                              replace q108 := eq_true q108
                                                              go_wp2
                                                              repeat (go_quiet (fail); try go_wp2)
                                                              go_meet
                                                              case rel => exact ⟨_, (((bt t400 (ji94)) != 49)), (by first | rfl | (simp; done) | (simp only [← hji94] <;> (first | rfl | simp)) | (simp [*]; done)), H', ⟨by have := HJ14.out; have := HK2.out; have := HJ52.out; have := HJ81.out; first | omega | exact Nat.le_refl _⟩, ⟨by (with_reducible repeat (first | apply Kd.R_alloc | apply Kd.R_drewN | apply Kd.R_drew)); exact HO_17.out⟩, ⟨by (with_reducible repeat (first | refine blk_drewN ?_ _ | refine blk_drew ?_ | refine blk_alloc ?_ _)); exact BK404.out⟩, ⟨by repeat (first | (with_reducible first | exact HB.out | apply below_alloc | apply pw_below_drewN | apply below_drew1 | refine below_set ?_ GE404.out) | exact HB.out)⟩⟩
                                                            · rw [if_neg c107] at H
                                                              exact absurd H (by simp)
                                                          · rw [if_neg c106] at H
                                                            have c106b0 : ((bt t400 x20_2) == 48) = false := beq_eq_false_iff_ne.mpr c106
                                                            have c106b1 : ((bt t400 x20_2) != 48) = true := bne_iff_ne.mpr c106
                                                            exact absurd HRT.out (by rw [laws_FnSwitched.j4_no _ _ _ _ _ _ _ _ _ _ _ _ _ H]; decide)
                                                        · rw [if_neg c104] at H
                                                          exact absurd H (by simp)
                                                    · rw [if_neg c101] at H
                                                      exact absurd H (by simp)
                                                  · rw [if_neg c99] at H
                                                    exact absurd H (by simp)
                                                · rw [if_neg c98] at H
                                                  have c98b0 : ((bt t407 x20_2) == (bt t407 (ji94))) = false := beq_eq_false_iff_ne.mpr c98
                                                  have c98b1 : ((bt t407 x20_2) != (bt t407 (ji94))) = true := bne_iff_ne.mpr c98
                                                  by_cases c109 : x20_2 < (t399.size : Int)
                                                  · rw [if_pos c109] at H
                                                    have c109b0 : decide (x20_2 < (t399.size : Int)) = true := decide_eq_true c109
                                                    clear c109
                                                    by_cases c111 : (bt t399 x20_2) = 48
                                                    · rw [if_pos c111] at H
                                                      have c111b0 : ((bt t399 x20_2) == 48) = true := beq_iff_eq.mpr c111
                                                      have c111b1 : ((bt t399 x20_2) != 48) = false := bne_eq_false_iff_eq.mpr c111
                                                      clear c111
                                                      by_cases c112 : (ji94) < (t399.size : Int)
                                                      · rw [if_pos c112] at H
                                                        have c112b0 : decide ((ji94) < (t399.size : Int)) = true := decide_eq_true c112
                                                        clear c112
                                                        by_cases c114 : (bt t399 (ji94)) = 49
                                                        · rw [if_pos c114] at H
                                                          have c114b0 : ((bt t399 (ji94)) == 49) = true := beq_iff_eq.mpr c114
                                                          have c114b1 : ((bt t399 (ji94)) != 49) = false := bne_eq_false_iff_eq.mpr c114
                                                          clear c114
                                                          by_cases c115 : x20_2 < (t408.size : Int)
                                                          · rw [if_pos c115] at H
                                                            have c115b0 : decide (x20_2 < (t408.size : Int)) = true := decide_eq_true c115
                                                            clear c115
                                                            by_cases c117 : (ji94) < (t408.size : Int)
                                                            · rw [if_pos c117] at H
                                                              have c117b0 : decide ((ji94) < (t408.size : Int)) = true := decide_eq_true c117
                                                              clear c117
                                                              by_cases c119 : (bt t408 x20_2) = (bt t408 (ji94))
                                                              · rw [if_pos c119] at H
                                                                have c119b0 : ((bt t408 x20_2) == (bt t408 (ji94))) = true := beq_iff_eq.mpr c119
                                                                have c119b1 : ((bt t408 x20_2) != (bt t408 (ji94))) = false := bne_eq_false_iff_eq.mpr c119
                                                                clear c119
                                                                have H' := Aside0.mk H
                                                                clear H
                                                                have p93 : 0 ≤ (x20_2 : Int) := of_decide_eq_true (by first | (with_reducible assumption) | assumption)
                                                                have q93 : x20_2 < (t407.size : Int) := of_decide_eq_true (by first | (with_reducible assumption) | assumption)
                                                                have hx93 := bt_at t407 x20_2
                                                                replace p93 := eq_true p93
                                                                replace q93 := eq_true q93
                                                                have p97 : 0 ≤ ((ji94) : Int) := of_decide_eq_true (by first | (with_reducible assumption) | assumption)
                                                                have q97 : (ji94) < (t407.size : Int) := of_decide_eq_true (by first | (with_reducible assumption) | assumption)
                                                                have hx97 := bt_at t407 (ji94)
                                                                replace p97 := eq_true p97
                                                                replace q97 := eq_true q97
                                                                have p110 : 0 ≤ (x20_2 : Int) := of_decide_eq_true (by first | (with_reducible assumption) | assumption)
                                                                have q110 : x20_2 < (t399.size : Int) := of_decide_eq_true (by first | (with_reducible assumption) | assumption)
                                                                have hx110 := bt_at t399 x20_2
                                                                replace p110 := eq_true p110
                                                                replace q110 := eq_true q110
                                                                have p113 : 0 ≤ ((ji94) : Int) := of_decide_eq_true (by first | (with_reducible assumption) | assumption)
                                                                have q113 : (ji94) < (t399.size : Int) := of_decide_eq_true (by first | (with_reducible assumption) | assumption)
                                                                have hx113 := bt_at t399 (ji94)
                                                                replace p113 := eq_true p113
                                                                replace q113 := eq_true q113
                                                                have p116 : 0 ≤ (x20_2 : Int) := of_decide_eq_true (by first | (with_reducible assumption) | assumption)
                                                                have q116 : x20_2 < (t408.size : Int) := of_decide_eq_true (by first | (with_reducible assumption) | assumption)
                                                                have hx116 := bt_at t408 x20_2
                                                                replace p116 := eq_true p116
                                                                replace q116 := eq_true q116
                                                                have p118 : 0 ≤ ((ji94) : Int) := of_decide_eq_true (by first | (with_reducible assumption) | assumption)
                                                                have q118 : (ji94) < (t408.size : Int) := of_decide_eq_true (by first | (with_reducible assumption) | assumption)
                                                                have hx118 := bt_at t408 (ji94)
                                                                replace p118 := eq_true p118
                                                                replace q118 := eq_true q118
                                                                go_wp2
                                                                repeat (go_quiet (fail); try go_wp2)
                                                                go_meet
                                                                case rel => exact ⟨_, (false), (by first | rfl | (simp; done) | (simp [*]; done)), H', ⟨by have := HJ14.out; have := HK2.out; have := HJ52.out; have := HJ81.out; first | omega | exact Nat.le_refl _⟩, ⟨by (with_reducible repeat (first | apply Kd.R_alloc | apply Kd.R_drewN | apply Kd.R_drew)); exact HO_17.out⟩, ⟨by (with_reducible repeat (first | refine blk_drewN ?_ _ | refine blk_drew ?_ | refine blk_alloc ?_ _)); exact BK404.out⟩, ⟨by repeat (first | (with_reducible first | exact HB.out | apply below_alloc | apply pw_below_drewN | apply below_drew1 | refine below_set ?_ GE404.out) | exact HB.out)⟩⟩
                                                              · rw [if_neg c119] at H
                                                                have c119b0 : ((bt t408 x20_2) == (bt t408 (ji94))) = false := beq_eq_false_iff_ne.mpr c119
                                                                have c119b1 : ((bt t408 x20_2) != (bt t408 (ji94))) = true := bne_iff_ne.mpr c119
                                                                by_cases c120 : x20_2 < (t400.size : Int)
                                                                · rw [if_pos c120] at H
                                                                  have c120b0 : decide (x20_2 < (t400.size : Int)) = true := decide_eq_true c120
                                                                  clear c120
                                                                  by_cases c122 : (bt t400 x20_2) = 48
                                                                  · rw [if_pos c122] at H
                                                                    have c122b0 : ((bt t400 x20_2) == 48) = true := beq_iff_eq.mpr c122
                                                                    have c122b1 : ((bt t400 x20_2) != 48) = false := bne_eq_false_iff_eq.mpr c122
                                                                    clear c122
                                                                    by_cases c123 : (ji94) < (t400.size : Int)
                                                                    · rw [if_pos c123] at H
                                                                      have c123b0 : decide ((ji94) < (t400.size : Int)) = true := decide_eq_true c123
                                                                      clear c123
                                                                      have H' := Aside0.mk H
                                                                      clear H
                                                                      have p93 : 0 ≤ (x20_2 : Int) := of_decide_eq_true (by first | (with_reducible assumption) | assumption)
                                                                      have q93 : x20_2 < (t407.size : Int) := of_decide_eq_true (by first | (with_reducible assumption) | assumption)
                                                                      have hx93 := bt_at t407 x20_2
                                                                      replace p93 := eq_true p93
                                                                      replace q93 := eq_true q93
                                                                      have p97 : 0 ≤ ((ji94) : Int) := of_decide_eq_true (by first | (with_reducible assumption) | assumption)
                                                                      have q97 : (ji94) < (t407.size : Int) := of_decide_eq_true (by first | (with_reducible assumption) | assumption)
                                                                      have hx97 := bt_at t407 (ji94)
                                                                      replace p97 := eq_true p97
                                                                      replace q97 := eq_true q97
                                                                      have p110 : 0 ≤ (x20_2 : Int) := of_decide_eq_true (by first | (with_reducible assumption) | assumption)
                                                                      have q110 : x20_2 < (t399.size : Int) := of_decide_eq_true (by first | (with_reducible assumption) | assumption)
                                                                      have hx110 := bt_at t399 x20_2
                                                                      replace p110 := eq_true p110
                                                                      replace q110 := eq_true q110
                                                                      have p113 : 0 ≤ ((ji94) : Int) := of_decide_eq_true (by first | (with_reducible assumption) | assumption)
                                                                      have q113 : (ji94) < (t399.size : Int) := of_decide_eq_true (by first | (with_reducible assumption) | assumption)
                                                                      have hx113 := bt_at t399 (ji94)
                                                                      replace p113 := eq_true p113
                                                                      replace q113 := eq_true q113
                                                                      have p116 : 0 ≤ (x20_2 : Int) := of_decide_eq_true (by first | (with_reducible assumption) | assumption)
                                                                      have q116 : x20_2 < (t408.size : Int) := of_decide_eq_true (by first | (with_reducible assumption) | assumption)
                                                                      have hx116 := bt_at t408 x20_2
                                                                      replace p116 := eq_true p116
                                                                      replace q116 := eq_true q116
                                                                      have p118 : 0 ≤ ((ji94) : Int) := of_decide_eq_true (by first | (with_reducible assumption) | assumption)
                                                                      have q118 : (ji94) < (t408.size : Int) := of_decide_eq_true (by first | (with_reducible assumption) | assumption)
                                                                      have hx118 := bt_at t408 (ji94)
                                                                      replace p118 := eq_true p118
                                                                      replace q118 := eq_true q118
                                                                      have p121 : 0 ≤ (x20_2 : Int) := of_decide_eq_true (by first | (with_reducible assumption) | assumption)
                                                                      have q121 : x20_2 < (t400.size : Int) := of_decide_eq_true (by first | (with_reducible assumption) | assumption)
                                                                      have hx121 := bt_at t400 x20_2
                                                                      replace p121 := eq_true p121
                                                                      replace q121 := eq_true q121
                                                                      have p124 : 0 ≤ ((ji94) : Int) := of_decide_eq_true (by first | (with_reducible assumption) | assumption)
                                                                      have q124 : (ji94) < (t400.size : Int) := of_decide_eq_true (by first | (with_reducible assumption) | assumption)
                                                                      have hx124 := bt_at t400 (ji94)
                                                                      replace p124 := eq_true p124
                                                                      replace q124 := eq_true q124
                                                                      go_wp2
                                                                      repeat (go_quiet (fail); try go_wp2)
                                                                      go_meet
                                                                      case rel => exact ⟨_, (((bt t400 (ji94)) != 49)), (by first | rfl | (simp; done) | (simp only [← hji94] <;> (first | rfl | simp)) | (simp [*]; done)), H', ⟨by have := HJ14.out; have := HK2.out; have := HJ52.out; have := HJ81.out; first | omega | exact Nat.le_refl _⟩, ⟨by (with_reducible repeat (first | apply Kd.R_alloc | apply Kd.R_drewN | apply Kd.R_drew)); exact HO_17.out⟩, ⟨by (with_reducible repeat (first | refine blk_drewN ?_ _ | refine blk_drew ?_ | refine blk_alloc ?_ _)); exact BK404.out⟩, ⟨by repeat (first | (with_reducible first | exact HB.out | apply below_alloc | apply pw_below_drewN | apply below_drew1 | refine below_set ?_ GE404.out) | exact HB.out)⟩⟩
                                                                    · rw [if_neg c123] at H
                                                                      exact absurd H (by simp)
                                                                  · rw [if_neg c122] at H
                                                                    have c122b0 : ((bt t400 x20_2) == 48) = false := beq_eq_false_iff_ne.mpr c122
                                                                    have c122b1 : ((bt t400 x20_2) != 48) = true := bne_iff_ne.mpr c122
                                                                    exact absurd HRT.out (by rw [laws_FnSwitched.j4_no _ _ _ _ _ _ _ _ _ _ _ _ _ H]; decide)
                                                                · rw [if_neg c120] at H
                                                                  exact absurd H (by simp)
                                                            · rw [if_neg c117] at H
                                                              exact absurd H (by simp)
                                                          · rw [if_neg c115] at H
                                                            exact absurd H (by simp)
                                                        · rw [if_neg c114] at H
                                                          have c114b0 : ((bt t399 (ji94)) == 49) = false := beq_eq_false_iff_ne.mpr c114
                                                          have c114b1 : ((bt t399 (ji94)) != 49) = true := bne_iff_ne.mpr c114
                                                          exact absurd HRT.out (by rw [laws_FnSwitched.j4_no _ _ _ _ _ _ _ _ _ _ _ _ _ H]; decide)
                                                      · rw [if_neg c112] at H
                                                        exact absurd H (by simp)
                                                    · rw [if_neg c111] at H
                                                      have c111b0 : ((bt t399 x20_2) == 48) = false := beq_eq_false_iff_ne.mpr c111
                                                      have c111b1 : ((bt t399 x20_2) != 48) = true := bne_iff_ne.mpr c111
                                                      exact absurd HRT.out (by rw [laws_FnSwitched.j4_no _ _ _ _ _ _ _ _ _ _ _ _ _ H]; decide)
                                                  · rw [if_neg c109] at H
                                                    exact absurd H (by simp)
                                              · rw [if_neg c96] at H
                                                exact absurd H (by simp)
                                            · rw [if_neg c95] at H
                                              exact absurd H (by simp)
                                          · rw [if_neg c92] at H
                                            exact absurd H (by simp)
                                        case rest =>as_aux_lemma =>
                                          clear HC91
                                          try clear c1
                                          try clear p1
                                          try clear q1
                                          try clear hx1
                                          try clear p2
                                          try clear c5
                                          try clear p5
                                          try clear q5
                                          try clear hx5
                                          try clear c6
                                          try clear p6
                                          try clear q6
                                          try clear hx6
                                          try clear c7
                                          try clear p7
                                          try clear q7
                                          try clear hx7
                                          try clear c8
                                          try clear p8
                                          try clear q8
                                          try clear hx8
                                          try clear c9
                                          try clear p9
                                          try clear q9
                                          try clear hx9
                                          try clear c10
                                          try clear p10
                                          try clear q10
                                          try clear hx10
                                          try clear c11
                                          try clear p11
                                          try clear q11
                                          try clear hx11
                                          try clear c12
                                          try clear p12
                                          try clear q12
                                          try clear hx12
                                          try clear p56
                                          try clear q56
                                          try clear hx56
                                          try clear c57
                                          try clear c57b0
                                          try clear c57b1
                                          try clear c58
                                          try clear c58b0
                                          try clear p59
                                          try clear q59
                                          try clear hx59
                                          try clear c60
                                          try clear c60b0
                                          try clear c60b1
                                          try clear c61
                                          try clear c61b0
                                          try clear p62
                                          try clear q62
                                          try clear hx62
                                          try clear p63
                                          try clear q63
                                          try clear hx63
                                          try clear c64
                                          try clear c64b0
                                          try clear p64
                                          try clear p65
                                          try clear q65
                                          try clear hx65
                                          try clear c66
                                          try clear c66b0
                                          try clear c66b1
                                          try clear p67
                                          try clear q67
                                          try clear hx67
                                          try clear c68
                                          try clear c68b0
                                          try clear p69
                                          try clear q69
                                          try clear hx69
                                          try clear p70
                                          try clear q70
                                          try clear hx70
                                          try clear c71
                                          try clear c71b0
                                          try clear p72
                                          try clear q72
                                          try clear hx72
                                          try clear c73
                                          try clear c73b0
                                          try clear c73b1
                                          try clear c74
                                          try clear c74b0
                                          try clear p75
                                          try clear q75
                                          try clear hx75
                                          try clear c76
                                          try clear c77
                                          try clear c77b0
                                          try clear c78
                                          try clear c78b0
                                          try clear p79
                                          try clear q79
                                          try clear hx79
                                          try clear c80
                                          try clear c80b0
                                          try clear p81
                                          try clear q81
                                          try clear hx81
                                          try clear c83
                                          try clear c83b0
                                          try clear c83b1
                                          try clear c84
                                          try clear c84b0
                                          try clear p85
                                          try clear q85
                                          try clear hx85
                                          try clear c86
                                          try clear c86b0
                                          try clear c87
                                          try clear c87b0
                                          try clear p88
                                          try clear q88
                                          try clear hx88
                                          try clear c89
                                          try clear c89b0
                                          try clear c89b1
                                          try clear c90
                                          try clear c90b0
                                          try clear c90b1
                                          try clear c92
                                          try clear c92b0
                                          try clear p93
                                          try clear q93
                                          try clear hx93
                                          try clear c95
                                          try clear c95b0
                                          try clear c96
                                          try clear c96b0
                                          try clear p97
                                          try clear q97
                                          try clear hx97
                                          try clear c98
                                          try clear c98b0
                                          try clear c98b1
                                          try clear c99
                                          try clear c99b0
                                          try clear p100
                                          try clear q100
                                          try clear hx100
                                          try clear c101
                                          try clear c101b0
                                          try clear p102
                                          try clear q102
                                          try clear hx102
                                          try clear c103
                                          try clear c103b0
                                          try clear c103b1
                                          try clear c104
                                          try clear c104b0
                                          try clear p105
                                          try clear q105
                                          try clear hx105
                                          try clear c106
                                          try clear c106b0
                                          try clear c106b1
                                          try clear c107
                                          try clear c107b0
                                          try clear p108
                                          try clear q108
                                          try clear hx108
                                          try clear c109
                                          try clear c109b0
                                          try clear p110
                                          try clear q110
                                          try clear hx110
                                          try clear c111
                                          try clear c111b0
                                          try clear c111b1
                                          try clear c112
                                          try clear c112b0
                                          try clear p113
                                          try clear q113
                                          try clear hx113
                                          try clear c114
                                          try clear c114b0
                                          try clear c114b1
                                          try clear c115
                                          try clear c115b0
                                          try clear p116
                                          try clear q116
                                          try clear hx116
                                          try clear c117
                                          try clear c117b0
                                          try clear p118
                                          try clear q118
                                          try clear hx118
                                          try clear c119
                                          try clear c119b0
                                          try clear c119b1
                                          try clear c120
                                          try clear c120b0
                                          try clear p121
                                          try clear q121
                                          try clear hx121
                                          try clear c122
                                          try clear c122b0
                                          try clear c122b1
                                          try clear c123
                                          try clear c123b0
                                          try clear p124
                                          try clear q124
                                          try clear hx124
                                          try clear hcz20_0
                                          try clear hcz20_1
                                          try clear hcz22_0
                                          try clear hcz22_1
                                          try clear hcz25_0
                                          try clear hcz25_1
                                          try clear hcz38_0
                                          try clear hcz38_1
                                          try clear hcz41_0
                                          try clear hcz41_1
                                          try clear hcz43_0
                                          try clear hcz43_1
                                          try clear hcz45_0
                                          try clear hcz45_1
                                          try clear hcz47_0
                                          try clear hcz47_1
                                          try clear hcz49_0
                                          try clear hcz49_1
                                          try clear hfz20_0
                                          try clear hfz20_1
                                          try clear hfz22_0
                                          try clear hfz22_1
                                          try clear hfz25_0
                                          try clear hfz25_1
                                          try clear hfz38_0
                                          try clear hfz38_1
                                          try clear hfz41_0
                                          try clear hfz41_1
                                          try clear hfz43_0
                                          try clear hfz43_1
                                          try clear hfz45_0
                                          try clear hfz45_1
                                          try clear hfz47_0
                                          try clear hfz47_1
                                          try clear hfz49_0
                                          try clear hfz49_1
                                          try clear p100
                                          try clear p102
                                          try clear p105
                                          try clear p108
                                          try clear p110
                                          try clear p113
                                          try clear p116
                                          try clear p118
                                          try clear p121
                                          try clear p124
                                          try clear p2
                                          try clear p5
                                          try clear p56
                                          try clear p59
                                          try clear p6
                                          try clear p62
                                          try clear p63
                                          try clear p65
                                          try clear p67
                                          try clear p69
                                          try clear p7
                                          try clear p70
                                          try clear p72
                                          try clear p75
                                          try clear p79
                                          try clear p81
                                          try clear p85
                                          try clear p88
                                          try clear p93
                                          try clear p97
                                          try clear q100
                                          try clear q102
                                          try clear q105
                                          try clear q108
                                          try clear q110
                                          try clear q113
                                          try clear q116
                                          try clear q118
                                          try clear q121
                                          try clear q124
                                          try clear q5
                                          try clear q56
                                          try clear q59
                                          try clear q6
                                          try clear q62
                                          try clear q63
                                          try clear q65
                                          try clear q67
                                          try clear q69
                                          try clear q7
                                          try clear q70
                                          try clear q72
                                          try clear q75
                                          try clear q79
                                          try clear q81
                                          try clear q85
                                          try clear q88
                                          try clear q93
                                          try clear q97
                                          obtain ⟨kq, x227_90, rfl, HA, HJ90, HO_17, BK404, HB⟩ := hcut
                                          cases kq with
                                          | zero => exact absurd HA.out (by simp [laws_FnSwitched.j4])
                                          | succ kj90 =>
                                            have H := HA.out
                                            clear HA
                                            simp only [laws_FnSwitched.j4] at H
                                            by_cases c125 : x227_90 = true
                                            · subst c125
                                              have H1 : (some false) = some r := by rw [if_pos rfl] at H; exact H
                                              clear H
                                              have H := H1
                                              clear H1
                                              exact absurd (Option.some.inj (H.trans (congrArg some HRT.out))) (by decide)
                                            · replace c125 := Bool.eq_false_iff.mpr c125
                                              subst c125
                                              have H1 : (if 0 ≤ x20_2 then (if x20_2 < (t407.size : Int) then (if 0 ≤ (wrap64 (x20_2 - 1)) then (if (wrap64 (x20_2 - 1)) < (t407.size : Int) then (if (bt t407 x20_2) = (bt t407 (wrap64 (x20_2 - 1))) then (if x20_2 < (t408.size : Int) then (if (wrap64 (x20_2 - 1)) < (t408.size : Int) then (laws_FnSwitched.j5 kj90 t398 t399 t400 t401 t405 t407 t408 t410 t412 x19_2 x20_2 ((bt t408 x20_2) != (bt t408 (wrap64 (x20_2 - 1))))) else (none)) else (none)) else (laws_FnSwitched.j5 kj90 t398 t399 t400 t401 t405 t407 t408 t410 t412 x19_2 x20_2 true)) else (none)) else (none)) else (none)) else (none)) = some r := by rw [if_neg (show ¬ (false = true) by decide)] at H; exact H
                                              clear H
                                              have H := H1
                                              clear H1
                                              have HC126 := Aside0.mk H
                                              clear H
                                              go_upto_region 28 with (fail)
                                              repeat (go_quiet (fail); go_upto_region 28 with (fail))
                                              go_cut [245] (fun v245 wc => ∃ (kq : Nat) (x245_125 : Bool), v245 = .bool x245_125 ∧ Aside0 (laws_FnSwitched.j5 kq t398 t399 t400 t401 t405 t407 t408 t410 t412 x19_2 x20_2 x245_125 = some r) ∧ Aside0 (kq ≤ kj90) ∧ Aside0 (Kd.R (Kd.int .i64) 2 wc w.heap.size (fun _ => True) v413 t412) ∧ Aside0 (wc.heap[gb404]? = some (.cells #[.int .i64 t402, .int .i64 t403] 30 (0, 0))) ∧ Aside0 (Below w.heap.size w wc))
                                              case first =>as_aux_lemma =>
                                                have H := HC126.out
                                                clear HC126
                                                by_cases c127 : 0 ≤ x20_2
                                                · rw [if_pos c127] at H
                                                  have c127b0 : decide (0 ≤ x20_2) = true := decide_eq_true c127
                                                  clear c127
                                                  (first | rw [c127b0] | (simp only [i64_w, i32_w]; rw [c127b0]) | skip)
                                                  by_cases c128 : x20_2 < (t407.size : Int)
                                                  · rw [if_pos c128] at H
                                                    have c128b0 : decide (x20_2 < (t407.size : Int)) = true := decide_eq_true c128
                                                    clear c128
                                                    obtain ⟨ji130, hji130⟩ : ∃ j_ : Int, (wrap64 (x20_2 - 1)) = j_ := ⟨_, rfl⟩
                                                    replace H : (if 0 ≤ (ji130) then (if (ji130) < (t407.size : Int) then (if (bt t407 x20_2) = (bt t407 (ji130)) then (if x20_2 < (t408.size : Int) then (if (ji130) < (t408.size : Int) then (laws_FnSwitched.j5 kj90 t398 t399 t400 t401 t405 t407 t408 t410 t412 x19_2 x20_2 ((bt t408 x20_2) != (bt t408 (ji130)))) else (none)) else (none)) else (laws_FnSwitched.j5 kj90 t398 t399 t400 t401 t405 t407 t408 t410 t412 x19_2 x20_2 true)) else (none)) else (none)) = some r := by first | (rw [hji130] at H; exact H) | (simp only [hji130] at H ⊢; exact H)
                                                    have hji130w : (IntKind.i64.wrap (x20_2 - 1)) = ji130 := (i64_w _).trans hji130
                                                    by_cases c131 : 0 ≤ (ji130)
                                                    · rw [if_pos c131] at H
                                                      have c131b0 : decide (0 ≤ (ji130)) = true := decide_eq_true c131
                                                      clear c131
                                                      by_cases c132 : (ji130) < (t407.size : Int)
                                                      · rw [if_pos c132] at H
                                                        have c132b0 : decide ((ji130) < (t407.size : Int)) = true := decide_eq_true c132
                                                        clear c132
                                                        by_cases c134 : (bt t407 x20_2) = (bt t407 (ji130))
                                                        · rw [if_pos c134] at H
                                                          have c134b0 : ((bt t407 x20_2) == (bt t407 (ji130))) = true := beq_iff_eq.mpr c134
                                                          have c134b1 : ((bt t407 x20_2) != (bt t407 (ji130))) = false := bne_eq_false_iff_eq.mpr c134
                                                          clear c134
                                                          by_cases c135 : x20_2 < (t408.size : Int)
                                                          · rw [if_pos c135] at H
                                                            have c135b0 : decide (x20_2 < (t408.size : Int)) = true := decide_eq_true c135
                                                            clear c135
                                                            by_cases c137 : (ji130) < (t408.size : Int)
                                                            · rw [if_pos c137] at H
                                                              have c137b0 : decide ((ji130) < (t408.size : Int)) = true := decide_eq_true c137
                                                              clear c137
                                                              have H' := Aside0.mk H
                                                              clear H
                                                              have p129 : 0 ≤ (x20_2 : Int) := of_decide_eq_true (by first | (with_reducible assumption) | assumption)
                                                              have q129 : x20_2 < (t407.size : Int) := of_decide_eq_true (by first | (with_reducible assumption) | assumption)
                                                              have hx129 := bt_at t407 x20_2
                                                              replace p129 := eq_true p129
                                                              replace q129 := eq_true q129
                                                              have p133 : 0 ≤ ((ji130) : Int) := of_decide_eq_true (by first | (with_reducible assumption) | assumption)
                                                              have q133 : (ji130) < (t407.size : Int) := of_decide_eq_true (by first | (with_reducible assumption) | assumption)
                                                              have hx133 := bt_at t407 (ji130)
                                                              replace p133 := eq_true p133
                                                              replace q133 := eq_true q133
                                                              have p136 : 0 ≤ (x20_2 : Int) := of_decide_eq_true (by first | (with_reducible assumption) | assumption)
                                                              have q136 : x20_2 < (t408.size : Int) := of_decide_eq_true (by first | (with_reducible assumption) | assumption)
                                                              have hx136 := bt_at t408 x20_2
                                                              replace p136 := eq_true p136
                                                              replace q136 := eq_true q136
                                                              have p138 : 0 ≤ ((ji130) : Int) := of_decide_eq_true (by first | (with_reducible assumption) | assumption)
                                                              have q138 : (ji130) < (t408.size : Int) := of_decide_eq_true (by first | (with_reducible assumption) | assumption)
                                                              have hx138 := bt_at t408 (ji130)
                                                              replace p138 := eq_true p138
                                                              replace q138 := eq_true q138
                                                              go_wp2
                                                              repeat (go_quiet (fail); try go_wp2)
                                                              go_meet
                                                              case rel => exact ⟨_, (((bt t408 x20_2) != (bt t408 (ji130)))), (by first | rfl | (simp; done) | (simp only [← hji130] <;> (first | rfl | simp)) | (simp [*]; done)), H', ⟨by have := HJ14.out; have := HK2.out; have := HJ52.out; have := HJ81.out; have := HJ90.out; first | omega | exact Nat.le_refl _⟩, ⟨by (with_reducible repeat (first | apply Kd.R_alloc | apply Kd.R_drewN | apply Kd.R_drew)); exact HO_17.out⟩, ⟨by (with_reducible repeat (first | refine blk_drewN ?_ _ | refine blk_drew ?_ | refine blk_alloc ?_ _)); exact BK404.out⟩, ⟨by repeat (first | (with_reducible first | exact HB.out | apply below_alloc | apply pw_below_drewN | apply below_drew1 | refine below_set ?_ GE404.out) | exact HB.out)⟩⟩
                                                            · rw [if_neg c137] at H
                                                              exact absurd H (by simp)
                                                          · rw [if_neg c135] at H
                                                            exact absurd H (by simp)
                                                        · rw [if_neg c134] at H
                                                          have c134b0 : ((bt t407 x20_2) == (bt t407 (ji130))) = false := beq_eq_false_iff_ne.mpr c134
                                                          have c134b1 : ((bt t407 x20_2) != (bt t407 (ji130))) = true := bne_iff_ne.mpr c134
                                                          have H' := Aside0.mk H
                                                          clear H
                                                          have p129 : 0 ≤ (x20_2 : Int) := of_decide_eq_true (by first | (with_reducible assumption) | assumption)
                                                          have q129 : x20_2 < (t407.size : Int) := of_decide_eq_true (by first | (with_reducible assumption) | assumption)
                                                          have hx129 := bt_at t407 x20_2
                                                          replace p129 := eq_true p129
                                                          replace q129 := eq_true q129
                                                          have p133 : 0 ≤ ((ji130) : Int) := of_decide_eq_true (by first | (with_reducible assumption) | assumption)
                                                          have q133 : (ji130) < (t407.size : Int) := of_decide_eq_true (by first | (with_reducible assumption) | assumption)
                                                          have hx133 := bt_at t407 (ji130)
                                                          replace p133 := eq_true p133
                                                          replace q133 := eq_true q133
                                                          go_wp2
                                                          repeat (go_quiet (fail); try go_wp2)
                                                          go_meet
                                                          case rel => exact ⟨_, (true), (by first | rfl | (simp; done) | (simp [*]; done)), H', ⟨by have := HJ14.out; have := HK2.out; have := HJ52.out; have := HJ81.out; have := HJ90.out; first | omega | exact Nat.le_refl _⟩, ⟨by (with_reducible repeat (first | apply Kd.R_alloc | apply Kd.R_drewN | apply Kd.R_drew)); exact HO_17.out⟩, ⟨by (with_reducible repeat (first | refine blk_drewN ?_ _ | refine blk_drew ?_ | refine blk_alloc ?_ _)); exact BK404.out⟩, ⟨by repeat (first | (with_reducible first | exact HB.out | apply below_alloc | apply pw_below_drewN | apply below_drew1 | refine below_set ?_ GE404.out) | exact HB.out)⟩⟩
                                                      · rw [if_neg c132] at H
                                                        exact absurd H (by simp)
                                                    · rw [if_neg c131] at H
                                                      exact absurd H (by simp)
                                                  · rw [if_neg c128] at H
                                                    exact absurd H (by simp)
                                                · rw [if_neg c127] at H
                                                  exact absurd H (by simp)
                                              case rest =>as_aux_lemma =>
                                                clear HC126
                                                try clear c1
                                                try clear p1
                                                try clear q1
                                                try clear hx1
                                                try clear p2
                                                try clear c5
                                                try clear p5
                                                try clear q5
                                                try clear hx5
                                                try clear c6
                                                try clear p6
                                                try clear q6
                                                try clear hx6
                                                try clear c7
                                                try clear p7
                                                try clear q7
                                                try clear hx7
                                                try clear c8
                                                try clear p8
                                                try clear q8
                                                try clear hx8
                                                try clear c9
                                                try clear p9
                                                try clear q9
                                                try clear hx9
                                                try clear c10
                                                try clear p10
                                                try clear q10
                                                try clear hx10
                                                try clear c11
                                                try clear p11
                                                try clear q11
                                                try clear hx11
                                                try clear c12
                                                try clear p12
                                                try clear q12
                                                try clear hx12
                                                try clear c13
                                                try clear p13
                                                try clear q13
                                                try clear hx13
                                                try clear p56
                                                try clear q56
                                                try clear hx56
                                                try clear c57
                                                try clear c57b0
                                                try clear c57b1
                                                try clear c58
                                                try clear c58b0
                                                try clear p59
                                                try clear q59
                                                try clear hx59
                                                try clear c60
                                                try clear c60b0
                                                try clear c60b1
                                                try clear c61
                                                try clear c61b0
                                                try clear p62
                                                try clear q62
                                                try clear hx62
                                                try clear p63
                                                try clear q63
                                                try clear hx63
                                                try clear c64
                                                try clear c64b0
                                                try clear p64
                                                try clear p65
                                                try clear q65
                                                try clear hx65
                                                try clear c66
                                                try clear c66b0
                                                try clear c66b1
                                                try clear p67
                                                try clear q67
                                                try clear hx67
                                                try clear c68
                                                try clear c68b0
                                                try clear p69
                                                try clear q69
                                                try clear hx69
                                                try clear p70
                                                try clear q70
                                                try clear hx70
                                                try clear c71
                                                try clear c71b0
                                                try clear p72
                                                try clear q72
                                                try clear hx72
                                                try clear c73
                                                try clear c73b0
                                                try clear c73b1
                                                try clear c74
                                                try clear c74b0
                                                try clear p75
                                                try clear q75
                                                try clear hx75
                                                try clear c76
                                                try clear c77
                                                try clear c77b0
                                                try clear c78
                                                try clear c78b0
                                                try clear p79
                                                try clear q79
                                                try clear hx79
                                                try clear c80
                                                try clear c80b0
                                                try clear p81
                                                try clear q81
                                                try clear hx81
                                                try clear c83
                                                try clear c83b0
                                                try clear c83b1
                                                try clear c84
                                                try clear c84b0
                                                try clear p85
                                                try clear q85
                                                try clear hx85
                                                try clear c86
                                                try clear c86b0
                                                try clear c87
                                                try clear c87b0
                                                try clear p88
                                                try clear q88
                                                try clear hx88
                                                try clear c89
                                                try clear c89b0
                                                try clear c89b1
                                                try clear c90
                                                try clear c90b0
                                                try clear c90b1
                                                try clear c92
                                                try clear c92b0
                                                try clear p93
                                                try clear q93
                                                try clear hx93
                                                try clear c95
                                                try clear c95b0
                                                try clear c96
                                                try clear c96b0
                                                try clear p97
                                                try clear q97
                                                try clear hx97
                                                try clear c98
                                                try clear c98b0
                                                try clear c98b1
                                                try clear c99
                                                try clear c99b0
                                                try clear p100
                                                try clear q100
                                                try clear hx100
                                                try clear c101
                                                try clear c101b0
                                                try clear p102
                                                try clear q102
                                                try clear hx102
                                                try clear c103
                                                try clear c103b0
                                                try clear c103b1
                                                try clear c104
                                                try clear c104b0
                                                try clear p105
                                                try clear q105
                                                try clear hx105
                                                try clear c106
                                                try clear c106b0
                                                try clear c106b1
                                                try clear c107
                                                try clear c107b0
                                                try clear p108
                                                try clear q108
                                                try clear hx108
                                                try clear c109
                                                try clear c109b0
                                                try clear p110
                                                try clear q110
                                                try clear hx110
                                                try clear c111
                                                try clear c111b0
                                                try clear c111b1
                                                try clear c112
                                                try clear c112b0
                                                try clear p113
                                                try clear q113
                                                try clear hx113
                                                try clear c114
                                                try clear c114b0
                                                try clear c114b1
                                                try clear c115
                                                try clear c115b0
                                                try clear p116
                                                try clear q116
                                                try clear hx116
                                                try clear c117
                                                try clear c117b0
                                                try clear p118
                                                try clear q118
                                                try clear hx118
                                                try clear c119
                                                try clear c119b0
                                                try clear c119b1
                                                try clear c120
                                                try clear c120b0
                                                try clear p121
                                                try clear q121
                                                try clear hx121
                                                try clear c122
                                                try clear c122b0
                                                try clear c122b1
                                                try clear c123
                                                try clear c123b0
                                                try clear p124
                                                try clear q124
                                                try clear hx124
                                                try clear c125
                                                try clear c127
                                                try clear c127b0
                                                try clear c128
                                                try clear c128b0
                                                try clear p129
                                                try clear q129
                                                try clear hx129
                                                try clear c131
                                                try clear c131b0
                                                try clear c132
                                                try clear c132b0
                                                try clear p133
                                                try clear q133
                                                try clear hx133
                                                try clear c134
                                                try clear c134b0
                                                try clear c134b1
                                                try clear c135
                                                try clear c135b0
                                                try clear p136
                                                try clear q136
                                                try clear hx136
                                                try clear c137
                                                try clear c137b0
                                                try clear p138
                                                try clear q138
                                                try clear hx138
                                                try clear hcz20_0
                                                try clear hcz20_1
                                                try clear hcz22_0
                                                try clear hcz22_1
                                                try clear hcz25_0
                                                try clear hcz25_1
                                                try clear hcz38_0
                                                try clear hcz38_1
                                                try clear hcz41_0
                                                try clear hcz41_1
                                                try clear hcz43_0
                                                try clear hcz43_1
                                                try clear hcz45_0
                                                try clear hcz45_1
                                                try clear hcz47_0
                                                try clear hcz47_1
                                                try clear hcz49_0
                                                try clear hcz49_1
                                                try clear hfz20_0
                                                try clear hfz20_1
                                                try clear hfz22_0
                                                try clear hfz22_1
                                                try clear hfz25_0
                                                try clear hfz25_1
                                                try clear hfz38_0
                                                try clear hfz38_1
                                                try clear hfz41_0
                                                try clear hfz41_1
                                                try clear hfz43_0
                                                try clear hfz43_1
                                                try clear hfz45_0
                                                try clear hfz45_1
                                                try clear hfz47_0
                                                try clear hfz47_1
                                                try clear hfz49_0
                                                try clear hfz49_1
                                                try clear p1
                                                try clear p10
                                                try clear p100
                                                try clear p102
                                                try clear p105
                                                try clear p108
                                                try clear p11
                                                try clear p110
                                                try clear p113
                                                try clear p116
                                                try clear p118
                                                try clear p12
                                                try clear p121
                                                try clear p124
                                                try clear p129
                                                try clear p133
                                                try clear p136
                                                try clear p138
                                                try clear p2
                                                try clear p5
                                                try clear p56
                                                try clear p59
                                                try clear p6
                                                try clear p62
                                                try clear p63
                                                try clear p64
                                                try clear p65
                                                try clear p67
                                                try clear p69
                                                try clear p7
                                                try clear p70
                                                try clear p72
                                                try clear p75
                                                try clear p79
                                                try clear p8
                                                try clear p81
                                                try clear p85
                                                try clear p88
                                                try clear p9
                                                try clear p93
                                                try clear p97
                                                try clear q1
                                                try clear q10
                                                try clear q100
                                                try clear q102
                                                try clear q105
                                                try clear q108
                                                try clear q11
                                                try clear q110
                                                try clear q113
                                                try clear q116
                                                try clear q118
                                                try clear q12
                                                try clear q121
                                                try clear q124
                                                try clear q129
                                                try clear q133
                                                try clear q136
                                                try clear q138
                                                try clear q5
                                                try clear q56
                                                try clear q59
                                                try clear q6
                                                try clear q62
                                                try clear q63
                                                try clear q65
                                                try clear q67
                                                try clear q69
                                                try clear q7
                                                try clear q70
                                                try clear q72
                                                try clear q75
                                                try clear q79
                                                try clear q8
                                                try clear q81
                                                try clear q85
                                                try clear q88
                                                try clear q9
                                                try clear q93
                                                try clear q97
                                                obtain ⟨kq, x245_125, rfl, HA, HJ125, HO_17, BK404, HB⟩ := hcut
                                                cases kq with
                                                | zero => exact absurd HA.out (by simp [laws_FnSwitched.j5])
                                                | succ kj125 =>
                                                  have H := HA.out
                                                  clear HA
                                                  simp only [laws_FnSwitched.j5] at H
                                                  by_cases c139 : x245_125 = true
                                                  · subst c139
                                                    have H1 : (if x19_2 ≥ (t412.length : Int) then (some false) else (if 0 ≤ x19_2 then (if x19_2 < (t412.length : Int) then (if (rd t412 x19_2) = x20_2 then (laws_FnSwitched.l0 kj125 t398 t399 t400 t401 t405 t407 t408 t410 t412 (wrap64 (x19_2 + 1)) (wrap64 (x20_2 + 1))) else (some false)) else (none)) else (none))) = some r := by rw [if_pos rfl] at H; exact H
                                                    clear H
                                                    have H := H1
                                                    clear H1
                                                    by_cases c140 : x19_2 ≥ (t412.length : Int)
                                                    · rw [if_pos c140] at H
                                                      have c140b0 : decide ((t412.length : Int) ≤ x19_2) = true := decide_eq_true c140
                                                      clear c140
                                                      exact absurd (Option.some.inj (H.trans (congrArg some HRT.out))) (by decide)
                                                    · rw [if_neg c140] at H
                                                      have c140b0 : decide ((t412.length : Int) ≤ x19_2) = false := decide_eq_false c140
                                                      clear c140
                                                      by_cases c142 : 0 ≤ x19_2
                                                      · rw [if_pos c142] at H
                                                        have c142b0 : decide (0 ≤ x19_2) = true := decide_eq_true c142
                                                        clear c142
                                                        by_cases c143 : x19_2 < (t412.length : Int)
                                                        · rw [if_pos c143] at H
                                                          have c143b0 : decide (x19_2 < (t412.length : Int)) = true := decide_eq_true c143
                                                          clear c143
                                                          by_cases c144 : (rd t412 x19_2) = x20_2
                                                          · rw [if_pos c144] at H
                                                            have c144b0 : ((rd t412 x19_2) == x20_2) = true := beq_iff_eq.mpr c144
                                                            have c144b1 : ((rd t412 x19_2) != x20_2) = false := bne_eq_false_iff_eq.mpr c144
                                                            clear c144
                                                            have H' := Aside0.mk H
                                                            clear H
                                                            obtain ⟨Ao145, co145, eo145⟩ := Kd.R_slice HO_17.out
                                                            subst eo145
                                                            have p418 : 0 ≤ (x19_2 : Int) := of_decide_eq_true (by first | (with_reducible assumption) | assumption)
                                                            have q418 : x19_2 < (t412.length : Int) := of_decide_eq_true (by first | (with_reducible assumption) | assumption)
                                                            obtain ⟨ad418, e418, hx418_0⟩ := Kd.at_int (Kd.R_reads' HO_17.out).2.2 x19_2 p418 q418
                                                            cases e418
                                                            replace p418 := eq_true p418
                                                            replace q418 := eq_true q418
                                                            go_wp2
                                                            repeat (go_quiet (fail); try go_wp2)
                                                            go_roundg kj125
                                                            case measure => have := HJ14.out; have := HK2.out; have := HJ52.out; have := HJ81.out; have := HJ90.out; have := HJ125.out; omega
                                                            case rel => exact ⟨(wrap64 (x19_2 + 1)), (wrap64 (x20_2 + 1)), (by first | rfl | (simp; done) | (simp [*]; done)), (by first | rfl | (simp; done) | (simp [*]; done)), H', ⟨by have := HJ14.out; have := HK2.out; have := HJ52.out; have := HJ81.out; have := HJ90.out; have := HJ125.out; omega⟩, ⟨by (with_reducible repeat (first | apply Kd.R_alloc | apply Kd.R_drewN | apply Kd.R_drew)); exact HO_17.out⟩, ⟨by (with_reducible repeat (first | refine blk_drewN ?_ _ | refine blk_drew ?_ | refine blk_alloc ?_ _)); exact BK404.out⟩, ⟨by repeat (first | (with_reducible first | exact HB.out | apply below_alloc | apply pw_below_drewN | apply below_drew1 | refine below_set ?_ GE404.out) | exact HB.out)⟩⟩
                                                          · rw [if_neg c144] at H
                                                            have c144b0 : ((rd t412 x19_2) == x20_2) = false := beq_eq_false_iff_ne.mpr c144
                                                            have c144b1 : ((rd t412 x19_2) != x20_2) = true := bne_iff_ne.mpr c144
                                                            exact absurd (Option.some.inj (H.trans (congrArg some HRT.out))) (by decide)
                                                        · rw [if_neg c143] at H
                                                          exact absurd H (by simp)
                                                      · rw [if_neg c142] at H
                                                        exact absurd H (by simp)
                                                  · replace c139 := Bool.eq_false_iff.mpr c139
                                                    subst c139
                                                    have H1 : (laws_FnSwitched.l0 kj125 t398 t399 t400 t401 t405 t407 t408 t410 t412 x19_2 (wrap64 (x20_2 + 1))) = some r := by rw [if_neg (show ¬ (false = true) by decide)] at H; exact H
                                                    clear H
                                                    have H := H1
                                                    clear H1
                                                    have H' := Aside0.mk H
                                                    clear H
                                                    go_wp2
                                                    repeat (go_quiet (fail); try go_wp2)
                                                    go_roundg kj125
                                                    case measure => have := HJ14.out; have := HK2.out; have := HJ52.out; have := HJ81.out; have := HJ90.out; have := HJ125.out; omega
                                                    case rel => exact ⟨(x19_2), (wrap64 (x20_2 + 1)), (by first | rfl | (simp; done) | (simp [*]; done)), (by first | rfl | (simp; done) | (simp [*]; done)), H', ⟨by have := HJ14.out; have := HK2.out; have := HJ52.out; have := HJ81.out; have := HJ90.out; have := HJ125.out; omega⟩, ⟨by (with_reducible repeat (first | apply Kd.R_alloc | apply Kd.R_drewN | apply Kd.R_drew)); exact HO_17.out⟩, ⟨by (with_reducible repeat (first | refine blk_drewN ?_ _ | refine blk_drew ?_ | refine blk_alloc ?_ _)); exact BK404.out⟩, ⟨by repeat (first | (with_reducible first | exact HB.out | apply below_alloc | apply pw_below_drewN | apply below_drew1 | refine below_set ?_ GE404.out) | exact HB.out)⟩⟩
                                    · rw [if_neg c89] at H
                                      have c89b0 : ((bt t410 x20_2) == x21_81) = false := beq_eq_false_iff_ne.mpr c89
                                      have c89b1 : ((bt t410 x20_2) != x21_81) = true := bne_iff_ne.mpr c89
                                      obtain rfl := Option.some.inj H
                                      have p88 : 0 ≤ (x20_2 : Int) := of_decide_eq_true (by first | (with_reducible assumption) | assumption)
                                      have q88 : x20_2 < (t410.size : Int) := of_decide_eq_true (by first | (with_reducible assumption) | assumption)
                                      have hx88 := bt_at t410 x20_2
                                      replace p88 := eq_true p88
                                      replace q88 := eq_true q88
                                      go_wp2
                                      repeat (go_quiet (fail); try go_wp2)
                                      go_ret
                                      exact ⟨by first | rfl | (simp [errW_none, errW_some] <;> rfl) | (simp [*, errW_none, errW_some] <;> rfl), by repeat (first | (with_reducible first | exact HB.out | apply below_alloc | apply pw_below_drewN | apply below_drew1 | refine below_set ?_ GE404.out) | exact HB.out)⟩
                                  · rw [if_neg c87] at H
                                    exact absurd H (by simp)
                                · rw [if_neg c86] at H
                                  exact absurd H (by simp)
                          · rw [if_neg c80] at H
                            exact absurd H (by simp)
                        · rw [if_neg c78] at H
                          exact absurd H (by simp)
                      · rw [if_neg c77] at H
                        exact absurd H (by simp)
              · rw [if_neg c52] at H
                have c52b0 : decide (x20_2 < t398) = false := decide_eq_false c52
                clear c52
                obtain rfl := Option.some.inj H
                obtain ⟨Ao147, co147, eo147⟩ := Kd.R_slice HO_17.out
                subst eo147
                go_wp2
                repeat (go_quiet (fail); try go_wp2)
                go_ret
                exact ⟨by first | rfl | (simp [errW_none, errW_some] <;> rfl) | (simp [*, errW_none, errW_some] <;> rfl), by repeat (first | (with_reducible first | exact HB.out | apply below_alloc | apply pw_below_drewN | apply below_drew1 | refine below_set ?_ GE404.out) | exact HB.out)⟩
/-- THE ONE PURE STATEMENT of laws_FnSwitched: yours. -/
def laws_FnSwitched.Pure : Prop := ∀ (l0 : List Int) (l1 : List Int), l0.length ≤ maxLen → l0.length * 1 ≤ 140737488351232 → (∀ x ∈ l0, (Lit.int .u8 x).wf = true) → l1.length ≤ maxLen → l1.length * 1 ≤ 140737488351232 → (∀ x ∈ l1, (Lit.int .u8 x).wf = true) → ∃ k, laws_FnSwitched.f k l0 l1 = some true
theorem laws_FnSwitched.walk (P : laws_FnSwitched.Pure) (a0 : Option Addr) (len0 cap0 : Nat) (z0 : List Int) (a1 : Option Addr) (len1 cap1 : Nat) (z1 : List Int) (w : World) (w0 : (a0 = none ∧ len0 = 0 ∧ cap0 = 0 ∧ z0 = []) ∨ ∃ x, a0 = some x ∧ len0 ≤ cap0 ∧ cap0 ≤ maxLen ∧ z0.length = cap0 ∧ (∀ i, i < z0.length → w.cell? (x.add i) = some (.int .u8 (z0.getD i 0))) ∧ ∀ n ∈ z0, (Lit.int .u8 n).wf = true) (y0 : len0 * 1 ≤ 140737488351232) (w1 : (a1 = none ∧ len1 = 0 ∧ cap1 = 0 ∧ z1 = []) ∨ ∃ x, a1 = some x ∧ len1 ≤ cap1 ∧ cap1 ≤ maxLen ∧ z1.length = cap1 ∧ (∀ i, i < z1.length → w.cell? (x.add i) = some (.int .u8 (z1.getD i 0))) ∧ ∀ n ∈ z1, (Lit.int .u8 n).wf = true) (y1 : len1 * 1 ≤ 140737488351232) :
    Calls Tryd.prog 8 #[.slice a0 len0 cap0, .slice a1 len1 cap1] w fun e w' => e = .returned (.bool true) ∧ Below w.heap.size w w' := by
  obtain ⟨l0, rfl, hr0, hm0, hw0, hc0⟩ := ReadsInt.ofRowC w0
  obtain ⟨l1, rfl, hr1, hm1, hw1, hc1⟩ := ReadsInt.ofRowC w1
  obtain ⟨k, h⟩ := P l0 l1 hm0 y0 hw0 hm1 y1 hw1
  refine (laws_FnSwitched.calls k _ _ l0 _ _ l1 true w (Kd.C_of_reads (d := (0 : Int)) (h1 := fun _ => rfl) hr0) hc0 (Kd.C_of_reads (d := (0 : Int)) (h1 := fun _ => rfl) hr1) hc1 h rfl).mono ?_
  rintro e w' ⟨rfl, hd⟩
  exact ⟨rfl, hd⟩
end Go.Proofs.YthkpnbelbaljdaaDoor.X
end
