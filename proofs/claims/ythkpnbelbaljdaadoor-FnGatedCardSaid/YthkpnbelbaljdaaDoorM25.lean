/- My own texts of this seat and its words, merged: Xp9. Conditions: as each lemma says. -/
import Derived.Test.YthkpnbelbaljdaaDoorM21
import Derived.Test.YthkpnbelbaljdaaDoorM23
import Derived.Test.YthkpnbelbaljdaaDoorM22
import Derived.Test.YthkpnbelbaljdaaDoorM24
section
-- Written by a program of this session out of the kit's print of the loaded functions: a plain function of a Go function, and its contract.
namespace Go.Proofs.YthkpnbelbaljdaaDoor.X
open Go.RowKit Go.Proofs.YthkpnbelbaljdaaDoorW.PrintWords Go.Proofs.YthkpnbelbaljdaaDoorW.PrintLast Go.Proofs.YthkpnbelbaljdaaDoorW.PrintMore
attribute [local go_sem] max2_int min2_int max_two min_two max_three min_three max_four min_four   -- for this text's walks alone
set_option linter.unusedVariables false
set_option linter.unusedSimpArgs false
/-! ### laws_FnGated: function 9 -/
mutual
def laws_FnGated.j0 : Nat → ByteArray → Int → ByteArray → ByteArray → Int → ByteArray → Int → List Int → List Int → List Int → Bool → Option (Bool)
  | 0, _, _, _, _, _, _, _, _, _, _, _ => none
  | k + 1, x5, x6, x7, x10, x12, x13, x15, x16, x18, x20, x125 => if x125 = true then (some false) else (laws_FnGated.l0 k x5 x6 x7 x10 x12 x13 x15 x16 x18 x20 (-1) 0)
def laws_FnGated.l0 : Nat → ByteArray → Int → ByteArray → ByteArray → Int → ByteArray → Int → List Int → List Int → List Int → Int → Int → Option (Bool)
  | 0, _, _, _, _, _, _, _, _, _, _, _, _ => none
  | k + 1, x5, x6, x7, x10, x12, x13, x15, x16, x18, x20, x22, x23 => if x23 < x6 then (if 0 ≤ x23 then (if x23 < (x10.size : Int) then (if x23 < (x5.size : Int) then (if (bt x5 x23) = 49 then (if x23 < (x7.size : Int) then (laws_FnGated.j2 k x5 x6 x7 x10 x12 x13 x15 x16 x18 x20 x22 x23 (((bt x10 x23) == 49) != ((bt x7 x23) == 49))) else (none)) else (laws_FnGated.j2 k x5 x6 x7 x10 x12 x13 x15 x16 x18 x20 x22 x23 (((bt x10 x23) == 49) != false))) else (none)) else (none)) else (none)) else (laws_FnGated.l1 k x6 x15 x16 x18 x20 0 0)
def laws_FnGated.j2 : Nat → ByteArray → Int → ByteArray → ByteArray → Int → ByteArray → Int → List Int → List Int → List Int → Int → Int → Bool → Option (Bool)
  | 0, _, _, _, _, _, _, _, _, _, _, _, _, _ => none
  | k + 1, x5, x6, x7, x10, x12, x13, x15, x16, x18, x20, x22, x23, x145 => if x145 = true then (some false) else (if 0 ≤ x23 then (if x23 < (x7.size : Int) then (if (bt x7 x23) = 49 then (laws_FnGated.j3 k x5 x6 x7 x10 x12 x13 x15 x16 x18 x20 x23 x23) else (laws_FnGated.j3 k x5 x6 x7 x10 x12 x13 x15 x16 x18 x20 x22 x23)) else (none)) else (none))
def laws_FnGated.j3 : Nat → ByteArray → Int → ByteArray → ByteArray → Int → ByteArray → Int → List Int → List Int → List Int → Int → Int → Option (Bool)
  | 0, _, _, _, _, _, _, _, _, _, _, _, _ => none
  | k + 1, x5, x6, x7, x10, x12, x13, x15, x16, x18, x20, x22, x23 => (laws_b10Ups.f k x5 (wrap64 (x23 + 1))).bind fun t502 => ((laws_b10Ups.f k x5 (wrap64 (x22 + 1))).bind fun t503 => (if 0 ≤ x23 then (if x23 < (x13.size : Int) then (if x23 < (x7.size : Int) then (if (bt x7 x23) = 49 then (if (((bt x13 x23) == 49) != true) = true then (some false) else (laws_FnGated.l0 k x5 x6 x7 x10 x12 x13 x15 x16 x18 x20 x22 (wrap64 (x23 + 1)))) else (if (((bt x13 x23) == 49) != (decide ((wrap64 (t502 - t503)) < x12))) = true then (some false) else (laws_FnGated.l0 k x5 x6 x7 x10 x12 x13 x15 x16 x18 x20 x22 (wrap64 (x23 + 1))))) else (none)) else (none)) else (none)))
def laws_FnGated.l1 : Nat → Int → Int → List Int → List Int → List Int → Int → Int → Option (Bool)
  | 0, _, _, _, _, _, _, _ => none
  | k + 1, x6, x15, x16, x18, x20, x25, x26 => if x26 < (x18.length : Int) then (if 0 ≤ x26 then (if x26 < (x20.length : Int) then (if (rd x20 x26) ≥ x15 then (laws_FnGated.j5 k x6 x15 x16 x18 x20 x25 x26 true) else (laws_FnGated.j5 k x6 x15 x16 x18 x20 x25 x26 ((wrap64 ((rd x18 x26) + (rd x20 x26))) == x6))) else (none)) else (none)) else (some (x25 == (x16.length : Int)))
def laws_FnGated.j5 : Nat → Int → Int → List Int → List Int → List Int → Int → Int → Bool → Option (Bool)
  | 0, _, _, _, _, _, _, _, _ => none
  | k + 1, x6, x15, x16, x18, x20, x25, x26, x198 => if x198 = true then (laws_FnGated.l1 k x6 x15 x16 x18 x20 x25 (wrap64 (x26 + 1))) else (if x25 ≥ (x16.length : Int) then (some false) else (if 0 ≤ x25 then (if x25 < (x16.length : Int) then (if 0 ≤ x26 then (if x26 < (x18.length : Int) then (if (rd x16 x25) = (rd x18 x26) then (laws_FnGated.l1 k x6 x15 x16 x18 x20 (wrap64 (x25 + 1)) (wrap64 (x26 + 1))) else (some false)) else (none)) else (none)) else (none)) else (none)))
end
def laws_FnGated.f (k : Nat) (l0 : List Int) (l1 : List Int) : Option (Bool) := (laws_b10Long.f l0 l1).bind fun t478 => (if t478 = true then (some true) else ((spec_B10Wave.f k l0).bind fun t479 => ((spec_B10Levels.f k l1 (t479.size : Int)).bind fun t480 => ((impl_GateWave.f t479 t480).bind fun bt481 => ((impl_PlainGate.f t479 t480).bind fun bt483 => ((laws_b10At.f l1 0 4).bind fun t485 => ((impl_ResetWave.f t479 t480 (wrap64 (1 + t485))).bind fun bt486 => ((laws_b10At.f l1 1 6).bind fun t488 => ((impl_ShortPulses.f k t479 (wrap64 (1 + t488))).bind fun bt489 => ((impl_UpsOf.f k t479).bind fun bt493 => ((impl_PulsesOf.f t479).bind fun bt497 => (if bt481.2 = true then (if bt483.2 = true then (if bt486.2 = true then (if bt489.2 = true then (if bt493.2 = true then (if bt497.2 = true then ((impl_IsClean.f bt481.1 t479 t479).bind fun t501 => (if t501 = true then (if (bt486.1.size : Int) = (t479.size : Int) then (if (bt483.1.size : Int) = (t479.size : Int) then (laws_FnGated.j0 k t479 (t479.size : Int) t480 bt483.1 (wrap64 (1 + t485)) bt486.1 (wrap64 (1 + t488)) bt489.1 bt493.1 bt497.1 ((bt497.1.length : Int) != (bt493.1.length : Int))) else (laws_FnGated.j0 k t479 (t479.size : Int) t480 bt483.1 (wrap64 (1 + t485)) bt486.1 (wrap64 (1 + t488)) bt489.1 bt493.1 bt497.1 true)) else (laws_FnGated.j0 k t479 (t479.size : Int) t480 bt483.1 (wrap64 (1 + t485)) bt486.1 (wrap64 (1 + t488)) bt489.1 bt493.1 bt497.1 true)) else (laws_FnGated.j0 k t479 (t479.size : Int) t480 bt483.1 (wrap64 (1 + t485)) bt486.1 (wrap64 (1 + t488)) bt489.1 bt493.1 bt497.1 true))) else (laws_FnGated.j0 k t479 (t479.size : Int) t480 bt483.1 (wrap64 (1 + t485)) bt486.1 (wrap64 (1 + t488)) bt489.1 bt493.1 bt497.1 true)) else (laws_FnGated.j0 k t479 (t479.size : Int) t480 bt483.1 (wrap64 (1 + t485)) bt486.1 (wrap64 (1 + t488)) bt489.1 bt493.1 bt497.1 true)) else (laws_FnGated.j0 k t479 (t479.size : Int) t480 bt483.1 (wrap64 (1 + t485)) bt486.1 (wrap64 (1 + t488)) bt489.1 bt493.1 bt497.1 true)) else (laws_FnGated.j0 k t479 (t479.size : Int) t480 bt483.1 (wrap64 (1 + t485)) bt486.1 (wrap64 (1 + t488)) bt489.1 bt493.1 bt497.1 true)) else (laws_FnGated.j0 k t479 (t479.size : Int) t480 bt483.1 (wrap64 (1 + t485)) bt486.1 (wrap64 (1 + t488)) bt489.1 bt493.1 bt497.1 true)) else (laws_FnGated.j0 k t479 (t479.size : Int) t480 bt483.1 (wrap64 (1 + t485)) bt486.1 (wrap64 (1 + t488)) bt489.1 bt493.1 bt497.1 true)))))))))))))
theorem laws_FnGated.j0_no (k : Nat) (y0 : ByteArray) (y1 : Int) (y2 : ByteArray) (y3 : ByteArray) (y4 : Int) (y5 : ByteArray) (y6 : Int) (y7 : List Int) (y8 : List Int) (y9 : List Int) (r : Bool) (h : laws_FnGated.j0 k y0 y1 y2 y3 y4 y5 y6 y7 y8 y9 true = some r) : r = false := by
  cases k with
  | zero => simp [laws_FnGated.j0] at h
  | succ k => rw [laws_FnGated.j0, if_pos rfl] at h; exact (Option.some.inj h).symm
set_option maxHeartbeats 8000000 in
set_option maxRecDepth 100000 in
theorem laws_FnGated.calls (k : Nat) (A0 : Option Addr) (c0 : Nat) (l0 : List Int) (A1 : Option Addr) (c1 : Nat) (l1 : List Int) (r : Bool) (w : World) (hr0 : Kd.C (Kd.int .u8) w A0 l0.length l0) (hc0 : l0.length ≤ c0) (hr1 : Kd.C (Kd.int .u8) w A1 l1.length l1) (hc1 : l1.length ≤ c1) (h : laws_FnGated.f k l0 l1 = some r) (hrT : r = true) :
    Calls Tryd.prog 9 #[.slice A0 l0.length c0, .slice A1 l1.length c1] w fun e w' => e = .returned (.bool r) ∧ Below w.heap.size w w' := by
  have HRT := Aside0.mk hrT
  clear hrT
  have HR0 := Aside0.mk hr0
  have HC0 := Aside0.mk hc0
  clear hr0 hc0
  have HR1 := Aside0.mk hr1
  have HC1 := Aside0.mk hc1
  clear hr1 hc1
  have HB := Aside0.mk (Below.refl w.heap.size w)
  have H : ((laws_b10Long.f l0 l1).bind fun t478 => (if t478 = true then (some true) else ((spec_B10Wave.f k l0).bind fun t479 => ((spec_B10Levels.f k l1 (t479.size : Int)).bind fun t480 => ((impl_GateWave.f t479 t480).bind fun bt481 => ((impl_PlainGate.f t479 t480).bind fun bt483 => ((laws_b10At.f l1 0 4).bind fun t485 => ((impl_ResetWave.f t479 t480 (wrap64 (1 + t485))).bind fun bt486 => ((laws_b10At.f l1 1 6).bind fun t488 => ((impl_ShortPulses.f k t479 (wrap64 (1 + t488))).bind fun bt489 => ((impl_UpsOf.f k t479).bind fun bt493 => ((impl_PulsesOf.f t479).bind fun bt497 => (if bt481.2 = true then (if bt483.2 = true then (if bt486.2 = true then (if bt489.2 = true then (if bt493.2 = true then (if bt497.2 = true then ((impl_IsClean.f bt481.1 t479 t479).bind fun t501 => (if t501 = true then (if (bt486.1.size : Int) = (t479.size : Int) then (if (bt483.1.size : Int) = (t479.size : Int) then (laws_FnGated.j0 k t479 (t479.size : Int) t480 bt483.1 (wrap64 (1 + t485)) bt486.1 (wrap64 (1 + t488)) bt489.1 bt493.1 bt497.1 ((bt497.1.length : Int) != (bt493.1.length : Int))) else (laws_FnGated.j0 k t479 (t479.size : Int) t480 bt483.1 (wrap64 (1 + t485)) bt486.1 (wrap64 (1 + t488)) bt489.1 bt493.1 bt497.1 true)) else (laws_FnGated.j0 k t479 (t479.size : Int) t480 bt483.1 (wrap64 (1 + t485)) bt486.1 (wrap64 (1 + t488)) bt489.1 bt493.1 bt497.1 true)) else (laws_FnGated.j0 k t479 (t479.size : Int) t480 bt483.1 (wrap64 (1 + t485)) bt486.1 (wrap64 (1 + t488)) bt489.1 bt493.1 bt497.1 true))) else (laws_FnGated.j0 k t479 (t479.size : Int) t480 bt483.1 (wrap64 (1 + t485)) bt486.1 (wrap64 (1 + t488)) bt489.1 bt493.1 bt497.1 true)) else (laws_FnGated.j0 k t479 (t479.size : Int) t480 bt483.1 (wrap64 (1 + t485)) bt486.1 (wrap64 (1 + t488)) bt489.1 bt493.1 bt497.1 true)) else (laws_FnGated.j0 k t479 (t479.size : Int) t480 bt483.1 (wrap64 (1 + t485)) bt486.1 (wrap64 (1 + t488)) bt489.1 bt493.1 bt497.1 true)) else (laws_FnGated.j0 k t479 (t479.size : Int) t480 bt483.1 (wrap64 (1 + t485)) bt486.1 (wrap64 (1 + t488)) bt489.1 bt493.1 bt497.1 true)) else (laws_FnGated.j0 k t479 (t479.size : Int) t480 bt483.1 (wrap64 (1 + t485)) bt486.1 (wrap64 (1 + t488)) bt489.1 bt493.1 bt497.1 true)) else (laws_FnGated.j0 k t479 (t479.size : Int) t480 bt483.1 (wrap64 (1 + t485)) bt486.1 (wrap64 (1 + t488)) bt489.1 bt493.1 bt497.1 true)))))))))))))) = some r := h
  clear h
  replace H := Option.bind_eq_some_iff.mp H
  obtain ⟨t478, A30, H⟩ := H
  replace H : (if t478 = true then (some true) else ((spec_B10Wave.f k l0).bind fun t479 => ((spec_B10Levels.f k l1 (t479.size : Int)).bind fun t480 => ((impl_GateWave.f t479 t480).bind fun bt481 => ((impl_PlainGate.f t479 t480).bind fun bt483 => ((laws_b10At.f l1 0 4).bind fun t485 => ((impl_ResetWave.f t479 t480 (wrap64 (1 + t485))).bind fun bt486 => ((laws_b10At.f l1 1 6).bind fun t488 => ((impl_ShortPulses.f k t479 (wrap64 (1 + t488))).bind fun bt489 => ((impl_UpsOf.f k t479).bind fun bt493 => ((impl_PulsesOf.f t479).bind fun bt497 => (if bt481.2 = true then (if bt483.2 = true then (if bt486.2 = true then (if bt489.2 = true then (if bt493.2 = true then (if bt497.2 = true then ((impl_IsClean.f bt481.1 t479 t479).bind fun t501 => (if t501 = true then (if (bt486.1.size : Int) = (t479.size : Int) then (if (bt483.1.size : Int) = (t479.size : Int) then (laws_FnGated.j0 k t479 (t479.size : Int) t480 bt483.1 (wrap64 (1 + t485)) bt486.1 (wrap64 (1 + t488)) bt489.1 bt493.1 bt497.1 ((bt497.1.length : Int) != (bt493.1.length : Int))) else (laws_FnGated.j0 k t479 (t479.size : Int) t480 bt483.1 (wrap64 (1 + t485)) bt486.1 (wrap64 (1 + t488)) bt489.1 bt493.1 bt497.1 true)) else (laws_FnGated.j0 k t479 (t479.size : Int) t480 bt483.1 (wrap64 (1 + t485)) bt486.1 (wrap64 (1 + t488)) bt489.1 bt493.1 bt497.1 true)) else (laws_FnGated.j0 k t479 (t479.size : Int) t480 bt483.1 (wrap64 (1 + t485)) bt486.1 (wrap64 (1 + t488)) bt489.1 bt493.1 bt497.1 true))) else (laws_FnGated.j0 k t479 (t479.size : Int) t480 bt483.1 (wrap64 (1 + t485)) bt486.1 (wrap64 (1 + t488)) bt489.1 bt493.1 bt497.1 true)) else (laws_FnGated.j0 k t479 (t479.size : Int) t480 bt483.1 (wrap64 (1 + t485)) bt486.1 (wrap64 (1 + t488)) bt489.1 bt493.1 bt497.1 true)) else (laws_FnGated.j0 k t479 (t479.size : Int) t480 bt483.1 (wrap64 (1 + t485)) bt486.1 (wrap64 (1 + t488)) bt489.1 bt493.1 bt497.1 true)) else (laws_FnGated.j0 k t479 (t479.size : Int) t480 bt483.1 (wrap64 (1 + t485)) bt486.1 (wrap64 (1 + t488)) bt489.1 bt493.1 bt497.1 true)) else (laws_FnGated.j0 k t479 (t479.size : Int) t480 bt483.1 (wrap64 (1 + t485)) bt486.1 (wrap64 (1 + t488)) bt489.1 bt493.1 bt497.1 true)) else (laws_FnGated.j0 k t479 (t479.size : Int) t480 bt483.1 (wrap64 (1 + t485)) bt486.1 (wrap64 (1 + t488)) bt489.1 bt493.1 bt497.1 true))))))))))))) = some r := H
  have A3 := Aside0.mk A30
  clear A30
  by_cases c4 : t478 = true
  · subst c4
    have H1 : (some true) = some r := by rw [if_pos rfl] at H; exact H
    clear H
    have H := H1
    clear H1
    obtain rfl := Option.some.inj H
    go_enter Tryd.func9, Tryd.ntmps9
    go_wp2_with (first | (go_at_call 25; (with_reducible refine (laws_b10Long.calls _ _ l0 _ _ l1 true _ ?side1 ?side2 ?side3 ?side4 A3.out).mono ?_); (case side1 => repeat (first | exact HR0.out | (with_reducible refine Kd.C_alloc ?_ _) | (with_reducible refine Kd.C_drewN ?_ _) | (with_reducible refine Kd.C_drew ?_))); (case side2 => first | exact trivial | (exact HC0.out)); (case side3 => repeat (first | exact HR1.out | (with_reducible refine Kd.C_alloc ?_ _) | (with_reducible refine Kd.C_drewN ?_ _) | (with_reducible refine Kd.C_drew ?_))); (case side4 => first | exact trivial | (exact HC1.out)); rintro e w' ⟨rfl, ⟨nd, rfl⟩⟩; (try first | exact ⟨rfl, _, World.drewN_drewN _ _ _⟩ | exact ⟨rfl, _, Eq.trans (World.drewN_drewN _ _ _) (congrArg (World.drewN _) (Nat.add_assoc _ _ _))⟩)))
    repeat (go_quiet (first | (go_at_call 25; (with_reducible refine (laws_b10Long.calls _ _ l0 _ _ l1 true _ ?side1 ?side2 ?side3 ?side4 A3.out).mono ?_); (case side1 => repeat (first | exact HR0.out | (with_reducible refine Kd.C_alloc ?_ _) | (with_reducible refine Kd.C_drewN ?_ _) | (with_reducible refine Kd.C_drew ?_))); (case side2 => first | exact trivial | (exact HC0.out)); (case side3 => repeat (first | exact HR1.out | (with_reducible refine Kd.C_alloc ?_ _) | (with_reducible refine Kd.C_drewN ?_ _) | (with_reducible refine Kd.C_drew ?_))); (case side4 => first | exact trivial | (exact HC1.out)); rintro e w' ⟨rfl, ⟨nd, rfl⟩⟩; (try first | exact ⟨rfl, _, World.drewN_drewN _ _ _⟩ | exact ⟨rfl, _, Eq.trans (World.drewN_drewN _ _ _) (congrArg (World.drewN _) (Nat.add_assoc _ _ _))⟩))); try go_wp2_with (first | (go_at_call 25; (with_reducible refine (laws_b10Long.calls _ _ l0 _ _ l1 true _ ?side1 ?side2 ?side3 ?side4 A3.out).mono ?_); (case side1 => repeat (first | exact HR0.out | (with_reducible refine Kd.C_alloc ?_ _) | (with_reducible refine Kd.C_drewN ?_ _) | (with_reducible refine Kd.C_drew ?_))); (case side2 => first | exact trivial | (exact HC0.out)); (case side3 => repeat (first | exact HR1.out | (with_reducible refine Kd.C_alloc ?_ _) | (with_reducible refine Kd.C_drewN ?_ _) | (with_reducible refine Kd.C_drew ?_))); (case side4 => first | exact trivial | (exact HC1.out)); rintro e w' ⟨rfl, ⟨nd, rfl⟩⟩; (try first | exact ⟨rfl, _, World.drewN_drewN _ _ _⟩ | exact ⟨rfl, _, Eq.trans (World.drewN_drewN _ _ _) (congrArg (World.drewN _) (Nat.add_assoc _ _ _))⟩))))
    go_ret
    exact ⟨by first | rfl | (simp [errW_none, errW_some] <;> rfl) | (simp [*, errW_none, errW_some] <;> rfl), by repeat (first | (with_reducible first | exact HB.out | apply below_alloc | apply pw_below_drewN | apply below_drew1) | exact HB.out)⟩
  · replace c4 := Bool.eq_false_iff.mpr c4
    subst c4
    have H1 : ((spec_B10Wave.f k l0).bind fun t479 => ((spec_B10Levels.f k l1 (t479.size : Int)).bind fun t480 => ((impl_GateWave.f t479 t480).bind fun bt481 => ((impl_PlainGate.f t479 t480).bind fun bt483 => ((laws_b10At.f l1 0 4).bind fun t485 => ((impl_ResetWave.f t479 t480 (wrap64 (1 + t485))).bind fun bt486 => ((laws_b10At.f l1 1 6).bind fun t488 => ((impl_ShortPulses.f k t479 (wrap64 (1 + t488))).bind fun bt489 => ((impl_UpsOf.f k t479).bind fun bt493 => ((impl_PulsesOf.f t479).bind fun bt497 => (if bt481.2 = true then (if bt483.2 = true then (if bt486.2 = true then (if bt489.2 = true then (if bt493.2 = true then (if bt497.2 = true then ((impl_IsClean.f bt481.1 t479 t479).bind fun t501 => (if t501 = true then (if (bt486.1.size : Int) = (t479.size : Int) then (if (bt483.1.size : Int) = (t479.size : Int) then (laws_FnGated.j0 k t479 (t479.size : Int) t480 bt483.1 (wrap64 (1 + t485)) bt486.1 (wrap64 (1 + t488)) bt489.1 bt493.1 bt497.1 ((bt497.1.length : Int) != (bt493.1.length : Int))) else (laws_FnGated.j0 k t479 (t479.size : Int) t480 bt483.1 (wrap64 (1 + t485)) bt486.1 (wrap64 (1 + t488)) bt489.1 bt493.1 bt497.1 true)) else (laws_FnGated.j0 k t479 (t479.size : Int) t480 bt483.1 (wrap64 (1 + t485)) bt486.1 (wrap64 (1 + t488)) bt489.1 bt493.1 bt497.1 true)) else (laws_FnGated.j0 k t479 (t479.size : Int) t480 bt483.1 (wrap64 (1 + t485)) bt486.1 (wrap64 (1 + t488)) bt489.1 bt493.1 bt497.1 true))) else (laws_FnGated.j0 k t479 (t479.size : Int) t480 bt483.1 (wrap64 (1 + t485)) bt486.1 (wrap64 (1 + t488)) bt489.1 bt493.1 bt497.1 true)) else (laws_FnGated.j0 k t479 (t479.size : Int) t480 bt483.1 (wrap64 (1 + t485)) bt486.1 (wrap64 (1 + t488)) bt489.1 bt493.1 bt497.1 true)) else (laws_FnGated.j0 k t479 (t479.size : Int) t480 bt483.1 (wrap64 (1 + t485)) bt486.1 (wrap64 (1 + t488)) bt489.1 bt493.1 bt497.1 true)) else (laws_FnGated.j0 k t479 (t479.size : Int) t480 bt483.1 (wrap64 (1 + t485)) bt486.1 (wrap64 (1 + t488)) bt489.1 bt493.1 bt497.1 true)) else (laws_FnGated.j0 k t479 (t479.size : Int) t480 bt483.1 (wrap64 (1 + t485)) bt486.1 (wrap64 (1 + t488)) bt489.1 bt493.1 bt497.1 true)) else (laws_FnGated.j0 k t479 (t479.size : Int) t480 bt483.1 (wrap64 (1 + t485)) bt486.1 (wrap64 (1 + t488)) bt489.1 bt493.1 bt497.1 true)))))))))))) = some r := by rw [if_neg (show ¬ (false = true) by decide)] at H; exact H
    clear H
    have H := H1
    clear H1
    replace H := Option.bind_eq_some_iff.mp H
    obtain ⟨t479, A50, H⟩ := H
    replace H : ((spec_B10Levels.f k l1 (t479.size : Int)).bind fun t480 => ((impl_GateWave.f t479 t480).bind fun bt481 => ((impl_PlainGate.f t479 t480).bind fun bt483 => ((laws_b10At.f l1 0 4).bind fun t485 => ((impl_ResetWave.f t479 t480 (wrap64 (1 + t485))).bind fun bt486 => ((laws_b10At.f l1 1 6).bind fun t488 => ((impl_ShortPulses.f k t479 (wrap64 (1 + t488))).bind fun bt489 => ((impl_UpsOf.f k t479).bind fun bt493 => ((impl_PulsesOf.f t479).bind fun bt497 => (if bt481.2 = true then (if bt483.2 = true then (if bt486.2 = true then (if bt489.2 = true then (if bt493.2 = true then (if bt497.2 = true then ((impl_IsClean.f bt481.1 t479 t479).bind fun t501 => (if t501 = true then (if (bt486.1.size : Int) = (t479.size : Int) then (if (bt483.1.size : Int) = (t479.size : Int) then (laws_FnGated.j0 k t479 (t479.size : Int) t480 bt483.1 (wrap64 (1 + t485)) bt486.1 (wrap64 (1 + t488)) bt489.1 bt493.1 bt497.1 ((bt497.1.length : Int) != (bt493.1.length : Int))) else (laws_FnGated.j0 k t479 (t479.size : Int) t480 bt483.1 (wrap64 (1 + t485)) bt486.1 (wrap64 (1 + t488)) bt489.1 bt493.1 bt497.1 true)) else (laws_FnGated.j0 k t479 (t479.size : Int) t480 bt483.1 (wrap64 (1 + t485)) bt486.1 (wrap64 (1 + t488)) bt489.1 bt493.1 bt497.1 true)) else (laws_FnGated.j0 k t479 (t479.size : Int) t480 bt483.1 (wrap64 (1 + t485)) bt486.1 (wrap64 (1 + t488)) bt489.1 bt493.1 bt497.1 true))) else (laws_FnGated.j0 k t479 (t479.size : Int) t480 bt483.1 (wrap64 (1 + t485)) bt486.1 (wrap64 (1 + t488)) bt489.1 bt493.1 bt497.1 true)) else (laws_FnGated.j0 k t479 (t479.size : Int) t480 bt483.1 (wrap64 (1 + t485)) bt486.1 (wrap64 (1 + t488)) bt489.1 bt493.1 bt497.1 true)) else (laws_FnGated.j0 k t479 (t479.size : Int) t480 bt483.1 (wrap64 (1 + t485)) bt486.1 (wrap64 (1 + t488)) bt489.1 bt493.1 bt497.1 true)) else (laws_FnGated.j0 k t479 (t479.size : Int) t480 bt483.1 (wrap64 (1 + t485)) bt486.1 (wrap64 (1 + t488)) bt489.1 bt493.1 bt497.1 true)) else (laws_FnGated.j0 k t479 (t479.size : Int) t480 bt483.1 (wrap64 (1 + t485)) bt486.1 (wrap64 (1 + t488)) bt489.1 bt493.1 bt497.1 true)) else (laws_FnGated.j0 k t479 (t479.size : Int) t480 bt483.1 (wrap64 (1 + t485)) bt486.1 (wrap64 (1 + t488)) bt489.1 bt493.1 bt497.1 true))))))))))) = some r := H
    have A5 := Aside0.mk A50
    clear A50
    replace H := Option.bind_eq_some_iff.mp H
    obtain ⟨t480, A60, H⟩ := H
    replace H : ((impl_GateWave.f t479 t480).bind fun bt481 => ((impl_PlainGate.f t479 t480).bind fun bt483 => ((laws_b10At.f l1 0 4).bind fun t485 => ((impl_ResetWave.f t479 t480 (wrap64 (1 + t485))).bind fun bt486 => ((laws_b10At.f l1 1 6).bind fun t488 => ((impl_ShortPulses.f k t479 (wrap64 (1 + t488))).bind fun bt489 => ((impl_UpsOf.f k t479).bind fun bt493 => ((impl_PulsesOf.f t479).bind fun bt497 => (if bt481.2 = true then (if bt483.2 = true then (if bt486.2 = true then (if bt489.2 = true then (if bt493.2 = true then (if bt497.2 = true then ((impl_IsClean.f bt481.1 t479 t479).bind fun t501 => (if t501 = true then (if (bt486.1.size : Int) = (t479.size : Int) then (if (bt483.1.size : Int) = (t479.size : Int) then (laws_FnGated.j0 k t479 (t479.size : Int) t480 bt483.1 (wrap64 (1 + t485)) bt486.1 (wrap64 (1 + t488)) bt489.1 bt493.1 bt497.1 ((bt497.1.length : Int) != (bt493.1.length : Int))) else (laws_FnGated.j0 k t479 (t479.size : Int) t480 bt483.1 (wrap64 (1 + t485)) bt486.1 (wrap64 (1 + t488)) bt489.1 bt493.1 bt497.1 true)) else (laws_FnGated.j0 k t479 (t479.size : Int) t480 bt483.1 (wrap64 (1 + t485)) bt486.1 (wrap64 (1 + t488)) bt489.1 bt493.1 bt497.1 true)) else (laws_FnGated.j0 k t479 (t479.size : Int) t480 bt483.1 (wrap64 (1 + t485)) bt486.1 (wrap64 (1 + t488)) bt489.1 bt493.1 bt497.1 true))) else (laws_FnGated.j0 k t479 (t479.size : Int) t480 bt483.1 (wrap64 (1 + t485)) bt486.1 (wrap64 (1 + t488)) bt489.1 bt493.1 bt497.1 true)) else (laws_FnGated.j0 k t479 (t479.size : Int) t480 bt483.1 (wrap64 (1 + t485)) bt486.1 (wrap64 (1 + t488)) bt489.1 bt493.1 bt497.1 true)) else (laws_FnGated.j0 k t479 (t479.size : Int) t480 bt483.1 (wrap64 (1 + t485)) bt486.1 (wrap64 (1 + t488)) bt489.1 bt493.1 bt497.1 true)) else (laws_FnGated.j0 k t479 (t479.size : Int) t480 bt483.1 (wrap64 (1 + t485)) bt486.1 (wrap64 (1 + t488)) bt489.1 bt493.1 bt497.1 true)) else (laws_FnGated.j0 k t479 (t479.size : Int) t480 bt483.1 (wrap64 (1 + t485)) bt486.1 (wrap64 (1 + t488)) bt489.1 bt493.1 bt497.1 true)) else (laws_FnGated.j0 k t479 (t479.size : Int) t480 bt483.1 (wrap64 (1 + t485)) bt486.1 (wrap64 (1 + t488)) bt489.1 bt493.1 bt497.1 true)))))))))) = some r := H
    have A6 := Aside0.mk A60
    clear A60
    replace H := Option.bind_eq_some_iff.mp H
    obtain ⟨⟨t481, t482⟩, A70, H⟩ := H
    replace H : ((impl_PlainGate.f t479 t480).bind fun bt483 => ((laws_b10At.f l1 0 4).bind fun t485 => ((impl_ResetWave.f t479 t480 (wrap64 (1 + t485))).bind fun bt486 => ((laws_b10At.f l1 1 6).bind fun t488 => ((impl_ShortPulses.f k t479 (wrap64 (1 + t488))).bind fun bt489 => ((impl_UpsOf.f k t479).bind fun bt493 => ((impl_PulsesOf.f t479).bind fun bt497 => (if t482 = true then (if bt483.2 = true then (if bt486.2 = true then (if bt489.2 = true then (if bt493.2 = true then (if bt497.2 = true then ((impl_IsClean.f t481 t479 t479).bind fun t501 => (if t501 = true then (if (bt486.1.size : Int) = (t479.size : Int) then (if (bt483.1.size : Int) = (t479.size : Int) then (laws_FnGated.j0 k t479 (t479.size : Int) t480 bt483.1 (wrap64 (1 + t485)) bt486.1 (wrap64 (1 + t488)) bt489.1 bt493.1 bt497.1 ((bt497.1.length : Int) != (bt493.1.length : Int))) else (laws_FnGated.j0 k t479 (t479.size : Int) t480 bt483.1 (wrap64 (1 + t485)) bt486.1 (wrap64 (1 + t488)) bt489.1 bt493.1 bt497.1 true)) else (laws_FnGated.j0 k t479 (t479.size : Int) t480 bt483.1 (wrap64 (1 + t485)) bt486.1 (wrap64 (1 + t488)) bt489.1 bt493.1 bt497.1 true)) else (laws_FnGated.j0 k t479 (t479.size : Int) t480 bt483.1 (wrap64 (1 + t485)) bt486.1 (wrap64 (1 + t488)) bt489.1 bt493.1 bt497.1 true))) else (laws_FnGated.j0 k t479 (t479.size : Int) t480 bt483.1 (wrap64 (1 + t485)) bt486.1 (wrap64 (1 + t488)) bt489.1 bt493.1 bt497.1 true)) else (laws_FnGated.j0 k t479 (t479.size : Int) t480 bt483.1 (wrap64 (1 + t485)) bt486.1 (wrap64 (1 + t488)) bt489.1 bt493.1 bt497.1 true)) else (laws_FnGated.j0 k t479 (t479.size : Int) t480 bt483.1 (wrap64 (1 + t485)) bt486.1 (wrap64 (1 + t488)) bt489.1 bt493.1 bt497.1 true)) else (laws_FnGated.j0 k t479 (t479.size : Int) t480 bt483.1 (wrap64 (1 + t485)) bt486.1 (wrap64 (1 + t488)) bt489.1 bt493.1 bt497.1 true)) else (laws_FnGated.j0 k t479 (t479.size : Int) t480 bt483.1 (wrap64 (1 + t485)) bt486.1 (wrap64 (1 + t488)) bt489.1 bt493.1 bt497.1 true)) else (laws_FnGated.j0 k t479 (t479.size : Int) t480 bt483.1 (wrap64 (1 + t485)) bt486.1 (wrap64 (1 + t488)) bt489.1 bt493.1 bt497.1 true))))))))) = some r := H
    have A7 := Aside0.mk A70
    clear A70
    replace H := Option.bind_eq_some_iff.mp H
    obtain ⟨⟨t483, t484⟩, A80, H⟩ := H
    replace H : ((laws_b10At.f l1 0 4).bind fun t485 => ((impl_ResetWave.f t479 t480 (wrap64 (1 + t485))).bind fun bt486 => ((laws_b10At.f l1 1 6).bind fun t488 => ((impl_ShortPulses.f k t479 (wrap64 (1 + t488))).bind fun bt489 => ((impl_UpsOf.f k t479).bind fun bt493 => ((impl_PulsesOf.f t479).bind fun bt497 => (if t482 = true then (if t484 = true then (if bt486.2 = true then (if bt489.2 = true then (if bt493.2 = true then (if bt497.2 = true then ((impl_IsClean.f t481 t479 t479).bind fun t501 => (if t501 = true then (if (bt486.1.size : Int) = (t479.size : Int) then (if (t483.size : Int) = (t479.size : Int) then (laws_FnGated.j0 k t479 (t479.size : Int) t480 t483 (wrap64 (1 + t485)) bt486.1 (wrap64 (1 + t488)) bt489.1 bt493.1 bt497.1 ((bt497.1.length : Int) != (bt493.1.length : Int))) else (laws_FnGated.j0 k t479 (t479.size : Int) t480 t483 (wrap64 (1 + t485)) bt486.1 (wrap64 (1 + t488)) bt489.1 bt493.1 bt497.1 true)) else (laws_FnGated.j0 k t479 (t479.size : Int) t480 t483 (wrap64 (1 + t485)) bt486.1 (wrap64 (1 + t488)) bt489.1 bt493.1 bt497.1 true)) else (laws_FnGated.j0 k t479 (t479.size : Int) t480 t483 (wrap64 (1 + t485)) bt486.1 (wrap64 (1 + t488)) bt489.1 bt493.1 bt497.1 true))) else (laws_FnGated.j0 k t479 (t479.size : Int) t480 t483 (wrap64 (1 + t485)) bt486.1 (wrap64 (1 + t488)) bt489.1 bt493.1 bt497.1 true)) else (laws_FnGated.j0 k t479 (t479.size : Int) t480 t483 (wrap64 (1 + t485)) bt486.1 (wrap64 (1 + t488)) bt489.1 bt493.1 bt497.1 true)) else (laws_FnGated.j0 k t479 (t479.size : Int) t480 t483 (wrap64 (1 + t485)) bt486.1 (wrap64 (1 + t488)) bt489.1 bt493.1 bt497.1 true)) else (laws_FnGated.j0 k t479 (t479.size : Int) t480 t483 (wrap64 (1 + t485)) bt486.1 (wrap64 (1 + t488)) bt489.1 bt493.1 bt497.1 true)) else (laws_FnGated.j0 k t479 (t479.size : Int) t480 t483 (wrap64 (1 + t485)) bt486.1 (wrap64 (1 + t488)) bt489.1 bt493.1 bt497.1 true)) else (laws_FnGated.j0 k t479 (t479.size : Int) t480 t483 (wrap64 (1 + t485)) bt486.1 (wrap64 (1 + t488)) bt489.1 bt493.1 bt497.1 true)))))))) = some r := H
    have A8 := Aside0.mk A80
    clear A80
    replace H := Option.bind_eq_some_iff.mp H
    obtain ⟨t485, A90, H⟩ := H
    replace H : ((impl_ResetWave.f t479 t480 (wrap64 (1 + t485))).bind fun bt486 => ((laws_b10At.f l1 1 6).bind fun t488 => ((impl_ShortPulses.f k t479 (wrap64 (1 + t488))).bind fun bt489 => ((impl_UpsOf.f k t479).bind fun bt493 => ((impl_PulsesOf.f t479).bind fun bt497 => (if t482 = true then (if t484 = true then (if bt486.2 = true then (if bt489.2 = true then (if bt493.2 = true then (if bt497.2 = true then ((impl_IsClean.f t481 t479 t479).bind fun t501 => (if t501 = true then (if (bt486.1.size : Int) = (t479.size : Int) then (if (t483.size : Int) = (t479.size : Int) then (laws_FnGated.j0 k t479 (t479.size : Int) t480 t483 (wrap64 (1 + t485)) bt486.1 (wrap64 (1 + t488)) bt489.1 bt493.1 bt497.1 ((bt497.1.length : Int) != (bt493.1.length : Int))) else (laws_FnGated.j0 k t479 (t479.size : Int) t480 t483 (wrap64 (1 + t485)) bt486.1 (wrap64 (1 + t488)) bt489.1 bt493.1 bt497.1 true)) else (laws_FnGated.j0 k t479 (t479.size : Int) t480 t483 (wrap64 (1 + t485)) bt486.1 (wrap64 (1 + t488)) bt489.1 bt493.1 bt497.1 true)) else (laws_FnGated.j0 k t479 (t479.size : Int) t480 t483 (wrap64 (1 + t485)) bt486.1 (wrap64 (1 + t488)) bt489.1 bt493.1 bt497.1 true))) else (laws_FnGated.j0 k t479 (t479.size : Int) t480 t483 (wrap64 (1 + t485)) bt486.1 (wrap64 (1 + t488)) bt489.1 bt493.1 bt497.1 true)) else (laws_FnGated.j0 k t479 (t479.size : Int) t480 t483 (wrap64 (1 + t485)) bt486.1 (wrap64 (1 + t488)) bt489.1 bt493.1 bt497.1 true)) else (laws_FnGated.j0 k t479 (t479.size : Int) t480 t483 (wrap64 (1 + t485)) bt486.1 (wrap64 (1 + t488)) bt489.1 bt493.1 bt497.1 true)) else (laws_FnGated.j0 k t479 (t479.size : Int) t480 t483 (wrap64 (1 + t485)) bt486.1 (wrap64 (1 + t488)) bt489.1 bt493.1 bt497.1 true)) else (laws_FnGated.j0 k t479 (t479.size : Int) t480 t483 (wrap64 (1 + t485)) bt486.1 (wrap64 (1 + t488)) bt489.1 bt493.1 bt497.1 true)) else (laws_FnGated.j0 k t479 (t479.size : Int) t480 t483 (wrap64 (1 + t485)) bt486.1 (wrap64 (1 + t488)) bt489.1 bt493.1 bt497.1 true))))))) = some r := H
    have A9 := Aside0.mk A90
    clear A90
    replace H := Option.bind_eq_some_iff.mp H
    obtain ⟨⟨t486, t487⟩, A100, H⟩ := H
    replace H : ((laws_b10At.f l1 1 6).bind fun t488 => ((impl_ShortPulses.f k t479 (wrap64 (1 + t488))).bind fun bt489 => ((impl_UpsOf.f k t479).bind fun bt493 => ((impl_PulsesOf.f t479).bind fun bt497 => (if t482 = true then (if t484 = true then (if t487 = true then (if bt489.2 = true then (if bt493.2 = true then (if bt497.2 = true then ((impl_IsClean.f t481 t479 t479).bind fun t501 => (if t501 = true then (if (t486.size : Int) = (t479.size : Int) then (if (t483.size : Int) = (t479.size : Int) then (laws_FnGated.j0 k t479 (t479.size : Int) t480 t483 (wrap64 (1 + t485)) t486 (wrap64 (1 + t488)) bt489.1 bt493.1 bt497.1 ((bt497.1.length : Int) != (bt493.1.length : Int))) else (laws_FnGated.j0 k t479 (t479.size : Int) t480 t483 (wrap64 (1 + t485)) t486 (wrap64 (1 + t488)) bt489.1 bt493.1 bt497.1 true)) else (laws_FnGated.j0 k t479 (t479.size : Int) t480 t483 (wrap64 (1 + t485)) t486 (wrap64 (1 + t488)) bt489.1 bt493.1 bt497.1 true)) else (laws_FnGated.j0 k t479 (t479.size : Int) t480 t483 (wrap64 (1 + t485)) t486 (wrap64 (1 + t488)) bt489.1 bt493.1 bt497.1 true))) else (laws_FnGated.j0 k t479 (t479.size : Int) t480 t483 (wrap64 (1 + t485)) t486 (wrap64 (1 + t488)) bt489.1 bt493.1 bt497.1 true)) else (laws_FnGated.j0 k t479 (t479.size : Int) t480 t483 (wrap64 (1 + t485)) t486 (wrap64 (1 + t488)) bt489.1 bt493.1 bt497.1 true)) else (laws_FnGated.j0 k t479 (t479.size : Int) t480 t483 (wrap64 (1 + t485)) t486 (wrap64 (1 + t488)) bt489.1 bt493.1 bt497.1 true)) else (laws_FnGated.j0 k t479 (t479.size : Int) t480 t483 (wrap64 (1 + t485)) t486 (wrap64 (1 + t488)) bt489.1 bt493.1 bt497.1 true)) else (laws_FnGated.j0 k t479 (t479.size : Int) t480 t483 (wrap64 (1 + t485)) t486 (wrap64 (1 + t488)) bt489.1 bt493.1 bt497.1 true)) else (laws_FnGated.j0 k t479 (t479.size : Int) t480 t483 (wrap64 (1 + t485)) t486 (wrap64 (1 + t488)) bt489.1 bt493.1 bt497.1 true)))))) = some r := H
    have A10 := Aside0.mk A100
    clear A100
    replace H := Option.bind_eq_some_iff.mp H
    obtain ⟨t488, A110, H⟩ := H
    replace H : ((impl_ShortPulses.f k t479 (wrap64 (1 + t488))).bind fun bt489 => ((impl_UpsOf.f k t479).bind fun bt493 => ((impl_PulsesOf.f t479).bind fun bt497 => (if t482 = true then (if t484 = true then (if t487 = true then (if bt489.2 = true then (if bt493.2 = true then (if bt497.2 = true then ((impl_IsClean.f t481 t479 t479).bind fun t501 => (if t501 = true then (if (t486.size : Int) = (t479.size : Int) then (if (t483.size : Int) = (t479.size : Int) then (laws_FnGated.j0 k t479 (t479.size : Int) t480 t483 (wrap64 (1 + t485)) t486 (wrap64 (1 + t488)) bt489.1 bt493.1 bt497.1 ((bt497.1.length : Int) != (bt493.1.length : Int))) else (laws_FnGated.j0 k t479 (t479.size : Int) t480 t483 (wrap64 (1 + t485)) t486 (wrap64 (1 + t488)) bt489.1 bt493.1 bt497.1 true)) else (laws_FnGated.j0 k t479 (t479.size : Int) t480 t483 (wrap64 (1 + t485)) t486 (wrap64 (1 + t488)) bt489.1 bt493.1 bt497.1 true)) else (laws_FnGated.j0 k t479 (t479.size : Int) t480 t483 (wrap64 (1 + t485)) t486 (wrap64 (1 + t488)) bt489.1 bt493.1 bt497.1 true))) else (laws_FnGated.j0 k t479 (t479.size : Int) t480 t483 (wrap64 (1 + t485)) t486 (wrap64 (1 + t488)) bt489.1 bt493.1 bt497.1 true)) else (laws_FnGated.j0 k t479 (t479.size : Int) t480 t483 (wrap64 (1 + t485)) t486 (wrap64 (1 + t488)) bt489.1 bt493.1 bt497.1 true)) else (laws_FnGated.j0 k t479 (t479.size : Int) t480 t483 (wrap64 (1 + t485)) t486 (wrap64 (1 + t488)) bt489.1 bt493.1 bt497.1 true)) else (laws_FnGated.j0 k t479 (t479.size : Int) t480 t483 (wrap64 (1 + t485)) t486 (wrap64 (1 + t488)) bt489.1 bt493.1 bt497.1 true)) else (laws_FnGated.j0 k t479 (t479.size : Int) t480 t483 (wrap64 (1 + t485)) t486 (wrap64 (1 + t488)) bt489.1 bt493.1 bt497.1 true)) else (laws_FnGated.j0 k t479 (t479.size : Int) t480 t483 (wrap64 (1 + t485)) t486 (wrap64 (1 + t488)) bt489.1 bt493.1 bt497.1 true))))) = some r := H
    have A11 := Aside0.mk A110
    clear A110
    replace H := Option.bind_eq_some_iff.mp H
    obtain ⟨⟨t489, t490⟩, A120, H⟩ := H
    replace H : ((impl_UpsOf.f k t479).bind fun bt493 => ((impl_PulsesOf.f t479).bind fun bt497 => (if t482 = true then (if t484 = true then (if t487 = true then (if t490 = true then (if bt493.2 = true then (if bt497.2 = true then ((impl_IsClean.f t481 t479 t479).bind fun t501 => (if t501 = true then (if (t486.size : Int) = (t479.size : Int) then (if (t483.size : Int) = (t479.size : Int) then (laws_FnGated.j0 k t479 (t479.size : Int) t480 t483 (wrap64 (1 + t485)) t486 (wrap64 (1 + t488)) t489 bt493.1 bt497.1 ((bt497.1.length : Int) != (bt493.1.length : Int))) else (laws_FnGated.j0 k t479 (t479.size : Int) t480 t483 (wrap64 (1 + t485)) t486 (wrap64 (1 + t488)) t489 bt493.1 bt497.1 true)) else (laws_FnGated.j0 k t479 (t479.size : Int) t480 t483 (wrap64 (1 + t485)) t486 (wrap64 (1 + t488)) t489 bt493.1 bt497.1 true)) else (laws_FnGated.j0 k t479 (t479.size : Int) t480 t483 (wrap64 (1 + t485)) t486 (wrap64 (1 + t488)) t489 bt493.1 bt497.1 true))) else (laws_FnGated.j0 k t479 (t479.size : Int) t480 t483 (wrap64 (1 + t485)) t486 (wrap64 (1 + t488)) t489 bt493.1 bt497.1 true)) else (laws_FnGated.j0 k t479 (t479.size : Int) t480 t483 (wrap64 (1 + t485)) t486 (wrap64 (1 + t488)) t489 bt493.1 bt497.1 true)) else (laws_FnGated.j0 k t479 (t479.size : Int) t480 t483 (wrap64 (1 + t485)) t486 (wrap64 (1 + t488)) t489 bt493.1 bt497.1 true)) else (laws_FnGated.j0 k t479 (t479.size : Int) t480 t483 (wrap64 (1 + t485)) t486 (wrap64 (1 + t488)) t489 bt493.1 bt497.1 true)) else (laws_FnGated.j0 k t479 (t479.size : Int) t480 t483 (wrap64 (1 + t485)) t486 (wrap64 (1 + t488)) t489 bt493.1 bt497.1 true)) else (laws_FnGated.j0 k t479 (t479.size : Int) t480 t483 (wrap64 (1 + t485)) t486 (wrap64 (1 + t488)) t489 bt493.1 bt497.1 true)))) = some r := H
    have A12 := Aside0.mk A120
    clear A120
    replace H := Option.bind_eq_some_iff.mp H
    obtain ⟨⟨t493, t494⟩, A130, H⟩ := H
    replace H : ((impl_PulsesOf.f t479).bind fun bt497 => (if t482 = true then (if t484 = true then (if t487 = true then (if t490 = true then (if t494 = true then (if bt497.2 = true then ((impl_IsClean.f t481 t479 t479).bind fun t501 => (if t501 = true then (if (t486.size : Int) = (t479.size : Int) then (if (t483.size : Int) = (t479.size : Int) then (laws_FnGated.j0 k t479 (t479.size : Int) t480 t483 (wrap64 (1 + t485)) t486 (wrap64 (1 + t488)) t489 t493 bt497.1 ((bt497.1.length : Int) != (t493.length : Int))) else (laws_FnGated.j0 k t479 (t479.size : Int) t480 t483 (wrap64 (1 + t485)) t486 (wrap64 (1 + t488)) t489 t493 bt497.1 true)) else (laws_FnGated.j0 k t479 (t479.size : Int) t480 t483 (wrap64 (1 + t485)) t486 (wrap64 (1 + t488)) t489 t493 bt497.1 true)) else (laws_FnGated.j0 k t479 (t479.size : Int) t480 t483 (wrap64 (1 + t485)) t486 (wrap64 (1 + t488)) t489 t493 bt497.1 true))) else (laws_FnGated.j0 k t479 (t479.size : Int) t480 t483 (wrap64 (1 + t485)) t486 (wrap64 (1 + t488)) t489 t493 bt497.1 true)) else (laws_FnGated.j0 k t479 (t479.size : Int) t480 t483 (wrap64 (1 + t485)) t486 (wrap64 (1 + t488)) t489 t493 bt497.1 true)) else (laws_FnGated.j0 k t479 (t479.size : Int) t480 t483 (wrap64 (1 + t485)) t486 (wrap64 (1 + t488)) t489 t493 bt497.1 true)) else (laws_FnGated.j0 k t479 (t479.size : Int) t480 t483 (wrap64 (1 + t485)) t486 (wrap64 (1 + t488)) t489 t493 bt497.1 true)) else (laws_FnGated.j0 k t479 (t479.size : Int) t480 t483 (wrap64 (1 + t485)) t486 (wrap64 (1 + t488)) t489 t493 bt497.1 true)) else (laws_FnGated.j0 k t479 (t479.size : Int) t480 t483 (wrap64 (1 + t485)) t486 (wrap64 (1 + t488)) t489 t493 bt497.1 true))) = some r := H
    have A13 := Aside0.mk A130
    clear A130
    replace H := Option.bind_eq_some_iff.mp H
    obtain ⟨⟨t497, t498⟩, A140, H⟩ := H
    replace H : (if t482 = true then (if t484 = true then (if t487 = true then (if t490 = true then (if t494 = true then (if t498 = true then ((impl_IsClean.f t481 t479 t479).bind fun t501 => (if t501 = true then (if (t486.size : Int) = (t479.size : Int) then (if (t483.size : Int) = (t479.size : Int) then (laws_FnGated.j0 k t479 (t479.size : Int) t480 t483 (wrap64 (1 + t485)) t486 (wrap64 (1 + t488)) t489 t493 t497 ((t497.length : Int) != (t493.length : Int))) else (laws_FnGated.j0 k t479 (t479.size : Int) t480 t483 (wrap64 (1 + t485)) t486 (wrap64 (1 + t488)) t489 t493 t497 true)) else (laws_FnGated.j0 k t479 (t479.size : Int) t480 t483 (wrap64 (1 + t485)) t486 (wrap64 (1 + t488)) t489 t493 t497 true)) else (laws_FnGated.j0 k t479 (t479.size : Int) t480 t483 (wrap64 (1 + t485)) t486 (wrap64 (1 + t488)) t489 t493 t497 true))) else (laws_FnGated.j0 k t479 (t479.size : Int) t480 t483 (wrap64 (1 + t485)) t486 (wrap64 (1 + t488)) t489 t493 t497 true)) else (laws_FnGated.j0 k t479 (t479.size : Int) t480 t483 (wrap64 (1 + t485)) t486 (wrap64 (1 + t488)) t489 t493 t497 true)) else (laws_FnGated.j0 k t479 (t479.size : Int) t480 t483 (wrap64 (1 + t485)) t486 (wrap64 (1 + t488)) t489 t493 t497 true)) else (laws_FnGated.j0 k t479 (t479.size : Int) t480 t483 (wrap64 (1 + t485)) t486 (wrap64 (1 + t488)) t489 t493 t497 true)) else (laws_FnGated.j0 k t479 (t479.size : Int) t480 t483 (wrap64 (1 + t485)) t486 (wrap64 (1 + t488)) t489 t493 t497 true)) else (laws_FnGated.j0 k t479 (t479.size : Int) t480 t483 (wrap64 (1 + t485)) t486 (wrap64 (1 + t488)) t489 t493 t497 true)) = some r := H
    have A14 := Aside0.mk A140
    clear A140
    have HC15 := Aside0.mk H
    clear H
    go_enter Tryd.func9, Tryd.ntmps9
    go_upto_region 14 with (first | (go_at_call 25; (with_reducible refine (laws_b10Long.calls _ _ l0 _ _ l1 false _ ?side1 ?side2 ?side3 ?side4 A3.out).mono ?_); (case side1 => repeat (first | exact HR0.out | (with_reducible refine Kd.C_alloc ?_ _) | (with_reducible refine Kd.C_drewN ?_ _) | (with_reducible refine Kd.C_drew ?_))); (case side2 => first | exact trivial | (exact HC0.out)); (case side3 => repeat (first | exact HR1.out | (with_reducible refine Kd.C_alloc ?_ _) | (with_reducible refine Kd.C_drewN ?_ _) | (with_reducible refine Kd.C_drew ?_))); (case side4 => first | exact trivial | (exact HC1.out)); rintro e w' ⟨rfl, ⟨nd, rfl⟩⟩; (try first | exact ⟨rfl, _, World.drewN_drewN _ _ _⟩ | exact ⟨rfl, _, Eq.trans (World.drewN_drewN _ _ _) (congrArg (World.drewN _) (Nat.add_assoc _ _ _))⟩)) | (go_at_call 31; (with_reducible refine (spec_B10Wave.calls k _ _ l0 t479 _ ?side1 ?side2 A5.out).mono ?_); (case side1 => repeat (first | exact HR0.out | (with_reducible refine Kd.C_alloc ?_ _) | (with_reducible refine Kd.C_drewN ?_ _) | (with_reducible refine Kd.C_drew ?_))); (case side2 => first | exact trivial | (exact HC0.out)); rintro e w16 ⟨rfl, hb⟩; have n0_ := Aside0.mk (below_step (by repeat (first | (with_reducible first | exact HB.out | apply below_alloc | apply pw_below_drewN | apply below_drew1) | exact HB.out)) hb); clear HB; have HB := n0_; clear n0_; (try clear hb); (try clear hb2); (try clear hk); (try clear hi)) | (go_at_call 28; (with_reducible refine (spec_B10Levels.calls k _ _ l1 (t479.size : Int) t480 _ ?side1 ?side2 A6.out).mono ?_); (case side1 => repeat (first | exact (Kd.C_below HR1.out HB.out) | (with_reducible refine Kd.C_alloc ?_ _) | (with_reducible refine Kd.C_drewN ?_ _) | (with_reducible refine Kd.C_drew ?_))); (case side2 => first | exact trivial | (exact HC1.out)); rintro e w17 ⟨rfl, hb⟩; have n0_ := Aside0.mk (below_step (by repeat (first | (with_reducible first | exact HB.out | apply below_alloc | apply pw_below_drewN | apply below_drew1) | exact HB.out)) hb); clear HB; have HB := n0_; clear n0_; (try clear hb); (try clear hb2); (try clear hk); (try clear hi)) | (go_at_call 32; (with_reducible refine (impl_GateWave.calls t479 t480 t481 t482 _ A7.out).mono ?_); rintro e w18 ⟨rfl, hb⟩; have n0_ := Aside0.mk (below_step (by repeat (first | (with_reducible first | exact HB.out | apply below_alloc | apply pw_below_drewN | apply below_drew1) | exact HB.out)) hb); clear HB; have HB := n0_; clear n0_; (try clear hb); (try clear hb2); (try clear hk); (try clear hi)) | (go_at_call 33; (with_reducible refine (impl_PlainGate.calls t479 t480 t483 t484 _ A8.out).mono ?_); rintro e w19 ⟨rfl, hb⟩; have n0_ := Aside0.mk (below_step (by repeat (first | (with_reducible first | exact HB.out | apply below_alloc | apply pw_below_drewN | apply below_drew1) | exact HB.out)) hb); clear HB; have HB := n0_; clear n0_; (try clear hb); (try clear hb2); (try clear hk); (try clear hi)) | (go_at_call 26; (with_reducible refine (laws_b10At.calls _ _ l1 0 4 t485 _ ?side1 ?side2 A9.out).mono ?_); (case side1 => repeat (first | exact (Kd.C_below HR1.out HB.out) | (with_reducible refine Kd.C_alloc ?_ _) | (with_reducible refine Kd.C_drewN ?_ _) | (with_reducible refine Kd.C_drew ?_))); (case side2 => first | exact trivial | (exact HC1.out)); rintro e w' ⟨rfl, ⟨nd, rfl⟩⟩; (try first | exact ⟨rfl, _, World.drewN_drewN _ _ _⟩ | exact ⟨rfl, _, Eq.trans (World.drewN_drewN _ _ _) (congrArg (World.drewN _) (Nat.add_assoc _ _ _))⟩)) | (go_at_call 12; (with_reducible refine (impl_ResetWave.calls t479 t480 (wrap64 (1 + t485)) t486 t487 _ A10.out).mono ?_); rintro e w20 ⟨rfl, hb⟩; have n0_ := Aside0.mk (below_step (by repeat (first | (with_reducible first | exact HB.out | apply below_alloc | apply pw_below_drewN | apply below_drew1) | exact HB.out)) hb); clear HB; have HB := n0_; clear n0_; (try clear hb); (try clear hb2); (try clear hk); (try clear hi)) | (go_at_call 26; (with_reducible refine (laws_b10At.calls _ _ l1 1 6 t488 _ ?side1 ?side2 A11.out).mono ?_); (case side1 => repeat (first | exact (Kd.C_below HR1.out HB.out) | (with_reducible refine Kd.C_alloc ?_ _) | (with_reducible refine Kd.C_drewN ?_ _) | (with_reducible refine Kd.C_drew ?_))); (case side2 => first | exact trivial | (exact HC1.out)); rintro e w' ⟨rfl, ⟨nd, rfl⟩⟩; (try first | exact ⟨rfl, _, World.drewN_drewN _ _ _⟩ | exact ⟨rfl, _, Eq.trans (World.drewN_drewN _ _ _) (congrArg (World.drewN _) (Nat.add_assoc _ _ _))⟩)) | (go_at_call 34; (with_reducible refine (impl_ShortPulses.calls k t479 (wrap64 (1 + t488)) t489 t490 _ A12.out).mono ?_); rintro e w21 ⟨v491, rfl, ho0, hb⟩; have n0_ := Aside0.mk (Kd.R_lower ho0 (below_size (by repeat (first | (with_reducible first | exact HB.out | apply below_alloc | apply pw_below_drewN | apply below_drew1) | exact HB.out)))); have n1_ := Aside0.mk (below_step (by repeat (first | (with_reducible first | exact HB.out | apply below_alloc | apply pw_below_drewN | apply below_drew1) | exact HB.out)) hb); clear HB; have HO492 := n0_; have HB := n1_; clear n0_ n1_; (try clear hb); (try clear hb2); (try clear hk); (try clear hi); (try clear ho0)) | (go_at_call 35; (with_reducible refine (impl_UpsOf.calls k t479 t493 t494 _ A13.out).mono ?_); rintro e w22 ⟨v495, rfl, ho0, hb⟩; have n0_ := Aside0.mk (Kd.R_elder' (by (with_reducible repeat (first | apply Kd.R_alloc | apply Kd.R_drewN | apply Kd.R_drew)); exact HO492.out) (Kd.R_base ho0) hb); have n1_ := Aside0.mk (Kd.R_lower (Kd.R_new' ho0 (Kd.R_lt (by (with_reducible repeat (first | apply Kd.R_alloc | apply Kd.R_drewN | apply Kd.R_drew)); exact HO492.out))) (below_size (by repeat (first | (with_reducible first | exact HB.out | apply below_alloc | apply pw_below_drewN | apply below_drew1) | exact HB.out)))); have n2_ := Aside0.mk (below_step (by repeat (first | (with_reducible first | exact HB.out | apply below_alloc | apply pw_below_drewN | apply below_drew1) | exact HB.out)) hb); clear HO492; clear HB; have HO492 := n0_; have HO496 := n1_; have HB := n2_; clear n0_ n1_ n2_; (try clear hb); (try clear hb2); (try clear hk); (try clear hi); (try clear ho0)) | (go_at_call 36; (with_reducible refine (impl_PulsesOf.calls t479 t497 t498 _ A14.out).mono ?_); rintro e w23 ⟨v499, rfl, ho0, hb⟩; have n0_ := Aside0.mk (Kd.R_elder' (by (with_reducible repeat (first | apply Kd.R_alloc | apply Kd.R_drewN | apply Kd.R_drew)); exact HO492.out) (Kd.R_base ho0) hb); have n1_ := Aside0.mk (Kd.R_elder' (by (with_reducible repeat (first | apply Kd.R_alloc | apply Kd.R_drewN | apply Kd.R_drew)); exact HO496.out) (Kd.R_base ho0) hb); have n2_ := Aside0.mk (Kd.R_lower (Kd.R_new' (Kd.R_new' ho0 (Kd.R_lt (by (with_reducible repeat (first | apply Kd.R_alloc | apply Kd.R_drewN | apply Kd.R_drew)); exact HO492.out))) (Kd.R_lt (by (with_reducible repeat (first | apply Kd.R_alloc | apply Kd.R_drewN | apply Kd.R_drew)); exact HO496.out))) (below_size (by repeat (first | (with_reducible first | exact HB.out | apply below_alloc | apply pw_below_drewN | apply below_drew1) | exact HB.out)))); have n3_ := Aside0.mk (below_step (by repeat (first | (with_reducible first | exact HB.out | apply below_alloc | apply pw_below_drewN | apply below_drew1) | exact HB.out)) hb); clear HO492; clear HO496; clear HB; have HO492 := n0_; have HO496 := n1_; have HO500 := n2_; have HB := n3_; clear n0_ n1_ n2_ n3_; (try clear hb); (try clear hb2); (try clear hk); (try clear hi); (try clear ho0)))
    repeat (go_quiet (first | (go_at_call 25; (with_reducible refine (laws_b10Long.calls _ _ l0 _ _ l1 false _ ?side1 ?side2 ?side3 ?side4 A3.out).mono ?_); (case side1 => repeat (first | exact HR0.out | (with_reducible refine Kd.C_alloc ?_ _) | (with_reducible refine Kd.C_drewN ?_ _) | (with_reducible refine Kd.C_drew ?_))); (case side2 => first | exact trivial | (exact HC0.out)); (case side3 => repeat (first | exact HR1.out | (with_reducible refine Kd.C_alloc ?_ _) | (with_reducible refine Kd.C_drewN ?_ _) | (with_reducible refine Kd.C_drew ?_))); (case side4 => first | exact trivial | (exact HC1.out)); rintro e w' ⟨rfl, ⟨nd, rfl⟩⟩; (try first | exact ⟨rfl, _, World.drewN_drewN _ _ _⟩ | exact ⟨rfl, _, Eq.trans (World.drewN_drewN _ _ _) (congrArg (World.drewN _) (Nat.add_assoc _ _ _))⟩)) | (go_at_call 31; (with_reducible refine (spec_B10Wave.calls k _ _ l0 t479 _ ?side1 ?side2 A5.out).mono ?_); (case side1 => repeat (first | exact HR0.out | (with_reducible refine Kd.C_alloc ?_ _) | (with_reducible refine Kd.C_drewN ?_ _) | (with_reducible refine Kd.C_drew ?_))); (case side2 => first | exact trivial | (exact HC0.out)); rintro e w16 ⟨rfl, hb⟩; have n0_ := Aside0.mk (below_step (by repeat (first | (with_reducible first | exact HB.out | apply below_alloc | apply pw_below_drewN | apply below_drew1) | exact HB.out)) hb); clear HB; have HB := n0_; clear n0_; (try clear hb); (try clear hb2); (try clear hk); (try clear hi)) | (go_at_call 28; (with_reducible refine (spec_B10Levels.calls k _ _ l1 (t479.size : Int) t480 _ ?side1 ?side2 A6.out).mono ?_); (case side1 => repeat (first | exact (Kd.C_below HR1.out HB.out) | (with_reducible refine Kd.C_alloc ?_ _) | (with_reducible refine Kd.C_drewN ?_ _) | (with_reducible refine Kd.C_drew ?_))); (case side2 => first | exact trivial | (exact HC1.out)); rintro e w17 ⟨rfl, hb⟩; have n0_ := Aside0.mk (below_step (by repeat (first | (with_reducible first | exact HB.out | apply below_alloc | apply pw_below_drewN | apply below_drew1) | exact HB.out)) hb); clear HB; have HB := n0_; clear n0_; (try clear hb); (try clear hb2); (try clear hk); (try clear hi)) | (go_at_call 32; (with_reducible refine (impl_GateWave.calls t479 t480 t481 t482 _ A7.out).mono ?_); rintro e w18 ⟨rfl, hb⟩; have n0_ := Aside0.mk (below_step (by repeat (first | (with_reducible first | exact HB.out | apply below_alloc | apply pw_below_drewN | apply below_drew1) | exact HB.out)) hb); clear HB; have HB := n0_; clear n0_; (try clear hb); (try clear hb2); (try clear hk); (try clear hi)) | (go_at_call 33; (with_reducible refine (impl_PlainGate.calls t479 t480 t483 t484 _ A8.out).mono ?_); rintro e w19 ⟨rfl, hb⟩; have n0_ := Aside0.mk (below_step (by repeat (first | (with_reducible first | exact HB.out | apply below_alloc | apply pw_below_drewN | apply below_drew1) | exact HB.out)) hb); clear HB; have HB := n0_; clear n0_; (try clear hb); (try clear hb2); (try clear hk); (try clear hi)) | (go_at_call 26; (with_reducible refine (laws_b10At.calls _ _ l1 0 4 t485 _ ?side1 ?side2 A9.out).mono ?_); (case side1 => repeat (first | exact (Kd.C_below HR1.out HB.out) | (with_reducible refine Kd.C_alloc ?_ _) | (with_reducible refine Kd.C_drewN ?_ _) | (with_reducible refine Kd.C_drew ?_))); (case side2 => first | exact trivial | (exact HC1.out)); rintro e w' ⟨rfl, ⟨nd, rfl⟩⟩; (try first | exact ⟨rfl, _, World.drewN_drewN _ _ _⟩ | exact ⟨rfl, _, Eq.trans (World.drewN_drewN _ _ _) (congrArg (World.drewN _) (Nat.add_assoc _ _ _))⟩)) | (go_at_call 12; (with_reducible refine (impl_ResetWave.calls t479 t480 (wrap64 (1 + t485)) t486 t487 _ A10.out).mono ?_); rintro e w20 ⟨rfl, hb⟩; have n0_ := Aside0.mk (below_step (by repeat (first | (with_reducible first | exact HB.out | apply below_alloc | apply pw_below_drewN | apply below_drew1) | exact HB.out)) hb); clear HB; have HB := n0_; clear n0_; (try clear hb); (try clear hb2); (try clear hk); (try clear hi)) | (go_at_call 26; (with_reducible refine (laws_b10At.calls _ _ l1 1 6 t488 _ ?side1 ?side2 A11.out).mono ?_); (case side1 => repeat (first | exact (Kd.C_below HR1.out HB.out) | (with_reducible refine Kd.C_alloc ?_ _) | (with_reducible refine Kd.C_drewN ?_ _) | (with_reducible refine Kd.C_drew ?_))); (case side2 => first | exact trivial | (exact HC1.out)); rintro e w' ⟨rfl, ⟨nd, rfl⟩⟩; (try first | exact ⟨rfl, _, World.drewN_drewN _ _ _⟩ | exact ⟨rfl, _, Eq.trans (World.drewN_drewN _ _ _) (congrArg (World.drewN _) (Nat.add_assoc _ _ _))⟩)) | (go_at_call 34; (with_reducible refine (impl_ShortPulses.calls k t479 (wrap64 (1 + t488)) t489 t490 _ A12.out).mono ?_); rintro e w21 ⟨v491, rfl, ho0, hb⟩; have n0_ := Aside0.mk (Kd.R_lower ho0 (below_size (by repeat (first | (with_reducible first | exact HB.out | apply below_alloc | apply pw_below_drewN | apply below_drew1) | exact HB.out)))); have n1_ := Aside0.mk (below_step (by repeat (first | (with_reducible first | exact HB.out | apply below_alloc | apply pw_below_drewN | apply below_drew1) | exact HB.out)) hb); clear HB; have HO492 := n0_; have HB := n1_; clear n0_ n1_; (try clear hb); (try clear hb2); (try clear hk); (try clear hi); (try clear ho0)) | (go_at_call 35; (with_reducible refine (impl_UpsOf.calls k t479 t493 t494 _ A13.out).mono ?_); rintro e w22 ⟨v495, rfl, ho0, hb⟩; have n0_ := Aside0.mk (Kd.R_elder' (by (with_reducible repeat (first | apply Kd.R_alloc | apply Kd.R_drewN | apply Kd.R_drew)); exact HO492.out) (Kd.R_base ho0) hb); have n1_ := Aside0.mk (Kd.R_lower (Kd.R_new' ho0 (Kd.R_lt (by (with_reducible repeat (first | apply Kd.R_alloc | apply Kd.R_drewN | apply Kd.R_drew)); exact HO492.out))) (below_size (by repeat (first | (with_reducible first | exact HB.out | apply below_alloc | apply pw_below_drewN | apply below_drew1) | exact HB.out)))); have n2_ := Aside0.mk (below_step (by repeat (first | (with_reducible first | exact HB.out | apply below_alloc | apply pw_below_drewN | apply below_drew1) | exact HB.out)) hb); clear HO492; clear HB; have HO492 := n0_; have HO496 := n1_; have HB := n2_; clear n0_ n1_ n2_; (try clear hb); (try clear hb2); (try clear hk); (try clear hi); (try clear ho0)) | (go_at_call 36; (with_reducible refine (impl_PulsesOf.calls t479 t497 t498 _ A14.out).mono ?_); rintro e w23 ⟨v499, rfl, ho0, hb⟩; have n0_ := Aside0.mk (Kd.R_elder' (by (with_reducible repeat (first | apply Kd.R_alloc | apply Kd.R_drewN | apply Kd.R_drew)); exact HO492.out) (Kd.R_base ho0) hb); have n1_ := Aside0.mk (Kd.R_elder' (by (with_reducible repeat (first | apply Kd.R_alloc | apply Kd.R_drewN | apply Kd.R_drew)); exact HO496.out) (Kd.R_base ho0) hb); have n2_ := Aside0.mk (Kd.R_lower (Kd.R_new' (Kd.R_new' ho0 (Kd.R_lt (by (with_reducible repeat (first | apply Kd.R_alloc | apply Kd.R_drewN | apply Kd.R_drew)); exact HO492.out))) (Kd.R_lt (by (with_reducible repeat (first | apply Kd.R_alloc | apply Kd.R_drewN | apply Kd.R_drew)); exact HO496.out))) (below_size (by repeat (first | (with_reducible first | exact HB.out | apply below_alloc | apply pw_below_drewN | apply below_drew1) | exact HB.out)))); have n3_ := Aside0.mk (below_step (by repeat (first | (with_reducible first | exact HB.out | apply below_alloc | apply pw_below_drewN | apply below_drew1) | exact HB.out)) hb); clear HO492; clear HO496; clear HB; have HO492 := n0_; have HO496 := n1_; have HO500 := n2_; have HB := n3_; clear n0_ n1_ n2_ n3_; (try clear hb); (try clear hb2); (try clear hk); (try clear hi); (try clear ho0))); go_upto_region 14 with (first | (go_at_call 25; (with_reducible refine (laws_b10Long.calls _ _ l0 _ _ l1 false _ ?side1 ?side2 ?side3 ?side4 A3.out).mono ?_); (case side1 => repeat (first | exact HR0.out | (with_reducible refine Kd.C_alloc ?_ _) | (with_reducible refine Kd.C_drewN ?_ _) | (with_reducible refine Kd.C_drew ?_))); (case side2 => first | exact trivial | (exact HC0.out)); (case side3 => repeat (first | exact HR1.out | (with_reducible refine Kd.C_alloc ?_ _) | (with_reducible refine Kd.C_drewN ?_ _) | (with_reducible refine Kd.C_drew ?_))); (case side4 => first | exact trivial | (exact HC1.out)); rintro e w' ⟨rfl, ⟨nd, rfl⟩⟩; (try first | exact ⟨rfl, _, World.drewN_drewN _ _ _⟩ | exact ⟨rfl, _, Eq.trans (World.drewN_drewN _ _ _) (congrArg (World.drewN _) (Nat.add_assoc _ _ _))⟩)) | (go_at_call 31; (with_reducible refine (spec_B10Wave.calls k _ _ l0 t479 _ ?side1 ?side2 A5.out).mono ?_); (case side1 => repeat (first | exact HR0.out | (with_reducible refine Kd.C_alloc ?_ _) | (with_reducible refine Kd.C_drewN ?_ _) | (with_reducible refine Kd.C_drew ?_))); (case side2 => first | exact trivial | (exact HC0.out)); rintro e w16 ⟨rfl, hb⟩; have n0_ := Aside0.mk (below_step (by repeat (first | (with_reducible first | exact HB.out | apply below_alloc | apply pw_below_drewN | apply below_drew1) | exact HB.out)) hb); clear HB; have HB := n0_; clear n0_; (try clear hb); (try clear hb2); (try clear hk); (try clear hi)) | (go_at_call 28; (with_reducible refine (spec_B10Levels.calls k _ _ l1 (t479.size : Int) t480 _ ?side1 ?side2 A6.out).mono ?_); (case side1 => repeat (first | exact (Kd.C_below HR1.out HB.out) | (with_reducible refine Kd.C_alloc ?_ _) | (with_reducible refine Kd.C_drewN ?_ _) | (with_reducible refine Kd.C_drew ?_))); (case side2 => first | exact trivial | (exact HC1.out)); rintro e w17 ⟨rfl, hb⟩; have n0_ := Aside0.mk (below_step (by repeat (first | (with_reducible first | exact HB.out | apply below_alloc | apply pw_below_drewN | apply below_drew1) | exact HB.out)) hb); clear HB; have HB := n0_; clear n0_; (try clear hb); (try clear hb2); (try clear hk); (try clear hi)) | (go_at_call 32; (with_reducible refine (impl_GateWave.calls t479 t480 t481 t482 _ A7.out).mono ?_); rintro e w18 ⟨rfl, hb⟩; have n0_ := Aside0.mk (below_step (by repeat (first | (with_reducible first | exact HB.out | apply below_alloc | apply pw_below_drewN | apply below_drew1) | exact HB.out)) hb); clear HB; have HB := n0_; clear n0_; (try clear hb); (try clear hb2); (try clear hk); (try clear hi)) | (go_at_call 33; (with_reducible refine (impl_PlainGate.calls t479 t480 t483 t484 _ A8.out).mono ?_); rintro e w19 ⟨rfl, hb⟩; have n0_ := Aside0.mk (below_step (by repeat (first | (with_reducible first | exact HB.out | apply below_alloc | apply pw_below_drewN | apply below_drew1) | exact HB.out)) hb); clear HB; have HB := n0_; clear n0_; (try clear hb); (try clear hb2); (try clear hk); (try clear hi)) | (go_at_call 26; (with_reducible refine (laws_b10At.calls _ _ l1 0 4 t485 _ ?side1 ?side2 A9.out).mono ?_); (case side1 => repeat (first | exact (Kd.C_below HR1.out HB.out) | (with_reducible refine Kd.C_alloc ?_ _) | (with_reducible refine Kd.C_drewN ?_ _) | (with_reducible refine Kd.C_drew ?_))); (case side2 => first | exact trivial | (exact HC1.out)); rintro e w' ⟨rfl, ⟨nd, rfl⟩⟩; (try first | exact ⟨rfl, _, World.drewN_drewN _ _ _⟩ | exact ⟨rfl, _, Eq.trans (World.drewN_drewN _ _ _) (congrArg (World.drewN _) (Nat.add_assoc _ _ _))⟩)) | (go_at_call 12; (with_reducible refine (impl_ResetWave.calls t479 t480 (wrap64 (1 + t485)) t486 t487 _ A10.out).mono ?_); rintro e w20 ⟨rfl, hb⟩; have n0_ := Aside0.mk (below_step (by repeat (first | (with_reducible first | exact HB.out | apply below_alloc | apply pw_below_drewN | apply below_drew1) | exact HB.out)) hb); clear HB; have HB := n0_; clear n0_; (try clear hb); (try clear hb2); (try clear hk); (try clear hi)) | (go_at_call 26; (with_reducible refine (laws_b10At.calls _ _ l1 1 6 t488 _ ?side1 ?side2 A11.out).mono ?_); (case side1 => repeat (first | exact (Kd.C_below HR1.out HB.out) | (with_reducible refine Kd.C_alloc ?_ _) | (with_reducible refine Kd.C_drewN ?_ _) | (with_reducible refine Kd.C_drew ?_))); (case side2 => first | exact trivial | (exact HC1.out)); rintro e w' ⟨rfl, ⟨nd, rfl⟩⟩; (try first | exact ⟨rfl, _, World.drewN_drewN _ _ _⟩ | exact ⟨rfl, _, Eq.trans (World.drewN_drewN _ _ _) (congrArg (World.drewN _) (Nat.add_assoc _ _ _))⟩)) | (go_at_call 34; (with_reducible refine (impl_ShortPulses.calls k t479 (wrap64 (1 + t488)) t489 t490 _ A12.out).mono ?_); rintro e w21 ⟨v491, rfl, ho0, hb⟩; have n0_ := Aside0.mk (Kd.R_lower ho0 (below_size (by repeat (first | (with_reducible first | exact HB.out | apply below_alloc | apply pw_below_drewN | apply below_drew1) | exact HB.out)))); have n1_ := Aside0.mk (below_step (by repeat (first | (with_reducible first | exact HB.out | apply below_alloc | apply pw_below_drewN | apply below_drew1) | exact HB.out)) hb); clear HB; have HO492 := n0_; have HB := n1_; clear n0_ n1_; (try clear hb); (try clear hb2); (try clear hk); (try clear hi); (try clear ho0)) | (go_at_call 35; (with_reducible refine (impl_UpsOf.calls k t479 t493 t494 _ A13.out).mono ?_); rintro e w22 ⟨v495, rfl, ho0, hb⟩; have n0_ := Aside0.mk (Kd.R_elder' (by (with_reducible repeat (first | apply Kd.R_alloc | apply Kd.R_drewN | apply Kd.R_drew)); exact HO492.out) (Kd.R_base ho0) hb); have n1_ := Aside0.mk (Kd.R_lower (Kd.R_new' ho0 (Kd.R_lt (by (with_reducible repeat (first | apply Kd.R_alloc | apply Kd.R_drewN | apply Kd.R_drew)); exact HO492.out))) (below_size (by repeat (first | (with_reducible first | exact HB.out | apply below_alloc | apply pw_below_drewN | apply below_drew1) | exact HB.out)))); have n2_ := Aside0.mk (below_step (by repeat (first | (with_reducible first | exact HB.out | apply below_alloc | apply pw_below_drewN | apply below_drew1) | exact HB.out)) hb); clear HO492; clear HB; have HO492 := n0_; have HO496 := n1_; have HB := n2_; clear n0_ n1_ n2_; (try clear hb); (try clear hb2); (try clear hk); (try clear hi); (try clear ho0)) | (go_at_call 36; (with_reducible refine (impl_PulsesOf.calls t479 t497 t498 _ A14.out).mono ?_); rintro e w23 ⟨v499, rfl, ho0, hb⟩; have n0_ := Aside0.mk (Kd.R_elder' (by (with_reducible repeat (first | apply Kd.R_alloc | apply Kd.R_drewN | apply Kd.R_drew)); exact HO492.out) (Kd.R_base ho0) hb); have n1_ := Aside0.mk (Kd.R_elder' (by (with_reducible repeat (first | apply Kd.R_alloc | apply Kd.R_drewN | apply Kd.R_drew)); exact HO496.out) (Kd.R_base ho0) hb); have n2_ := Aside0.mk (Kd.R_lower (Kd.R_new' (Kd.R_new' ho0 (Kd.R_lt (by (with_reducible repeat (first | apply Kd.R_alloc | apply Kd.R_drewN | apply Kd.R_drew)); exact HO492.out))) (Kd.R_lt (by (with_reducible repeat (first | apply Kd.R_alloc | apply Kd.R_drewN | apply Kd.R_drew)); exact HO496.out))) (below_size (by repeat (first | (with_reducible first | exact HB.out | apply below_alloc | apply pw_below_drewN | apply below_drew1) | exact HB.out)))); have n3_ := Aside0.mk (below_step (by repeat (first | (with_reducible first | exact HB.out | apply below_alloc | apply pw_below_drewN | apply below_drew1) | exact HB.out)) hb); clear HO492; clear HO496; clear HB; have HO492 := n0_; have HO496 := n1_; have HO500 := n2_; have HB := n3_; clear n0_ n1_ n2_ n3_; (try clear hb); (try clear hb2); (try clear hk); (try clear hi); (try clear ho0))))
    (try simp only [Act.put, List.setIfInBounds_toArray, List.set_cons_zero, List.set_cons_succ])
    go_cut [125] (fun v125 wc => ∃ (kq : Nat) (x125_14 : Bool), v125 = .bool x125_14 ∧ Aside0 (laws_FnGated.j0 kq t479 (t479.size : Int) t480 t483 (wrap64 (1 + t485)) t486 (wrap64 (1 + t488)) t489 t493 t497 x125_14 = some r) ∧ Aside0 (kq ≤ k) ∧ Aside0 (Kd.R (Kd.int .i64) 2 wc w.heap.size (fun k_ => some k_ ≠ (v495 : Value).ownBlock ∧ some k_ ≠ (v499 : Value).ownBlock) v491 t489) ∧ Aside0 (Kd.R (Kd.int .i64) 2 wc w.heap.size (fun k_ => some k_ ≠ (v491 : Value).ownBlock ∧ some k_ ≠ (v499 : Value).ownBlock) v495 t493) ∧ Aside0 (Kd.R (Kd.int .i64) 2 wc w.heap.size (fun k_ => some k_ ≠ (v491 : Value).ownBlock ∧ some k_ ≠ (v495 : Value).ownBlock) v499 t497) ∧ Aside0 (Below w.heap.size w wc))
    case first => as_aux_lemma =>
      have H := HC15.out
      clear HC15
      by_cases c24 : t482 = true
      · subst c24
        have H1 : (if t484 = true then (if t487 = true then (if t490 = true then (if t494 = true then (if t498 = true then ((impl_IsClean.f t481 t479 t479).bind fun t501 => (if t501 = true then (if (t486.size : Int) = (t479.size : Int) then (if (t483.size : Int) = (t479.size : Int) then (laws_FnGated.j0 k t479 (t479.size : Int) t480 t483 (wrap64 (1 + t485)) t486 (wrap64 (1 + t488)) t489 t493 t497 ((t497.length : Int) != (t493.length : Int))) else (laws_FnGated.j0 k t479 (t479.size : Int) t480 t483 (wrap64 (1 + t485)) t486 (wrap64 (1 + t488)) t489 t493 t497 true)) else (laws_FnGated.j0 k t479 (t479.size : Int) t480 t483 (wrap64 (1 + t485)) t486 (wrap64 (1 + t488)) t489 t493 t497 true)) else (laws_FnGated.j0 k t479 (t479.size : Int) t480 t483 (wrap64 (1 + t485)) t486 (wrap64 (1 + t488)) t489 t493 t497 true))) else (laws_FnGated.j0 k t479 (t479.size : Int) t480 t483 (wrap64 (1 + t485)) t486 (wrap64 (1 + t488)) t489 t493 t497 true)) else (laws_FnGated.j0 k t479 (t479.size : Int) t480 t483 (wrap64 (1 + t485)) t486 (wrap64 (1 + t488)) t489 t493 t497 true)) else (laws_FnGated.j0 k t479 (t479.size : Int) t480 t483 (wrap64 (1 + t485)) t486 (wrap64 (1 + t488)) t489 t493 t497 true)) else (laws_FnGated.j0 k t479 (t479.size : Int) t480 t483 (wrap64 (1 + t485)) t486 (wrap64 (1 + t488)) t489 t493 t497 true)) else (laws_FnGated.j0 k t479 (t479.size : Int) t480 t483 (wrap64 (1 + t485)) t486 (wrap64 (1 + t488)) t489 t493 t497 true)) = some r := by rw [if_pos rfl] at H; exact H
        clear H
        have H := H1
        clear H1
        by_cases c25 : t484 = true
        · subst c25
          have H1 : (if t487 = true then (if t490 = true then (if t494 = true then (if t498 = true then ((impl_IsClean.f t481 t479 t479).bind fun t501 => (if t501 = true then (if (t486.size : Int) = (t479.size : Int) then (if (t483.size : Int) = (t479.size : Int) then (laws_FnGated.j0 k t479 (t479.size : Int) t480 t483 (wrap64 (1 + t485)) t486 (wrap64 (1 + t488)) t489 t493 t497 ((t497.length : Int) != (t493.length : Int))) else (laws_FnGated.j0 k t479 (t479.size : Int) t480 t483 (wrap64 (1 + t485)) t486 (wrap64 (1 + t488)) t489 t493 t497 true)) else (laws_FnGated.j0 k t479 (t479.size : Int) t480 t483 (wrap64 (1 + t485)) t486 (wrap64 (1 + t488)) t489 t493 t497 true)) else (laws_FnGated.j0 k t479 (t479.size : Int) t480 t483 (wrap64 (1 + t485)) t486 (wrap64 (1 + t488)) t489 t493 t497 true))) else (laws_FnGated.j0 k t479 (t479.size : Int) t480 t483 (wrap64 (1 + t485)) t486 (wrap64 (1 + t488)) t489 t493 t497 true)) else (laws_FnGated.j0 k t479 (t479.size : Int) t480 t483 (wrap64 (1 + t485)) t486 (wrap64 (1 + t488)) t489 t493 t497 true)) else (laws_FnGated.j0 k t479 (t479.size : Int) t480 t483 (wrap64 (1 + t485)) t486 (wrap64 (1 + t488)) t489 t493 t497 true)) else (laws_FnGated.j0 k t479 (t479.size : Int) t480 t483 (wrap64 (1 + t485)) t486 (wrap64 (1 + t488)) t489 t493 t497 true)) = some r := by rw [if_pos rfl] at H; exact H
          clear H
          have H := H1
          clear H1
          by_cases c26 : t487 = true
          · subst c26
            have H1 : (if t490 = true then (if t494 = true then (if t498 = true then ((impl_IsClean.f t481 t479 t479).bind fun t501 => (if t501 = true then (if (t486.size : Int) = (t479.size : Int) then (if (t483.size : Int) = (t479.size : Int) then (laws_FnGated.j0 k t479 (t479.size : Int) t480 t483 (wrap64 (1 + t485)) t486 (wrap64 (1 + t488)) t489 t493 t497 ((t497.length : Int) != (t493.length : Int))) else (laws_FnGated.j0 k t479 (t479.size : Int) t480 t483 (wrap64 (1 + t485)) t486 (wrap64 (1 + t488)) t489 t493 t497 true)) else (laws_FnGated.j0 k t479 (t479.size : Int) t480 t483 (wrap64 (1 + t485)) t486 (wrap64 (1 + t488)) t489 t493 t497 true)) else (laws_FnGated.j0 k t479 (t479.size : Int) t480 t483 (wrap64 (1 + t485)) t486 (wrap64 (1 + t488)) t489 t493 t497 true))) else (laws_FnGated.j0 k t479 (t479.size : Int) t480 t483 (wrap64 (1 + t485)) t486 (wrap64 (1 + t488)) t489 t493 t497 true)) else (laws_FnGated.j0 k t479 (t479.size : Int) t480 t483 (wrap64 (1 + t485)) t486 (wrap64 (1 + t488)) t489 t493 t497 true)) else (laws_FnGated.j0 k t479 (t479.size : Int) t480 t483 (wrap64 (1 + t485)) t486 (wrap64 (1 + t488)) t489 t493 t497 true)) = some r := by rw [if_pos rfl] at H; exact H
            clear H
            have H := H1
            clear H1
            by_cases c27 : t490 = true
            · subst c27
              have H1 : (if t494 = true then (if t498 = true then ((impl_IsClean.f t481 t479 t479).bind fun t501 => (if t501 = true then (if (t486.size : Int) = (t479.size : Int) then (if (t483.size : Int) = (t479.size : Int) then (laws_FnGated.j0 k t479 (t479.size : Int) t480 t483 (wrap64 (1 + t485)) t486 (wrap64 (1 + t488)) t489 t493 t497 ((t497.length : Int) != (t493.length : Int))) else (laws_FnGated.j0 k t479 (t479.size : Int) t480 t483 (wrap64 (1 + t485)) t486 (wrap64 (1 + t488)) t489 t493 t497 true)) else (laws_FnGated.j0 k t479 (t479.size : Int) t480 t483 (wrap64 (1 + t485)) t486 (wrap64 (1 + t488)) t489 t493 t497 true)) else (laws_FnGated.j0 k t479 (t479.size : Int) t480 t483 (wrap64 (1 + t485)) t486 (wrap64 (1 + t488)) t489 t493 t497 true))) else (laws_FnGated.j0 k t479 (t479.size : Int) t480 t483 (wrap64 (1 + t485)) t486 (wrap64 (1 + t488)) t489 t493 t497 true)) else (laws_FnGated.j0 k t479 (t479.size : Int) t480 t483 (wrap64 (1 + t485)) t486 (wrap64 (1 + t488)) t489 t493 t497 true)) = some r := by rw [if_pos rfl] at H; exact H
              clear H
              have H := H1
              clear H1
              by_cases c28 : t494 = true
              · subst c28
                have H1 : (if t498 = true then ((impl_IsClean.f t481 t479 t479).bind fun t501 => (if t501 = true then (if (t486.size : Int) = (t479.size : Int) then (if (t483.size : Int) = (t479.size : Int) then (laws_FnGated.j0 k t479 (t479.size : Int) t480 t483 (wrap64 (1 + t485)) t486 (wrap64 (1 + t488)) t489 t493 t497 ((t497.length : Int) != (t493.length : Int))) else (laws_FnGated.j0 k t479 (t479.size : Int) t480 t483 (wrap64 (1 + t485)) t486 (wrap64 (1 + t488)) t489 t493 t497 true)) else (laws_FnGated.j0 k t479 (t479.size : Int) t480 t483 (wrap64 (1 + t485)) t486 (wrap64 (1 + t488)) t489 t493 t497 true)) else (laws_FnGated.j0 k t479 (t479.size : Int) t480 t483 (wrap64 (1 + t485)) t486 (wrap64 (1 + t488)) t489 t493 t497 true))) else (laws_FnGated.j0 k t479 (t479.size : Int) t480 t483 (wrap64 (1 + t485)) t486 (wrap64 (1 + t488)) t489 t493 t497 true)) = some r := by rw [if_pos rfl] at H; exact H
                clear H
                have H := H1
                clear H1
                by_cases c29 : t498 = true
                · subst c29
                  have H1 : ((impl_IsClean.f t481 t479 t479).bind fun t501 => (if t501 = true then (if (t486.size : Int) = (t479.size : Int) then (if (t483.size : Int) = (t479.size : Int) then (laws_FnGated.j0 k t479 (t479.size : Int) t480 t483 (wrap64 (1 + t485)) t486 (wrap64 (1 + t488)) t489 t493 t497 ((t497.length : Int) != (t493.length : Int))) else (laws_FnGated.j0 k t479 (t479.size : Int) t480 t483 (wrap64 (1 + t485)) t486 (wrap64 (1 + t488)) t489 t493 t497 true)) else (laws_FnGated.j0 k t479 (t479.size : Int) t480 t483 (wrap64 (1 + t485)) t486 (wrap64 (1 + t488)) t489 t493 t497 true)) else (laws_FnGated.j0 k t479 (t479.size : Int) t480 t483 (wrap64 (1 + t485)) t486 (wrap64 (1 + t488)) t489 t493 t497 true))) = some r := by rw [if_pos rfl] at H; exact H
                  clear H
                  have H := H1
                  clear H1
                  replace H := Option.bind_eq_some_iff.mp H
                  obtain ⟨t501, A300, H⟩ := H
                  replace H : (if t501 = true then (if (t486.size : Int) = (t479.size : Int) then (if (t483.size : Int) = (t479.size : Int) then (laws_FnGated.j0 k t479 (t479.size : Int) t480 t483 (wrap64 (1 + t485)) t486 (wrap64 (1 + t488)) t489 t493 t497 ((t497.length : Int) != (t493.length : Int))) else (laws_FnGated.j0 k t479 (t479.size : Int) t480 t483 (wrap64 (1 + t485)) t486 (wrap64 (1 + t488)) t489 t493 t497 true)) else (laws_FnGated.j0 k t479 (t479.size : Int) t480 t483 (wrap64 (1 + t485)) t486 (wrap64 (1 + t488)) t489 t493 t497 true)) else (laws_FnGated.j0 k t479 (t479.size : Int) t480 t483 (wrap64 (1 + t485)) t486 (wrap64 (1 + t488)) t489 t493 t497 true)) = some r := H
                  have A30 := Aside0.mk A300
                  clear A300
                  by_cases c31 : t501 = true
                  · subst c31
                    have H1 : (if (t486.size : Int) = (t479.size : Int) then (if (t483.size : Int) = (t479.size : Int) then (laws_FnGated.j0 k t479 (t479.size : Int) t480 t483 (wrap64 (1 + t485)) t486 (wrap64 (1 + t488)) t489 t493 t497 ((t497.length : Int) != (t493.length : Int))) else (laws_FnGated.j0 k t479 (t479.size : Int) t480 t483 (wrap64 (1 + t485)) t486 (wrap64 (1 + t488)) t489 t493 t497 true)) else (laws_FnGated.j0 k t479 (t479.size : Int) t480 t483 (wrap64 (1 + t485)) t486 (wrap64 (1 + t488)) t489 t493 t497 true)) = some r := by rw [if_pos rfl] at H; exact H
                    clear H
                    have H := H1
                    clear H1
                    by_cases c32 : (t486.size : Int) = (t479.size : Int)
                    · rw [if_pos c32] at H
                      have c32b0 : ((t486.size : Int) == (t479.size : Int)) = true := beq_iff_eq.mpr c32
                      have c32b1 : ((t486.size : Int) != (t479.size : Int)) = false := bne_eq_false_iff_eq.mpr c32
                      have c32b2 : (t486.size == t479.size) = true := by first | simpa using c32 | (simp at c32 ⊢; omega)
                      clear c32
                      (first | rw [c32b0] | (simp only [i64_w, i32_w]; rw [c32b0]) | skip)
                      by_cases c33 : (t483.size : Int) = (t479.size : Int)
                      · rw [if_pos c33] at H
                        have c33b0 : ((t483.size : Int) == (t479.size : Int)) = true := beq_iff_eq.mpr c33
                        have c33b1 : ((t483.size : Int) != (t479.size : Int)) = false := bne_eq_false_iff_eq.mpr c33
                        have c33b2 : (t483.size == t479.size) = true := by first | simpa using c33 | (simp at c33 ⊢; omega)
                        clear c33
                        have H' := Aside0.mk H
                        clear H
                        go_wp2_with (first | (go_at_call 14; (with_reducible refine (impl_IsClean.calls t481 t479 t479 true _ A30.out).mono ?_); rintro e w34 ⟨rfl, hb⟩; have n0_ := Aside0.mk (Kd.R_below (by (with_reducible repeat (first | apply Kd.R_alloc | apply Kd.R_drewN | apply Kd.R_drew)); exact HO492.out) hb); have n1_ := Aside0.mk (Kd.R_below (by (with_reducible repeat (first | apply Kd.R_alloc | apply Kd.R_drewN | apply Kd.R_drew)); exact HO496.out) hb); have n2_ := Aside0.mk (Kd.R_below (by (with_reducible repeat (first | apply Kd.R_alloc | apply Kd.R_drewN | apply Kd.R_drew)); exact HO500.out) hb); have n3_ := Aside0.mk (below_step (by repeat (first | (with_reducible first | exact HB.out | apply below_alloc | apply pw_below_drewN | apply below_drew1) | exact HB.out)) hb); clear HO492; clear HO496; clear HO500; clear HB; have HO492 := n0_; have HO496 := n1_; have HO500 := n2_; have HB := n3_; clear n0_ n1_ n2_ n3_; (try clear hb); (try clear hb2); (try clear hk); (try clear hi); obtain ⟨Ao35, co35, eo35⟩ := Kd.R_slice HO500.out; subst eo35; obtain ⟨Ao36, co36, eo36⟩ := Kd.R_slice HO496.out; subst eo36))
                        repeat (go_quiet (first | (go_at_call 14; (with_reducible refine (impl_IsClean.calls t481 t479 t479 true _ A30.out).mono ?_); rintro e w34 ⟨rfl, hb⟩; have n0_ := Aside0.mk (Kd.R_below (by (with_reducible repeat (first | apply Kd.R_alloc | apply Kd.R_drewN | apply Kd.R_drew)); exact HO492.out) hb); have n1_ := Aside0.mk (Kd.R_below (by (with_reducible repeat (first | apply Kd.R_alloc | apply Kd.R_drewN | apply Kd.R_drew)); exact HO496.out) hb); have n2_ := Aside0.mk (Kd.R_below (by (with_reducible repeat (first | apply Kd.R_alloc | apply Kd.R_drewN | apply Kd.R_drew)); exact HO500.out) hb); have n3_ := Aside0.mk (below_step (by repeat (first | (with_reducible first | exact HB.out | apply below_alloc | apply pw_below_drewN | apply below_drew1) | exact HB.out)) hb); clear HO492; clear HO496; clear HO500; clear HB; have HO492 := n0_; have HO496 := n1_; have HO500 := n2_; have HB := n3_; clear n0_ n1_ n2_ n3_; (try clear hb); (try clear hb2); (try clear hk); (try clear hi); obtain ⟨Ao35, co35, eo35⟩ := Kd.R_slice HO500.out; subst eo35; obtain ⟨Ao36, co36, eo36⟩ := Kd.R_slice HO496.out; subst eo36)); try go_wp2_with (first | (go_at_call 14; (with_reducible refine (impl_IsClean.calls t481 t479 t479 true _ A30.out).mono ?_); rintro e w34 ⟨rfl, hb⟩; have n0_ := Aside0.mk (Kd.R_below (by (with_reducible repeat (first | apply Kd.R_alloc | apply Kd.R_drewN | apply Kd.R_drew)); exact HO492.out) hb); have n1_ := Aside0.mk (Kd.R_below (by (with_reducible repeat (first | apply Kd.R_alloc | apply Kd.R_drewN | apply Kd.R_drew)); exact HO496.out) hb); have n2_ := Aside0.mk (Kd.R_below (by (with_reducible repeat (first | apply Kd.R_alloc | apply Kd.R_drewN | apply Kd.R_drew)); exact HO500.out) hb); have n3_ := Aside0.mk (below_step (by repeat (first | (with_reducible first | exact HB.out | apply below_alloc | apply pw_below_drewN | apply below_drew1) | exact HB.out)) hb); clear HO492; clear HO496; clear HO500; clear HB; have HO492 := n0_; have HO496 := n1_; have HO500 := n2_; have HB := n3_; clear n0_ n1_ n2_ n3_; (try clear hb); (try clear hb2); (try clear hk); (try clear hi); obtain ⟨Ao35, co35, eo35⟩ := Kd.R_slice HO500.out; subst eo35; obtain ⟨Ao36, co36, eo36⟩ := Kd.R_slice HO496.out; subst eo36)))
                        go_meet
                        case rel => exact ⟨_, (((t497.length : Int) != (t493.length : Int))), (by first | rfl | (simp; done) | (simp [*]; done)), H', ⟨by first | omega | exact Nat.le_refl _⟩, ⟨by (with_reducible repeat (first | apply Kd.R_alloc | apply Kd.R_drewN | apply Kd.R_drew)); exact Kd.R_mono HO492.out (fun _ hk => ⟨hk.1.2, hk.2⟩)⟩, ⟨by (with_reducible repeat (first | apply Kd.R_alloc | apply Kd.R_drewN | apply Kd.R_drew)); exact Kd.R_mono HO496.out (fun _ hk => ⟨hk.1.2, hk.2⟩)⟩, ⟨by (with_reducible repeat (first | apply Kd.R_alloc | apply Kd.R_drewN | apply Kd.R_drew)); exact Kd.R_mono HO500.out (fun _ hk => ⟨hk.1.2, hk.2⟩)⟩, ⟨by repeat (first | (with_reducible first | exact HB.out | apply below_alloc | apply pw_below_drewN | apply below_drew1) | exact HB.out)⟩⟩
                      · rw [if_neg c33] at H
                        have c33b0 : ((t483.size : Int) == (t479.size : Int)) = false := beq_eq_false_iff_ne.mpr c33
                        have c33b1 : ((t483.size : Int) != (t479.size : Int)) = true := bne_iff_ne.mpr c33
                        have c33b2 : (t483.size == t479.size) = false := by first | simpa using c33 | (simp at c33 ⊢; omega)
                        exact absurd HRT.out (by rw [laws_FnGated.j0_no _ _ _ _ _ _ _ _ _ _ _ _ H]; decide)
                    · rw [if_neg c32] at H
                      have c32b0 : ((t486.size : Int) == (t479.size : Int)) = false := beq_eq_false_iff_ne.mpr c32
                      have c32b1 : ((t486.size : Int) != (t479.size : Int)) = true := bne_iff_ne.mpr c32
                      have c32b2 : (t486.size == t479.size) = false := by first | simpa using c32 | (simp at c32 ⊢; omega)
                      (first | rw [c32b0] | (simp only [i64_w, i32_w]; rw [c32b0]) | skip)
                      exact absurd HRT.out (by rw [laws_FnGated.j0_no _ _ _ _ _ _ _ _ _ _ _ _ H]; decide)
                  · replace c31 := Bool.eq_false_iff.mpr c31
                    subst c31
                    have H1 : (laws_FnGated.j0 k t479 (t479.size : Int) t480 t483 (wrap64 (1 + t485)) t486 (wrap64 (1 + t488)) t489 t493 t497 true) = some r := by rw [if_neg (show ¬ (false = true) by decide)] at H; exact H
                    exact absurd HRT.out (by rw [laws_FnGated.j0_no _ _ _ _ _ _ _ _ _ _ _ _ H1]; decide)
                · replace c29 := Bool.eq_false_iff.mpr c29
                  subst c29
                  have H1 : (laws_FnGated.j0 k t479 (t479.size : Int) t480 t483 (wrap64 (1 + t485)) t486 (wrap64 (1 + t488)) t489 t493 t497 true) = some r := by rw [if_neg (show ¬ (false = true) by decide)] at H; exact H
                  exact absurd HRT.out (by rw [laws_FnGated.j0_no _ _ _ _ _ _ _ _ _ _ _ _ H1]; decide)
              · replace c28 := Bool.eq_false_iff.mpr c28
                subst c28
                have H1 : (laws_FnGated.j0 k t479 (t479.size : Int) t480 t483 (wrap64 (1 + t485)) t486 (wrap64 (1 + t488)) t489 t493 t497 true) = some r := by rw [if_neg (show ¬ (false = true) by decide)] at H; exact H
                exact absurd HRT.out (by rw [laws_FnGated.j0_no _ _ _ _ _ _ _ _ _ _ _ _ H1]; decide)
            · replace c27 := Bool.eq_false_iff.mpr c27
              subst c27
              have H1 : (laws_FnGated.j0 k t479 (t479.size : Int) t480 t483 (wrap64 (1 + t485)) t486 (wrap64 (1 + t488)) t489 t493 t497 true) = some r := by rw [if_neg (show ¬ (false = true) by decide)] at H; exact H
              exact absurd HRT.out (by rw [laws_FnGated.j0_no _ _ _ _ _ _ _ _ _ _ _ _ H1]; decide)
          · replace c26 := Bool.eq_false_iff.mpr c26
            subst c26
            have H1 : (laws_FnGated.j0 k t479 (t479.size : Int) t480 t483 (wrap64 (1 + t485)) t486 (wrap64 (1 + t488)) t489 t493 t497 true) = some r := by rw [if_neg (show ¬ (false = true) by decide)] at H; exact H
            exact absurd HRT.out (by rw [laws_FnGated.j0_no _ _ _ _ _ _ _ _ _ _ _ _ H1]; decide)
        · replace c25 := Bool.eq_false_iff.mpr c25
          subst c25
          have H1 : (laws_FnGated.j0 k t479 (t479.size : Int) t480 t483 (wrap64 (1 + t485)) t486 (wrap64 (1 + t488)) t489 t493 t497 true) = some r := by rw [if_neg (show ¬ (false = true) by decide)] at H; exact H
          exact absurd HRT.out (by rw [laws_FnGated.j0_no _ _ _ _ _ _ _ _ _ _ _ _ H1]; decide)
      · replace c24 := Bool.eq_false_iff.mpr c24
        subst c24
        have H1 : (laws_FnGated.j0 k t479 (t479.size : Int) t480 t483 (wrap64 (1 + t485)) t486 (wrap64 (1 + t488)) t489 t493 t497 true) = some r := by rw [if_neg (show ¬ (false = true) by decide)] at H; exact H
        exact absurd HRT.out (by rw [laws_FnGated.j0_no _ _ _ _ _ _ _ _ _ _ _ _ H1]; decide)
    case rest => as_aux_lemma =>
      clear HC15
      try clear c1
      try clear c2
      try clear p2
      try clear c3
      try clear c4
      try clear p6
      try clear c9
      try clear c24
      try clear c25
      try clear c26
      try clear c27
      try clear c28
      try clear c29
      try clear c31
      try clear c32
      try clear c32b0
      try clear c32b1
      try clear c32b2
      try clear c33
      try clear c33b0
      try clear c33b1
      try clear c33b2
      obtain ⟨kq, x125_14, rfl, HA, HJ14, HO_16, HO_18, HO_20, HB⟩ := hcut
      cases kq with
      | zero => exact absurd HA.out (by simp [laws_FnGated.j0])
      | succ kj14 =>
        have H := HA.out
        clear HA
        simp only [laws_FnGated.j0] at H
        by_cases c40 : x125_14 = true
        · subst c40
          have H1 : (some false) = some r := by rw [if_pos rfl] at H; exact H
          clear H
          have H := H1
          clear H1
          exact absurd (Option.some.inj (H.trans (congrArg some HRT.out))) (by decide)
        · replace c40 := Bool.eq_false_iff.mpr c40
          subst c40
          have H1 : (laws_FnGated.l0 kj14 t479 (t479.size : Int) t480 t483 (wrap64 (1 + t485)) t486 (wrap64 (1 + t488)) t489 t493 t497 (-1) 0) = some r := by rw [if_neg (show ¬ (false = true) by decide)] at H; exact H
          clear H
          have H := H1
          clear H1
          have H' := Aside0.mk H
          clear H
          go_wp2
          repeat (go_quiet (fail); try go_wp2)
          go_loopg [22, 23] kj14 (fun kq v22 v23 w' => ∃ (x22_2 : Int) (x23_2 : Int), v22 = .int .i64 x22_2 ∧ v23 = .int .i64 x23_2 ∧ Aside0 (laws_FnGated.l0 kq t479 (t479.size : Int) t480 t483 (wrap64 (1 + t485)) t486 (wrap64 (1 + t488)) t489 t493 t497 x22_2 x23_2 = some r) ∧ Aside0 (kq ≤ kj14) ∧ Aside0 (Kd.R (Kd.int .i64) 2 w' w.heap.size (fun k_ => some k_ ≠ (v495 : Value).ownBlock ∧ some k_ ≠ (v499 : Value).ownBlock) v491 t489) ∧ Aside0 (Kd.R (Kd.int .i64) 2 w' w.heap.size (fun k_ => some k_ ≠ (v491 : Value).ownBlock ∧ some k_ ≠ (v499 : Value).ownBlock) v495 t493) ∧ Aside0 (Kd.R (Kd.int .i64) 2 w' w.heap.size (fun k_ => some k_ ≠ (v491 : Value).ownBlock ∧ some k_ ≠ (v495 : Value).ownBlock) v499 t497) ∧ Aside0 (Below w.heap.size w w'))
          case atStart => exact ⟨((-1)), (0), (by first | rfl | (simp; done) | (simp [*]; done)), (by first | rfl | (simp; done) | (simp [*]; done)), H', ⟨Nat.le_refl _⟩, ⟨by (with_reducible repeat (first | apply Kd.R_alloc | apply Kd.R_drewN | apply Kd.R_drew)); exact HO_16.out⟩, ⟨by (with_reducible repeat (first | apply Kd.R_alloc | apply Kd.R_drewN | apply Kd.R_drew)); exact HO_18.out⟩, ⟨by (with_reducible repeat (first | apply Kd.R_alloc | apply Kd.R_drewN | apply Kd.R_drew)); exact HO_20.out⟩, ⟨by repeat (first | (with_reducible first | exact HB.out | apply below_alloc | apply pw_below_drewN | apply below_drew1) | exact HB.out)⟩⟩
          case round => as_aux_lemma =>
            clear H'
            try clear c1
            try clear c2
            try clear p2
            try clear c3
            try clear c4
            try clear p6
            try clear c9
            try clear c24
            try clear c25
            try clear c26
            try clear c27
            try clear c28
            try clear c29
            try clear c31
            try clear c32
            try clear c32b0
            try clear c32b1
            try clear c32b2
            try clear c33
            try clear c33b0
            try clear c33b1
            try clear c33b2
            try clear c40
            try clear p2
            try clear p6
            obtain ⟨x22_2, x23_2, rfl, rfl, HA, HK2, HO_16, HO_18, HO_20, HB⟩ := hrel
            cases gk with
            | zero => exact absurd HA.out (by simp [laws_FnGated.l0])
            | succ k2 =>
              have H := HA.out
              clear HA
              simp only [laws_FnGated.l0] at H
              by_cases c41 : x23_2 < (t479.size : Int)
              · rw [if_pos c41] at H
                have c41b0 : decide (x23_2 < (t479.size : Int)) = true := decide_eq_true c41
                clear c41
                have HC42 := Aside0.mk H
                clear H
                go_upto_region 20 with (fail)
                repeat (go_quiet (fail); go_upto_region 20 with (fail))
                go_cut [145] (fun v145 wc => ∃ (kq : Nat) (x145_41 : Bool), v145 = .bool x145_41 ∧ Aside0 (laws_FnGated.j2 kq t479 (t479.size : Int) t480 t483 (wrap64 (1 + t485)) t486 (wrap64 (1 + t488)) t489 t493 t497 x22_2 x23_2 x145_41 = some r) ∧ Aside0 (kq ≤ k2) ∧ Aside0 (Kd.R (Kd.int .i64) 2 wc w.heap.size (fun k_ => some k_ ≠ (v495 : Value).ownBlock ∧ some k_ ≠ (v499 : Value).ownBlock) v491 t489) ∧ Aside0 (Kd.R (Kd.int .i64) 2 wc w.heap.size (fun k_ => some k_ ≠ (v491 : Value).ownBlock ∧ some k_ ≠ (v499 : Value).ownBlock) v495 t493) ∧ Aside0 (Kd.R (Kd.int .i64) 2 wc w.heap.size (fun k_ => some k_ ≠ (v491 : Value).ownBlock ∧ some k_ ≠ (v495 : Value).ownBlock) v499 t497) ∧ Aside0 (Below w.heap.size w wc))
                case first => as_aux_lemma =>
                  have H := HC42.out
                  clear HC42
                  by_cases c43 : 0 ≤ x23_2
                  · rw [if_pos c43] at H
                    have c43b0 : decide (0 ≤ x23_2) = true := decide_eq_true c43
                    clear c43
                    (first | rw [c43b0] | (simp only [i64_w, i32_w]; rw [c43b0]) | skip)
                    by_cases c44 : x23_2 < (t483.size : Int)
                    · rw [if_pos c44] at H
                      have c44b0 : decide (x23_2 < (t483.size : Int)) = true := decide_eq_true c44
                      clear c44
                      by_cases c46 : x23_2 < (t479.size : Int)
                      · rw [if_pos c46] at H
                        have c46b0 : decide (x23_2 < (t479.size : Int)) = true := decide_eq_true c46
                        clear c46
                        by_cases c48 : (bt t479 x23_2) = 49
                        · rw [if_pos c48] at H
                          have c48b0 : ((bt t479 x23_2) == 49) = true := beq_iff_eq.mpr c48
                          have c48b1 : ((bt t479 x23_2) != 49) = false := bne_eq_false_iff_eq.mpr c48
                          clear c48
                          by_cases c49 : x23_2 < (t480.size : Int)
                          · rw [if_pos c49] at H
                            have c49b0 : decide (x23_2 < (t480.size : Int)) = true := decide_eq_true c49
                            clear c49
                            have H' := Aside0.mk H
                            clear H
                            have p45 : 0 ≤ (x23_2 : Int) := of_decide_eq_true (by first | (with_reducible assumption) | assumption)
                            have q45 : x23_2 < (t483.size : Int) := of_decide_eq_true (by first | (with_reducible assumption) | assumption)
                            have hx45 := bt_at t483 x23_2
                            replace p45 := eq_true p45
                            replace q45 := eq_true q45
                            have p47 : 0 ≤ (x23_2 : Int) := of_decide_eq_true (by first | (with_reducible assumption) | assumption)
                            have q47 : x23_2 < (t479.size : Int) := of_decide_eq_true (by first | (with_reducible assumption) | assumption)
                            have hx47 := bt_at t479 x23_2
                            replace p47 := eq_true p47
                            replace q47 := eq_true q47
                            have p50 : 0 ≤ (x23_2 : Int) := of_decide_eq_true (by first | (with_reducible assumption) | assumption)
                            have q50 : x23_2 < (t480.size : Int) := of_decide_eq_true (by first | (with_reducible assumption) | assumption)
                            have hx50 := bt_at t480 x23_2
                            replace p50 := eq_true p50
                            replace q50 := eq_true q50
                            go_wp2
                            repeat (go_quiet (fail); try go_wp2)
                            go_meet
                            case rel => exact ⟨_, ((((bt t483 x23_2) == 49) != ((bt t480 x23_2) == 49))), (by first | rfl | (simp; done) | (simp [*]; done)), H', ⟨by have := HJ14.out; have := HK2.out; first | omega | exact Nat.le_refl _⟩, ⟨by (with_reducible repeat (first | apply Kd.R_alloc | apply Kd.R_drewN | apply Kd.R_drew)); exact HO_16.out⟩, ⟨by (with_reducible repeat (first | apply Kd.R_alloc | apply Kd.R_drewN | apply Kd.R_drew)); exact HO_18.out⟩, ⟨by (with_reducible repeat (first | apply Kd.R_alloc | apply Kd.R_drewN | apply Kd.R_drew)); exact HO_20.out⟩, ⟨by repeat (first | (with_reducible first | exact HB.out | apply below_alloc | apply pw_below_drewN | apply below_drew1) | exact HB.out)⟩⟩
                          · rw [if_neg c49] at H
                            exact absurd H (by simp)
                        · rw [if_neg c48] at H
                          have c48b0 : ((bt t479 x23_2) == 49) = false := beq_eq_false_iff_ne.mpr c48
                          have c48b1 : ((bt t479 x23_2) != 49) = true := bne_iff_ne.mpr c48
                          have H' := Aside0.mk H
                          clear H
                          have p45 : 0 ≤ (x23_2 : Int) := of_decide_eq_true (by first | (with_reducible assumption) | assumption)
                          have q45 : x23_2 < (t483.size : Int) := of_decide_eq_true (by first | (with_reducible assumption) | assumption)
                          have hx45 := bt_at t483 x23_2
                          replace p45 := eq_true p45
                          replace q45 := eq_true q45
                          have p47 : 0 ≤ (x23_2 : Int) := of_decide_eq_true (by first | (with_reducible assumption) | assumption)
                          have q47 : x23_2 < (t479.size : Int) := of_decide_eq_true (by first | (with_reducible assumption) | assumption)
                          have hx47 := bt_at t479 x23_2
                          replace p47 := eq_true p47
                          replace q47 := eq_true q47
                          go_wp2
                          repeat (go_quiet (fail); try go_wp2)
                          go_meet
                          case rel => exact ⟨_, ((((bt t483 x23_2) == 49) != false)), (by first | rfl | (simp; done) | (simp [*]; done)), H', ⟨by have := HJ14.out; have := HK2.out; first | omega | exact Nat.le_refl _⟩, ⟨by (with_reducible repeat (first | apply Kd.R_alloc | apply Kd.R_drewN | apply Kd.R_drew)); exact HO_16.out⟩, ⟨by (with_reducible repeat (first | apply Kd.R_alloc | apply Kd.R_drewN | apply Kd.R_drew)); exact HO_18.out⟩, ⟨by (with_reducible repeat (first | apply Kd.R_alloc | apply Kd.R_drewN | apply Kd.R_drew)); exact HO_20.out⟩, ⟨by repeat (first | (with_reducible first | exact HB.out | apply below_alloc | apply pw_below_drewN | apply below_drew1) | exact HB.out)⟩⟩
                      · rw [if_neg c46] at H
                        exact absurd H (by simp)
                    · rw [if_neg c44] at H
                      exact absurd H (by simp)
                  · rw [if_neg c43] at H
                    exact absurd H (by simp)
                case rest => as_aux_lemma =>
                  clear HC42
                  try clear c1
                  try clear c2
                  try clear p2
                  try clear c3
                  try clear c4
                  try clear p4
                  try clear q4
                  try clear hx4
                  try clear p5
                  try clear q5
                  try clear hx5
                  try clear p6
                  try clear c9
                  try clear c24
                  try clear c25
                  try clear c26
                  try clear c27
                  try clear c28
                  try clear c29
                  try clear c31
                  try clear c32
                  try clear c32b0
                  try clear c32b1
                  try clear c32b2
                  try clear c33
                  try clear c33b0
                  try clear c33b1
                  try clear c33b2
                  try clear c40
                  try clear c41
                  try clear c41b0
                  try clear c43
                  try clear c43b0
                  try clear c44
                  try clear c44b0
                  try clear p45
                  try clear q45
                  try clear hx45
                  try clear c46
                  try clear c46b0
                  try clear p47
                  try clear q47
                  try clear hx47
                  try clear c48
                  try clear c48b0
                  try clear c48b1
                  try clear c49
                  try clear c49b0
                  try clear p50
                  try clear q50
                  try clear hx50
                  try clear p2
                  try clear p45
                  try clear p47
                  try clear p50
                  try clear p6
                  try clear q45
                  try clear q47
                  try clear q50
                  obtain ⟨kq, x145_41, rfl, HA, HJ41, HO_16, HO_18, HO_20, HB⟩ := hcut
                  cases kq with
                  | zero => exact absurd HA.out (by simp [laws_FnGated.j2])
                  | succ kj41 =>
                    have H := HA.out
                    clear HA
                    simp only [laws_FnGated.j2] at H
                    by_cases c51 : x145_41 = true
                    · subst c51
                      have H1 : (some false) = some r := by rw [if_pos rfl] at H; exact H
                      clear H
                      have H := H1
                      clear H1
                      exact absurd (Option.some.inj (H.trans (congrArg some HRT.out))) (by decide)
                    · replace c51 := Bool.eq_false_iff.mpr c51
                      subst c51
                      have H1 : (if 0 ≤ x23_2 then (if x23_2 < (t480.size : Int) then (if (bt t480 x23_2) = 49 then (laws_FnGated.j3 kj41 t479 (t479.size : Int) t480 t483 (wrap64 (1 + t485)) t486 (wrap64 (1 + t488)) t489 t493 t497 x23_2 x23_2) else (laws_FnGated.j3 kj41 t479 (t479.size : Int) t480 t483 (wrap64 (1 + t485)) t486 (wrap64 (1 + t488)) t489 t493 t497 x22_2 x23_2)) else (none)) else (none)) = some r := by rw [if_neg (show ¬ (false = true) by decide)] at H; exact H
                      clear H
                      have H := H1
                      clear H1
                      by_cases c52 : 0 ≤ x23_2
                      · rw [if_pos c52] at H
                        have c52b0 : decide (0 ≤ x23_2) = true := decide_eq_true c52
                        clear c52
                        by_cases c53 : x23_2 < (t480.size : Int)
                        · rw [if_pos c53] at H
                          have c53b0 : decide (x23_2 < (t480.size : Int)) = true := decide_eq_true c53
                          clear c53
                          have HC55 := Aside0.mk H
                          clear H
                          have p54 : 0 ≤ (x23_2 : Int) := of_decide_eq_true (by first | (with_reducible assumption) | assumption)
                          have q54 : x23_2 < (t480.size : Int) := of_decide_eq_true (by first | (with_reducible assumption) | assumption)
                          have hx54 := bt_at t480 x23_2
                          replace p54 := eq_true p54
                          replace q54 := eq_true q54
                          go_upto_if 149 with (fail)
                          repeat (go_quiet (fail); go_upto_if 149 with (fail))
                          go_cut [22] (fun v22 wc => ∃ (kq : Nat) (x22_54 : Int), v22 = .int .i64 x22_54 ∧ Aside0 (laws_FnGated.j3 kq t479 (t479.size : Int) t480 t483 (wrap64 (1 + t485)) t486 (wrap64 (1 + t488)) t489 t493 t497 x22_54 x23_2 = some r) ∧ Aside0 (kq ≤ kj41) ∧ Aside0 (Kd.R (Kd.int .i64) 2 wc w.heap.size (fun k_ => some k_ ≠ (v495 : Value).ownBlock ∧ some k_ ≠ (v499 : Value).ownBlock) v491 t489) ∧ Aside0 (Kd.R (Kd.int .i64) 2 wc w.heap.size (fun k_ => some k_ ≠ (v491 : Value).ownBlock ∧ some k_ ≠ (v499 : Value).ownBlock) v495 t493) ∧ Aside0 (Kd.R (Kd.int .i64) 2 wc w.heap.size (fun k_ => some k_ ≠ (v491 : Value).ownBlock ∧ some k_ ≠ (v495 : Value).ownBlock) v499 t497) ∧ Aside0 (Below w.heap.size w wc))
                          case first => as_aux_lemma =>
                            have H := HC55.out
                            clear HC55
                            by_cases c56 : (bt t480 x23_2) = 49
                            · rw [if_pos c56] at H
                              have c56b0 : ((bt t480 x23_2) == 49) = true := beq_iff_eq.mpr c56
                              have c56b1 : ((bt t480 x23_2) != 49) = false := bne_eq_false_iff_eq.mpr c56
                              clear c56
                              (first | rw [c56b0] | (simp only [i64_w, i32_w]; rw [c56b0]) | skip)
                              have H' := Aside0.mk H
                              clear H
                              go_wp2
                              repeat (go_quiet (fail); try go_wp2)
                              go_meet
                              case rel => exact ⟨_, (x23_2), (by first | rfl | (simp; done) | (simp [*]; done)), H', ⟨by have := HJ14.out; have := HK2.out; have := HJ41.out; first | omega | exact Nat.le_refl _⟩, ⟨by (with_reducible repeat (first | apply Kd.R_alloc | apply Kd.R_drewN | apply Kd.R_drew)); exact HO_16.out⟩, ⟨by (with_reducible repeat (first | apply Kd.R_alloc | apply Kd.R_drewN | apply Kd.R_drew)); exact HO_18.out⟩, ⟨by (with_reducible repeat (first | apply Kd.R_alloc | apply Kd.R_drewN | apply Kd.R_drew)); exact HO_20.out⟩, ⟨by repeat (first | (with_reducible first | exact HB.out | apply below_alloc | apply pw_below_drewN | apply below_drew1) | exact HB.out)⟩⟩
                            · rw [if_neg c56] at H
                              have c56b0 : ((bt t480 x23_2) == 49) = false := beq_eq_false_iff_ne.mpr c56
                              have c56b1 : ((bt t480 x23_2) != 49) = true := bne_iff_ne.mpr c56
                              (first | rw [c56b0] | (simp only [i64_w, i32_w]; rw [c56b0]) | skip)
                              have H' := Aside0.mk H
                              clear H
                              go_wp2
                              repeat (go_quiet (fail); try go_wp2)
                              go_meet
                              case rel => exact ⟨_, (x22_2), (by first | rfl | (simp; done) | (simp [*]; done)), H', ⟨by have := HJ14.out; have := HK2.out; have := HJ41.out; first | omega | exact Nat.le_refl _⟩, ⟨by (with_reducible repeat (first | apply Kd.R_alloc | apply Kd.R_drewN | apply Kd.R_drew)); exact HO_16.out⟩, ⟨by (with_reducible repeat (first | apply Kd.R_alloc | apply Kd.R_drewN | apply Kd.R_drew)); exact HO_18.out⟩, ⟨by (with_reducible repeat (first | apply Kd.R_alloc | apply Kd.R_drewN | apply Kd.R_drew)); exact HO_20.out⟩, ⟨by repeat (first | (with_reducible first | exact HB.out | apply below_alloc | apply pw_below_drewN | apply below_drew1) | exact HB.out)⟩⟩
                          case rest => as_aux_lemma =>
                            clear HC55
                            try clear c1
                            try clear c2
                            try clear p2
                            try clear c3
                            try clear c4
                            try clear p4
                            try clear q4
                            try clear hx4
                            try clear c5
                            try clear p5
                            try clear q5
                            try clear hx5
                            try clear p6
                            try clear c9
                            try clear c24
                            try clear c25
                            try clear c26
                            try clear c27
                            try clear c28
                            try clear c29
                            try clear c31
                            try clear c32
                            try clear c32b0
                            try clear c32b1
                            try clear c32b2
                            try clear c33
                            try clear c33b0
                            try clear c33b1
                            try clear c33b2
                            try clear c40
                            try clear c41
                            try clear c41b0
                            try clear c43
                            try clear c43b0
                            try clear c44
                            try clear c44b0
                            try clear p45
                            try clear q45
                            try clear hx45
                            try clear c46
                            try clear c46b0
                            try clear p47
                            try clear q47
                            try clear hx47
                            try clear c48
                            try clear c48b0
                            try clear c48b1
                            try clear c49
                            try clear c49b0
                            try clear p50
                            try clear q50
                            try clear hx50
                            try clear c51
                            try clear c52
                            try clear c52b0
                            try clear c53
                            try clear c53b0
                            try clear p54
                            try clear q54
                            try clear hx54
                            try clear c56
                            try clear c56b0
                            try clear c56b1
                            try clear p2
                            try clear p4
                            try clear p45
                            try clear p47
                            try clear p5
                            try clear p50
                            try clear p54
                            try clear p6
                            try clear q4
                            try clear q45
                            try clear q47
                            try clear q5
                            try clear q50
                            try clear q54
                            obtain ⟨kq, x22_54, rfl, HA, HJ54, HO_16, HO_18, HO_20, HB⟩ := hcut
                            cases kq with
                            | zero => exact absurd HA.out (by simp [laws_FnGated.j3])
                            | succ kj54 =>
                              have H := HA.out
                              clear HA
                              simp only [laws_FnGated.j3] at H
                              replace H := Option.bind_eq_some_iff.mp H
                              obtain ⟨t502, A570, H⟩ := H
                              replace H : ((laws_b10Ups.f kj54 t479 (wrap64 (x22_54 + 1))).bind fun t503 => (if 0 ≤ x23_2 then (if x23_2 < (t486.size : Int) then (if x23_2 < (t480.size : Int) then (if (bt t480 x23_2) = 49 then (if (((bt t486 x23_2) == 49) != true) = true then (some false) else (laws_FnGated.l0 kj54 t479 (t479.size : Int) t480 t483 (wrap64 (1 + t485)) t486 (wrap64 (1 + t488)) t489 t493 t497 x22_54 (wrap64 (x23_2 + 1)))) else (if (((bt t486 x23_2) == 49) != (decide ((wrap64 (t502 - t503)) < (wrap64 (1 + t485))))) = true then (some false) else (laws_FnGated.l0 kj54 t479 (t479.size : Int) t480 t483 (wrap64 (1 + t485)) t486 (wrap64 (1 + t488)) t489 t493 t497 x22_54 (wrap64 (x23_2 + 1))))) else (none)) else (none)) else (none))) = some r := H
                              have A57 := Aside0.mk A570
                              clear A570
                              replace H := Option.bind_eq_some_iff.mp H
                              obtain ⟨t503, A580, H⟩ := H
                              replace H : (if 0 ≤ x23_2 then (if x23_2 < (t486.size : Int) then (if x23_2 < (t480.size : Int) then (if (bt t480 x23_2) = 49 then (if (((bt t486 x23_2) == 49) != true) = true then (some false) else (laws_FnGated.l0 kj54 t479 (t479.size : Int) t480 t483 (wrap64 (1 + t485)) t486 (wrap64 (1 + t488)) t489 t493 t497 x22_54 (wrap64 (x23_2 + 1)))) else (if (((bt t486 x23_2) == 49) != (decide ((wrap64 (t502 - t503)) < (wrap64 (1 + t485))))) = true then (some false) else (laws_FnGated.l0 kj54 t479 (t479.size : Int) t480 t483 (wrap64 (1 + t485)) t486 (wrap64 (1 + t488)) t489 t493 t497 x22_54 (wrap64 (x23_2 + 1))))) else (none)) else (none)) else (none)) = some r := H
                              have A58 := Aside0.mk A580
                              clear A580
                              by_cases c59 : 0 ≤ x23_2
                              · rw [if_pos c59] at H
                                have c59b0 : decide (0 ≤ x23_2) = true := decide_eq_true c59
                                clear c59
                                by_cases c60 : x23_2 < (t486.size : Int)
                                · rw [if_pos c60] at H
                                  have c60b0 : decide (x23_2 < (t486.size : Int)) = true := decide_eq_true c60
                                  clear c60
                                  by_cases c62 : x23_2 < (t480.size : Int)
                                  · rw [if_pos c62] at H
                                    have c62b0 : decide (x23_2 < (t480.size : Int)) = true := decide_eq_true c62
                                    clear c62
                                    by_cases c64 : (bt t480 x23_2) = 49
                                    · rw [if_pos c64] at H
                                      have c64b0 : ((bt t480 x23_2) == 49) = true := beq_iff_eq.mpr c64
                                      have c64b1 : ((bt t480 x23_2) != 49) = false := bne_eq_false_iff_eq.mpr c64
                                      clear c64
                                      by_cases c65 : (((bt t486 x23_2) == 49) != true) = true
                                      · rw [if_pos c65] at H
                                        have c65b0 : (((bt t486 x23_2) == 49) != true) = true := c65
                                        (try (have c65b1 : decide (((bt t486 x23_2) == 49) = true) = false := by simpa using c65))
                                        (try (have c65b2 : (((bt t486 x23_2) == 49) == true) = false := by simpa using c65))
                                        (try (have c65b3 : ¬ (((bt t486 x23_2) == 49) = true) := by simpa using c65))
                                        clear c65
                                        exact absurd (Option.some.inj (H.trans (congrArg some HRT.out))) (by decide)
                                      · rw [if_neg c65] at H
                                        have c65b0 : (((bt t486 x23_2) == 49) != true) = false := by simpa using c65
                                        (try (have c65b1 : decide (((bt t486 x23_2) == 49) = true) = true := by simpa using c65))
                                        (try (have c65b2 : (((bt t486 x23_2) == 49) == true) = true := by simpa using c65))
                                        clear c65
                                        have H' := Aside0.mk H
                                        clear H
                                        go_wp2_with (first | (go_at_call 37; (with_reducible refine (laws_b10Ups.calls kj54 t479 (wrap64 (x23_2 + 1)) t502 _ A57.out).mono ?_); rintro e w' ⟨rfl, ⟨nd, rfl⟩⟩; (try first | exact ⟨rfl, _, World.drewN_drewN _ _ _⟩ | exact ⟨rfl, _, Eq.trans (World.drewN_drewN _ _ _) (congrArg (World.drewN _) (Nat.add_assoc _ _ _))⟩)) | (go_at_call 37; (with_reducible refine (laws_b10Ups.calls kj54 t479 (wrap64 (x22_54 + 1)) t503 _ A58.out).mono ?_); rintro e w' ⟨rfl, ⟨nd, rfl⟩⟩; (try first | exact ⟨rfl, _, World.drewN_drewN _ _ _⟩ | exact ⟨rfl, _, Eq.trans (World.drewN_drewN _ _ _) (congrArg (World.drewN _) (Nat.add_assoc _ _ _))⟩); have p61 : 0 ≤ (x23_2 : Int) := of_decide_eq_true (by first | (with_reducible assumption) | assumption); have q61 : x23_2 < (t486.size : Int) := of_decide_eq_true (by first | (with_reducible assumption) | assumption); have hx61 := bt_at t486 x23_2; replace p61 := eq_true p61; replace q61 := eq_true q61; have p63 : 0 ≤ (x23_2 : Int) := of_decide_eq_true (by first | (with_reducible assumption) | assumption); have q63 : x23_2 < (t480.size : Int) := of_decide_eq_true (by first | (with_reducible assumption) | assumption); have hx63 := bt_at t480 x23_2; replace p63 := eq_true p63; replace q63 := eq_true q63))
                                        repeat (go_quiet (first | (go_at_call 37; (with_reducible refine (laws_b10Ups.calls kj54 t479 (wrap64 (x23_2 + 1)) t502 _ A57.out).mono ?_); rintro e w' ⟨rfl, ⟨nd, rfl⟩⟩; (try first | exact ⟨rfl, _, World.drewN_drewN _ _ _⟩ | exact ⟨rfl, _, Eq.trans (World.drewN_drewN _ _ _) (congrArg (World.drewN _) (Nat.add_assoc _ _ _))⟩)) | (go_at_call 37; (with_reducible refine (laws_b10Ups.calls kj54 t479 (wrap64 (x22_54 + 1)) t503 _ A58.out).mono ?_); rintro e w' ⟨rfl, ⟨nd, rfl⟩⟩; (try first | exact ⟨rfl, _, World.drewN_drewN _ _ _⟩ | exact ⟨rfl, _, Eq.trans (World.drewN_drewN _ _ _) (congrArg (World.drewN _) (Nat.add_assoc _ _ _))⟩); have p61 : 0 ≤ (x23_2 : Int) := of_decide_eq_true (by first | (with_reducible assumption) | assumption); have q61 : x23_2 < (t486.size : Int) := of_decide_eq_true (by first | (with_reducible assumption) | assumption); have hx61 := bt_at t486 x23_2; replace p61 := eq_true p61; replace q61 := eq_true q61; have p63 : 0 ≤ (x23_2 : Int) := of_decide_eq_true (by first | (with_reducible assumption) | assumption); have q63 : x23_2 < (t480.size : Int) := of_decide_eq_true (by first | (with_reducible assumption) | assumption); have hx63 := bt_at t480 x23_2; replace p63 := eq_true p63; replace q63 := eq_true q63)); try go_wp2_with (first | (go_at_call 37; (with_reducible refine (laws_b10Ups.calls kj54 t479 (wrap64 (x23_2 + 1)) t502 _ A57.out).mono ?_); rintro e w' ⟨rfl, ⟨nd, rfl⟩⟩; (try first | exact ⟨rfl, _, World.drewN_drewN _ _ _⟩ | exact ⟨rfl, _, Eq.trans (World.drewN_drewN _ _ _) (congrArg (World.drewN _) (Nat.add_assoc _ _ _))⟩)) | (go_at_call 37; (with_reducible refine (laws_b10Ups.calls kj54 t479 (wrap64 (x22_54 + 1)) t503 _ A58.out).mono ?_); rintro e w' ⟨rfl, ⟨nd, rfl⟩⟩; (try first | exact ⟨rfl, _, World.drewN_drewN _ _ _⟩ | exact ⟨rfl, _, Eq.trans (World.drewN_drewN _ _ _) (congrArg (World.drewN _) (Nat.add_assoc _ _ _))⟩); have p61 : 0 ≤ (x23_2 : Int) := of_decide_eq_true (by first | (with_reducible assumption) | assumption); have q61 : x23_2 < (t486.size : Int) := of_decide_eq_true (by first | (with_reducible assumption) | assumption); have hx61 := bt_at t486 x23_2; replace p61 := eq_true p61; replace q61 := eq_true q61; have p63 : 0 ≤ (x23_2 : Int) := of_decide_eq_true (by first | (with_reducible assumption) | assumption); have q63 : x23_2 < (t480.size : Int) := of_decide_eq_true (by first | (with_reducible assumption) | assumption); have hx63 := bt_at t480 x23_2; replace p63 := eq_true p63; replace q63 := eq_true q63)))
                                        go_roundg kj54
                                        case measure => have := HJ14.out; have := HK2.out; have := HJ41.out; have := HJ54.out; omega
                                        case rel => exact ⟨(x22_54), (wrap64 (x23_2 + 1)), (by first | rfl | (simp; done) | (simp [*]; done)), (by first | rfl | (simp; done) | (simp [*]; done)), H', ⟨by have := HJ14.out; have := HK2.out; have := HJ41.out; have := HJ54.out; omega⟩, ⟨by (with_reducible repeat (first | apply Kd.R_alloc | apply Kd.R_drewN | apply Kd.R_drew)); exact HO_16.out⟩, ⟨by (with_reducible repeat (first | apply Kd.R_alloc | apply Kd.R_drewN | apply Kd.R_drew)); exact HO_18.out⟩, ⟨by (with_reducible repeat (first | apply Kd.R_alloc | apply Kd.R_drewN | apply Kd.R_drew)); exact HO_20.out⟩, ⟨by repeat (first | (with_reducible first | exact HB.out | apply below_alloc | apply pw_below_drewN | apply below_drew1) | exact HB.out)⟩⟩
                                    · rw [if_neg c64] at H
                                      have c64b0 : ((bt t480 x23_2) == 49) = false := beq_eq_false_iff_ne.mpr c64
                                      have c64b1 : ((bt t480 x23_2) != 49) = true := bne_iff_ne.mpr c64
                                      by_cases c66 : (((bt t486 x23_2) == 49) != (decide ((wrap64 (t502 - t503)) < (wrap64 (1 + t485))))) = true
                                      · rw [if_pos c66] at H
                                        have c66b0 : (((bt t486 x23_2) == 49) != (decide ((wrap64 (t502 - t503)) < (wrap64 (1 + t485))))) = true := c66
                                        (try (have c66b1 : decide (((bt t486 x23_2) == 49) = (decide ((wrap64 (t502 - t503)) < (wrap64 (1 + t485))))) = false := by simpa using c66))
                                        (try (have c66b2 : (((bt t486 x23_2) == 49) == (decide ((wrap64 (t502 - t503)) < (wrap64 (1 + t485))))) = false := by simpa using c66))
                                        (try (have c66b3 : ¬ (((bt t486 x23_2) == 49) = (decide ((wrap64 (t502 - t503)) < (wrap64 (1 + t485))))) := by simpa using c66))
                                        clear c66
                                        exact absurd (Option.some.inj (H.trans (congrArg some HRT.out))) (by decide)
                                      · rw [if_neg c66] at H
                                        have c66b0 : (((bt t486 x23_2) == 49) != (decide ((wrap64 (t502 - t503)) < (wrap64 (1 + t485))))) = false := by simpa using c66
                                        (try (have c66b1 : decide (((bt t486 x23_2) == 49) = (decide ((wrap64 (t502 - t503)) < (wrap64 (1 + t485))))) = true := by simpa using c66))
                                        (try (have c66b2 : (((bt t486 x23_2) == 49) == (decide ((wrap64 (t502 - t503)) < (wrap64 (1 + t485))))) = true := by simpa using c66))
                                        clear c66
                                        have H' := Aside0.mk H
                                        clear H
                                        go_wp2_with (first | (go_at_call 37; (with_reducible refine (laws_b10Ups.calls kj54 t479 (wrap64 (x23_2 + 1)) t502 _ A57.out).mono ?_); rintro e w' ⟨rfl, ⟨nd, rfl⟩⟩; (try first | exact ⟨rfl, _, World.drewN_drewN _ _ _⟩ | exact ⟨rfl, _, Eq.trans (World.drewN_drewN _ _ _) (congrArg (World.drewN _) (Nat.add_assoc _ _ _))⟩)) | (go_at_call 37; (with_reducible refine (laws_b10Ups.calls kj54 t479 (wrap64 (x22_54 + 1)) t503 _ A58.out).mono ?_); rintro e w' ⟨rfl, ⟨nd, rfl⟩⟩; (try first | exact ⟨rfl, _, World.drewN_drewN _ _ _⟩ | exact ⟨rfl, _, Eq.trans (World.drewN_drewN _ _ _) (congrArg (World.drewN _) (Nat.add_assoc _ _ _))⟩); have p61 : 0 ≤ (x23_2 : Int) := of_decide_eq_true (by first | (with_reducible assumption) | assumption); have q61 : x23_2 < (t486.size : Int) := of_decide_eq_true (by first | (with_reducible assumption) | assumption); have hx61 := bt_at t486 x23_2; replace p61 := eq_true p61; replace q61 := eq_true q61; have p63 : 0 ≤ (x23_2 : Int) := of_decide_eq_true (by first | (with_reducible assumption) | assumption); have q63 : x23_2 < (t480.size : Int) := of_decide_eq_true (by first | (with_reducible assumption) | assumption); have hx63 := bt_at t480 x23_2; replace p63 := eq_true p63; replace q63 := eq_true q63))
                                        repeat (go_quiet (first | (go_at_call 37; (with_reducible refine (laws_b10Ups.calls kj54 t479 (wrap64 (x23_2 + 1)) t502 _ A57.out).mono ?_); rintro e w' ⟨rfl, ⟨nd, rfl⟩⟩; (try first | exact ⟨rfl, _, World.drewN_drewN _ _ _⟩ | exact ⟨rfl, _, Eq.trans (World.drewN_drewN _ _ _) (congrArg (World.drewN _) (Nat.add_assoc _ _ _))⟩)) | (go_at_call 37; (with_reducible refine (laws_b10Ups.calls kj54 t479 (wrap64 (x22_54 + 1)) t503 _ A58.out).mono ?_); rintro e w' ⟨rfl, ⟨nd, rfl⟩⟩; (try first | exact ⟨rfl, _, World.drewN_drewN _ _ _⟩ | exact ⟨rfl, _, Eq.trans (World.drewN_drewN _ _ _) (congrArg (World.drewN _) (Nat.add_assoc _ _ _))⟩); have p61 : 0 ≤ (x23_2 : Int) := of_decide_eq_true (by first | (with_reducible assumption) | assumption); have q61 : x23_2 < (t486.size : Int) := of_decide_eq_true (by first | (with_reducible assumption) | assumption); have hx61 := bt_at t486 x23_2; replace p61 := eq_true p61; replace q61 := eq_true q61; have p63 : 0 ≤ (x23_2 : Int) := of_decide_eq_true (by first | (with_reducible assumption) | assumption); have q63 : x23_2 < (t480.size : Int) := of_decide_eq_true (by first | (with_reducible assumption) | assumption); have hx63 := bt_at t480 x23_2; replace p63 := eq_true p63; replace q63 := eq_true q63)); try go_wp2_with (first | (go_at_call 37; (with_reducible refine (laws_b10Ups.calls kj54 t479 (wrap64 (x23_2 + 1)) t502 _ A57.out).mono ?_); rintro e w' ⟨rfl, ⟨nd, rfl⟩⟩; (try first | exact ⟨rfl, _, World.drewN_drewN _ _ _⟩ | exact ⟨rfl, _, Eq.trans (World.drewN_drewN _ _ _) (congrArg (World.drewN _) (Nat.add_assoc _ _ _))⟩)) | (go_at_call 37; (with_reducible refine (laws_b10Ups.calls kj54 t479 (wrap64 (x22_54 + 1)) t503 _ A58.out).mono ?_); rintro e w' ⟨rfl, ⟨nd, rfl⟩⟩; (try first | exact ⟨rfl, _, World.drewN_drewN _ _ _⟩ | exact ⟨rfl, _, Eq.trans (World.drewN_drewN _ _ _) (congrArg (World.drewN _) (Nat.add_assoc _ _ _))⟩); have p61 : 0 ≤ (x23_2 : Int) := of_decide_eq_true (by first | (with_reducible assumption) | assumption); have q61 : x23_2 < (t486.size : Int) := of_decide_eq_true (by first | (with_reducible assumption) | assumption); have hx61 := bt_at t486 x23_2; replace p61 := eq_true p61; replace q61 := eq_true q61; have p63 : 0 ≤ (x23_2 : Int) := of_decide_eq_true (by first | (with_reducible assumption) | assumption); have q63 : x23_2 < (t480.size : Int) := of_decide_eq_true (by first | (with_reducible assumption) | assumption); have hx63 := bt_at t480 x23_2; replace p63 := eq_true p63; replace q63 := eq_true q63)))
                                        go_roundg kj54
                                        case measure => have := HJ14.out; have := HK2.out; have := HJ41.out; have := HJ54.out; omega
                                        case rel => exact ⟨(x22_54), (wrap64 (x23_2 + 1)), (by first | rfl | (simp; done) | (simp [*]; done)), (by first | rfl | (simp; done) | (simp [*]; done)), H', ⟨by have := HJ14.out; have := HK2.out; have := HJ41.out; have := HJ54.out; omega⟩, ⟨by (with_reducible repeat (first | apply Kd.R_alloc | apply Kd.R_drewN | apply Kd.R_drew)); exact HO_16.out⟩, ⟨by (with_reducible repeat (first | apply Kd.R_alloc | apply Kd.R_drewN | apply Kd.R_drew)); exact HO_18.out⟩, ⟨by (with_reducible repeat (first | apply Kd.R_alloc | apply Kd.R_drewN | apply Kd.R_drew)); exact HO_20.out⟩, ⟨by repeat (first | (with_reducible first | exact HB.out | apply below_alloc | apply pw_below_drewN | apply below_drew1) | exact HB.out)⟩⟩
                                  · rw [if_neg c62] at H
                                    exact absurd H (by simp)
                                · rw [if_neg c60] at H
                                  exact absurd H (by simp)
                              · rw [if_neg c59] at H
                                exact absurd H (by simp)
                        · rw [if_neg c53] at H
                          exact absurd H (by simp)
                      · rw [if_neg c52] at H
                        exact absurd H (by simp)
              · rw [if_neg c41] at H
                have c41b0 : decide (x23_2 < (t479.size : Int)) = false := decide_eq_false c41
                clear c41
                have H' := Aside0.mk H
                clear H
                go_wp2
                repeat (go_quiet (fail); try go_wp2)
                go_loopg [25, 26] k2 (fun kq v25 v26 w' => ∃ (x25_3 : Int) (x26_3 : Int), v25 = .int .i64 x25_3 ∧ v26 = .int .i64 x26_3 ∧ Aside0 (laws_FnGated.l1 kq (t479.size : Int) (wrap64 (1 + t488)) t489 t493 t497 x25_3 x26_3 = some r) ∧ Aside0 (kq ≤ k2) ∧ Aside0 (Kd.R (Kd.int .i64) 2 w' w.heap.size (fun k_ => some k_ ≠ (v495 : Value).ownBlock ∧ some k_ ≠ (v499 : Value).ownBlock) v491 t489) ∧ Aside0 (Kd.R (Kd.int .i64) 2 w' w.heap.size (fun k_ => some k_ ≠ (v491 : Value).ownBlock ∧ some k_ ≠ (v499 : Value).ownBlock) v495 t493) ∧ Aside0 (Kd.R (Kd.int .i64) 2 w' w.heap.size (fun k_ => some k_ ≠ (v491 : Value).ownBlock ∧ some k_ ≠ (v495 : Value).ownBlock) v499 t497) ∧ Aside0 (Below w.heap.size w w'))
                case atStart => exact ⟨(0), (0), (by first | rfl | (simp; done) | (simp [*]; done)), (by first | rfl | (simp; done) | (simp [*]; done)), H', ⟨Nat.le_refl _⟩, ⟨by (with_reducible repeat (first | apply Kd.R_alloc | apply Kd.R_drewN | apply Kd.R_drew)); exact HO_16.out⟩, ⟨by (with_reducible repeat (first | apply Kd.R_alloc | apply Kd.R_drewN | apply Kd.R_drew)); exact HO_18.out⟩, ⟨by (with_reducible repeat (first | apply Kd.R_alloc | apply Kd.R_drewN | apply Kd.R_drew)); exact HO_20.out⟩, ⟨by repeat (first | (with_reducible first | exact HB.out | apply below_alloc | apply pw_below_drewN | apply below_drew1) | exact HB.out)⟩⟩
                case round => as_aux_lemma =>
                  clear H'
                  try clear c1
                  try clear c2
                  try clear p2
                  try clear c3
                  try clear c4
                  try clear p4
                  try clear q4
                  try clear hx4
                  try clear c5
                  try clear p5
                  try clear q5
                  try clear hx5
                  try clear c6
                  try clear p6
                  try clear q6
                  try clear hx6
                  try clear c9
                  try clear c24
                  try clear c25
                  try clear c26
                  try clear c27
                  try clear c28
                  try clear c29
                  try clear c31
                  try clear c32
                  try clear c32b0
                  try clear c32b1
                  try clear c32b2
                  try clear c33
                  try clear c33b0
                  try clear c33b1
                  try clear c33b2
                  try clear c40
                  try clear c41
                  try clear c41b0
                  try clear c43
                  try clear c43b0
                  try clear c44
                  try clear c44b0
                  try clear p45
                  try clear q45
                  try clear hx45
                  try clear c46
                  try clear c46b0
                  try clear p47
                  try clear q47
                  try clear hx47
                  try clear c48
                  try clear c48b0
                  try clear c48b1
                  try clear c49
                  try clear c49b0
                  try clear p50
                  try clear q50
                  try clear hx50
                  try clear c51
                  try clear c52
                  try clear c52b0
                  try clear c53
                  try clear c53b0
                  try clear p54
                  try clear q54
                  try clear hx54
                  try clear c56
                  try clear c56b0
                  try clear c56b1
                  try clear c59
                  try clear c59b0
                  try clear c60
                  try clear c60b0
                  try clear p61
                  try clear q61
                  try clear hx61
                  try clear c62
                  try clear c62b0
                  try clear p63
                  try clear q63
                  try clear hx63
                  try clear c64
                  try clear c64b0
                  try clear c64b1
                  try clear p64
                  try clear c65
                  try clear c65b0
                  try clear c65b1
                  try clear c65b2
                  try clear c66
                  try clear c66b0
                  try clear c66b1
                  try clear c66b2
                  try clear p2
                  try clear p4
                  try clear p45
                  try clear p47
                  try clear p5
                  try clear p50
                  try clear p54
                  try clear p6
                  try clear p61
                  try clear p63
                  try clear q4
                  try clear q45
                  try clear q47
                  try clear q5
                  try clear q50
                  try clear q54
                  try clear q61
                  try clear q63
                  obtain ⟨x25_3, x26_3, rfl, rfl, HA, HK3, HO_16, HO_18, HO_20, HB⟩ := hrel
                  cases gk with
                  | zero => exact absurd HA.out (by simp [laws_FnGated.l1])
                  | succ k3 =>
                    have H := HA.out
                    clear HA
                    simp only [laws_FnGated.l1] at H
                    by_cases c67 : x26_3 < (t493.length : Int)
                    · rw [if_pos c67] at H
                      have c67b0 : decide (x26_3 < (t493.length : Int)) = true := decide_eq_true c67
                      clear c67
                      have HC68 := Aside0.mk H
                      clear H
                      obtain ⟨Ao69, co69, eo69⟩ := Kd.R_slice HO_18.out
                      subst eo69
                      go_upto_region 31 with (fail)
                      repeat (go_quiet (fail); go_upto_region 31 with (fail))
                      go_cut [198] (fun v198 wc => ∃ (kq : Nat) (x198_67 : Bool), v198 = .bool x198_67 ∧ Aside0 (laws_FnGated.j5 kq (t479.size : Int) (wrap64 (1 + t488)) t489 t493 t497 x25_3 x26_3 x198_67 = some r) ∧ Aside0 (kq ≤ k3) ∧ Aside0 (Kd.R (Kd.int .i64) 2 wc w.heap.size (fun k_ => some k_ ≠ ((.slice Ao69 t493.length co69) : Value).ownBlock ∧ some k_ ≠ (v499 : Value).ownBlock) v491 t489) ∧ Aside0 (Kd.R (Kd.int .i64) 2 wc w.heap.size (fun k_ => some k_ ≠ (v491 : Value).ownBlock ∧ some k_ ≠ (v499 : Value).ownBlock) (.slice Ao69 t493.length co69) t493) ∧ Aside0 (Kd.R (Kd.int .i64) 2 wc w.heap.size (fun k_ => some k_ ≠ (v491 : Value).ownBlock ∧ some k_ ≠ ((.slice Ao69 t493.length co69) : Value).ownBlock) v499 t497) ∧ Aside0 (Below w.heap.size w wc))
                      case first => as_aux_lemma =>
                        have H := HC68.out
                        clear HC68
                        by_cases c70 : 0 ≤ x26_3
                        · rw [if_pos c70] at H
                          have c70b0 : decide (0 ≤ x26_3) = true := decide_eq_true c70
                          clear c70
                          (first | rw [c70b0] | (simp only [i64_w, i32_w]; rw [c70b0]) | skip)
                          by_cases c71 : x26_3 < (t497.length : Int)
                          · rw [if_pos c71] at H
                            have c71b0 : decide (x26_3 < (t497.length : Int)) = true := decide_eq_true c71
                            clear c71
                            by_cases c72 : (rd t497 x26_3) ≥ (wrap64 (1 + t488))
                            · rw [if_pos c72] at H
                              have c72b0 : decide ((wrap64 (1 + t488)) ≤ (rd t497 x26_3)) = true := decide_eq_true c72
                              clear c72
                              have H' := Aside0.mk H
                              clear H
                              obtain ⟨Ao73, co73, eo73⟩ := Kd.R_slice HO_20.out
                              subst eo73
                              have p504 : 0 ≤ (x26_3 : Int) := of_decide_eq_true (by first | (with_reducible assumption) | assumption)
                              have q504 : x26_3 < (t497.length : Int) := of_decide_eq_true (by first | (with_reducible assumption) | assumption)
                              obtain ⟨ad504, e504, hx504_0⟩ := Kd.at_int (Kd.R_reads' HO_20.out).2.2 x26_3 p504 q504
                              cases e504
                              replace p504 := eq_true p504
                              replace q504 := eq_true q504
                              go_wp2
                              repeat (go_quiet (fail); try go_wp2)
                              go_meet
                              case rel => exact ⟨_, (true), (by first | rfl | (simp; done) | (simp [*]; done)), H', ⟨by have := HJ14.out; have := HK2.out; have := HK3.out; first | omega | exact Nat.le_refl _⟩, ⟨by (with_reducible repeat (first | apply Kd.R_alloc | apply Kd.R_drewN | apply Kd.R_drew)); exact HO_16.out⟩, ⟨by (with_reducible repeat (first | apply Kd.R_alloc | apply Kd.R_drewN | apply Kd.R_drew)); exact HO_18.out⟩, ⟨by (with_reducible repeat (first | apply Kd.R_alloc | apply Kd.R_drewN | apply Kd.R_drew)); exact HO_20.out⟩, ⟨by repeat (first | (with_reducible first | exact HB.out | apply below_alloc | apply pw_below_drewN | apply below_drew1) | exact HB.out)⟩⟩
                            · rw [if_neg c72] at H
                              have c72b0 : decide ((wrap64 (1 + t488)) ≤ (rd t497 x26_3)) = false := decide_eq_false c72
                              clear c72
                              have H' := Aside0.mk H
                              clear H
                              obtain ⟨Ao74, co74, eo74⟩ := Kd.R_slice HO_20.out
                              subst eo74
                              have p504 : 0 ≤ (x26_3 : Int) := of_decide_eq_true (by first | (with_reducible assumption) | assumption)
                              have q504 : x26_3 < (t497.length : Int) := of_decide_eq_true (by first | (with_reducible assumption) | assumption)
                              obtain ⟨ad504, e504, hx504_0⟩ := Kd.at_int (Kd.R_reads' HO_20.out).2.2 x26_3 p504 q504
                              cases e504
                              replace p504 := eq_true p504
                              replace q504 := eq_true q504
                              have p505 : 0 ≤ (x26_3 : Int) := of_decide_eq_true (by first | (with_reducible assumption) | assumption)
                              have q505 : x26_3 < (t493.length : Int) := of_decide_eq_true (by first | (with_reducible assumption) | assumption)
                              obtain ⟨ad505, e505, hx505_0⟩ := Kd.at_int (Kd.R_reads' HO_18.out).2.2 x26_3 p505 q505
                              cases e505
                              replace p505 := eq_true p505
                              replace q505 := eq_true q505
                              have p506 : 0 ≤ (x26_3 : Int) := of_decide_eq_true (by first | (with_reducible assumption) | assumption)
                              have q506 : x26_3 < (t497.length : Int) := of_decide_eq_true (by first | (with_reducible assumption) | assumption)
                              obtain ⟨ad506, e506, hx506_0⟩ := Kd.at_int (Kd.R_reads' HO_20.out).2.2 x26_3 p506 q506
                              obtain rfl : ad504 = ad506 := (by injection e506)
                              replace p506 := eq_true p506
                              replace q506 := eq_true q506
                              go_wp2
                              repeat (go_quiet (fail); try go_wp2)
                              go_meet
                              case rel => exact ⟨_, (((wrap64 ((rd t493 x26_3) + (rd t497 x26_3))) == (t479.size : Int))), (by first | rfl | (simp; done) | (simp [*]; done)), H', ⟨by have := HJ14.out; have := HK2.out; have := HK3.out; first | omega | exact Nat.le_refl _⟩, ⟨by (with_reducible repeat (first | apply Kd.R_alloc | apply Kd.R_drewN | apply Kd.R_drew)); exact HO_16.out⟩, ⟨by (with_reducible repeat (first | apply Kd.R_alloc | apply Kd.R_drewN | apply Kd.R_drew)); exact HO_18.out⟩, ⟨by (with_reducible repeat (first | apply Kd.R_alloc | apply Kd.R_drewN | apply Kd.R_drew)); exact HO_20.out⟩, ⟨by repeat (first | (with_reducible first | exact HB.out | apply below_alloc | apply pw_below_drewN | apply below_drew1) | exact HB.out)⟩⟩
                          · rw [if_neg c71] at H
                            exact absurd H (by simp)
                        · rw [if_neg c70] at H
                          exact absurd H (by simp)
                      case rest => as_aux_lemma =>
                        clear HC68
                        try clear c1
                        try clear c2
                        try clear p2
                        try clear c3
                        try clear c4
                        try clear p4
                        try clear q4
                        try clear hx4
                        try clear c5
                        try clear p5
                        try clear q5
                        try clear hx5
                        try clear c6
                        try clear p6
                        try clear q6
                        try clear hx6
                        try clear c7
                        try clear c9
                        try clear c24
                        try clear c25
                        try clear c26
                        try clear c27
                        try clear c28
                        try clear c29
                        try clear c31
                        try clear c32
                        try clear c32b0
                        try clear c32b1
                        try clear c32b2
                        try clear c33
                        try clear c33b0
                        try clear c33b1
                        try clear c33b2
                        try clear c40
                        try clear c41
                        try clear c41b0
                        try clear c43
                        try clear c43b0
                        try clear c44
                        try clear c44b0
                        try clear p45
                        try clear q45
                        try clear hx45
                        try clear c46
                        try clear c46b0
                        try clear p47
                        try clear q47
                        try clear hx47
                        try clear c48
                        try clear c48b0
                        try clear c48b1
                        try clear c49
                        try clear c49b0
                        try clear p50
                        try clear q50
                        try clear hx50
                        try clear c51
                        try clear c52
                        try clear c52b0
                        try clear c53
                        try clear c53b0
                        try clear p54
                        try clear q54
                        try clear hx54
                        try clear c56
                        try clear c56b0
                        try clear c56b1
                        try clear c59
                        try clear c59b0
                        try clear c60
                        try clear c60b0
                        try clear p61
                        try clear q61
                        try clear hx61
                        try clear c62
                        try clear c62b0
                        try clear p63
                        try clear q63
                        try clear hx63
                        try clear c64
                        try clear c64b0
                        try clear c64b1
                        try clear p64
                        try clear c65
                        try clear c65b0
                        try clear c65b1
                        try clear c65b2
                        try clear c66
                        try clear c66b0
                        try clear c66b1
                        try clear c66b2
                        try clear c67
                        try clear c67b0
                        try clear c70
                        try clear c70b0
                        try clear c71
                        try clear c71b0
                        try clear c72
                        try clear c72b0
                        try clear hx504_0
                        try clear hx505_0
                        try clear hx506_0
                        try clear p2
                        try clear p4
                        try clear p45
                        try clear p47
                        try clear p5
                        try clear p50
                        try clear p504
                        try clear p505
                        try clear p506
                        try clear p54
                        try clear p6
                        try clear p61
                        try clear p63
                        try clear p64
                        try clear q4
                        try clear q45
                        try clear q47
                        try clear q5
                        try clear q50
                        try clear q504
                        try clear q505
                        try clear q506
                        try clear q54
                        try clear q6
                        try clear q61
                        try clear q63
                        obtain ⟨kq, x198_67, rfl, HA, HJ67, HO_16, HO_18, HO_20, HB⟩ := hcut
                        cases kq with
                        | zero => exact absurd HA.out (by simp [laws_FnGated.j5])
                        | succ kj67 =>
                          have H := HA.out
                          clear HA
                          simp only [laws_FnGated.j5] at H
                          by_cases c75 : x198_67 = true
                          · subst c75
                            have H1 : (laws_FnGated.l1 kj67 (t479.size : Int) (wrap64 (1 + t488)) t489 t493 t497 x25_3 (wrap64 (x26_3 + 1))) = some r := by rw [if_pos rfl] at H; exact H
                            clear H
                            have H := H1
                            clear H1
                            have H' := Aside0.mk H
                            clear H
                            go_wp2
                            repeat (go_quiet (fail); try go_wp2)
                            go_roundg kj67
                            case measure => have := HJ14.out; have := HK2.out; have := HK3.out; have := HJ67.out; omega
                            case rel => exact ⟨(x25_3), (wrap64 (x26_3 + 1)), (by first | rfl | (simp; done) | (simp [*]; done)), (by first | rfl | (simp; done) | (simp [*]; done)), H', ⟨by have := HJ14.out; have := HK2.out; have := HK3.out; have := HJ67.out; omega⟩, ⟨by (with_reducible repeat (first | apply Kd.R_alloc | apply Kd.R_drewN | apply Kd.R_drew)); exact HO_16.out⟩, ⟨by (with_reducible repeat (first | apply Kd.R_alloc | apply Kd.R_drewN | apply Kd.R_drew)); exact HO_18.out⟩, ⟨by (with_reducible repeat (first | apply Kd.R_alloc | apply Kd.R_drewN | apply Kd.R_drew)); exact HO_20.out⟩, ⟨by repeat (first | (with_reducible first | exact HB.out | apply below_alloc | apply pw_below_drewN | apply below_drew1) | exact HB.out)⟩⟩
                          · replace c75 := Bool.eq_false_iff.mpr c75
                            subst c75
                            have H1 : (if x25_3 ≥ (t489.length : Int) then (some false) else (if 0 ≤ x25_3 then (if x25_3 < (t489.length : Int) then (if 0 ≤ x26_3 then (if x26_3 < (t493.length : Int) then (if (rd t489 x25_3) = (rd t493 x26_3) then (laws_FnGated.l1 kj67 (t479.size : Int) (wrap64 (1 + t488)) t489 t493 t497 (wrap64 (x25_3 + 1)) (wrap64 (x26_3 + 1))) else (some false)) else (none)) else (none)) else (none)) else (none))) = some r := by rw [if_neg (show ¬ (false = true) by decide)] at H; exact H
                            clear H
                            have H := H1
                            clear H1
                            by_cases c76 : x25_3 ≥ (t489.length : Int)
                            · rw [if_pos c76] at H
                              have c76b0 : decide ((t489.length : Int) ≤ x25_3) = true := decide_eq_true c76
                              clear c76
                              exact absurd (Option.some.inj (H.trans (congrArg some HRT.out))) (by decide)
                            · rw [if_neg c76] at H
                              have c76b0 : decide ((t489.length : Int) ≤ x25_3) = false := decide_eq_false c76
                              clear c76
                              by_cases c78 : 0 ≤ x25_3
                              · rw [if_pos c78] at H
                                have c78b0 : decide (0 ≤ x25_3) = true := decide_eq_true c78
                                clear c78
                                by_cases c79 : x25_3 < (t489.length : Int)
                                · rw [if_pos c79] at H
                                  have c79b0 : decide (x25_3 < (t489.length : Int)) = true := decide_eq_true c79
                                  clear c79
                                  by_cases c80 : 0 ≤ x26_3
                                  · rw [if_pos c80] at H
                                    have c80b0 : decide (0 ≤ x26_3) = true := decide_eq_true c80
                                    clear c80
                                    by_cases c81 : x26_3 < (t493.length : Int)
                                    · rw [if_pos c81] at H
                                      have c81b0 : decide (x26_3 < (t493.length : Int)) = true := decide_eq_true c81
                                      clear c81
                                      by_cases c82 : (rd t489 x25_3) = (rd t493 x26_3)
                                      · rw [if_pos c82] at H
                                        have c82b0 : ((rd t489 x25_3) == (rd t493 x26_3)) = true := beq_iff_eq.mpr c82
                                        have c82b1 : ((rd t489 x25_3) != (rd t493 x26_3)) = false := bne_eq_false_iff_eq.mpr c82
                                        clear c82
                                        have H' := Aside0.mk H
                                        clear H
                                        obtain ⟨Ao83, co83, eo83⟩ := Kd.R_slice HO_16.out
                                        subst eo83
                                        have p507 : 0 ≤ (x25_3 : Int) := of_decide_eq_true (by first | (with_reducible assumption) | assumption)
                                        have q507 : x25_3 < (t489.length : Int) := of_decide_eq_true (by first | (with_reducible assumption) | assumption)
                                        obtain ⟨ad507, e507, hx507_0⟩ := Kd.at_int (Kd.R_reads' HO_16.out).2.2 x25_3 p507 q507
                                        cases e507
                                        replace p507 := eq_true p507
                                        replace q507 := eq_true q507
                                        have p508 : 0 ≤ (x26_3 : Int) := of_decide_eq_true (by first | (with_reducible assumption) | assumption)
                                        have q508 : x26_3 < (t493.length : Int) := of_decide_eq_true (by first | (with_reducible assumption) | assumption)
                                        obtain ⟨ad508, e508, hx508_0⟩ := Kd.at_int (Kd.R_reads' HO_18.out).2.2 x26_3 p508 q508
                                        cases e508
                                        replace p508 := eq_true p508
                                        replace q508 := eq_true q508
                                        go_wp2
                                        repeat (go_quiet (fail); try go_wp2)
                                        go_roundg kj67
                                        case measure => have := HJ14.out; have := HK2.out; have := HK3.out; have := HJ67.out; omega
                                        case rel => exact ⟨(wrap64 (x25_3 + 1)), (wrap64 (x26_3 + 1)), (by first | rfl | (simp; done) | (simp [*]; done)), (by first | rfl | (simp; done) | (simp [*]; done)), H', ⟨by have := HJ14.out; have := HK2.out; have := HK3.out; have := HJ67.out; omega⟩, ⟨by (with_reducible repeat (first | apply Kd.R_alloc | apply Kd.R_drewN | apply Kd.R_drew)); exact HO_16.out⟩, ⟨by (with_reducible repeat (first | apply Kd.R_alloc | apply Kd.R_drewN | apply Kd.R_drew)); exact HO_18.out⟩, ⟨by (with_reducible repeat (first | apply Kd.R_alloc | apply Kd.R_drewN | apply Kd.R_drew)); exact HO_20.out⟩, ⟨by repeat (first | (with_reducible first | exact HB.out | apply below_alloc | apply pw_below_drewN | apply below_drew1) | exact HB.out)⟩⟩
                                      · rw [if_neg c82] at H
                                        have c82b0 : ((rd t489 x25_3) == (rd t493 x26_3)) = false := beq_eq_false_iff_ne.mpr c82
                                        have c82b1 : ((rd t489 x25_3) != (rd t493 x26_3)) = true := bne_iff_ne.mpr c82
                                        exact absurd (Option.some.inj (H.trans (congrArg some HRT.out))) (by decide)
                                    · rw [if_neg c81] at H
                                      exact absurd H (by simp)
                                  · rw [if_neg c80] at H
                                    exact absurd H (by simp)
                                · rw [if_neg c79] at H
                                  exact absurd H (by simp)
                              · rw [if_neg c78] at H
                                exact absurd H (by simp)
                    · rw [if_neg c67] at H
                      have c67b0 : decide (x26_3 < (t493.length : Int)) = false := decide_eq_false c67
                      clear c67
                      obtain rfl := Option.some.inj H
                      obtain ⟨Ao85, co85, eo85⟩ := Kd.R_slice HO_18.out
                      subst eo85
                      obtain ⟨Ao86, co86, eo86⟩ := Kd.R_slice HO_16.out
                      subst eo86
                      go_wp2
                      repeat (go_quiet (fail); try go_wp2)
                      go_ret
                      exact ⟨by first | rfl | (simp [errW_none, errW_some] <;> rfl) | (simp [*, errW_none, errW_some] <;> rfl), by repeat (first | (with_reducible first | exact HB.out | apply below_alloc | apply pw_below_drewN | apply below_drew1) | exact HB.out)⟩
/-- THE ONE PURE STATEMENT of laws_FnGated: yours. -/
def laws_FnGated.Pure : Prop := ∀ (l0 : List Int) (l1 : List Int), l0.length ≤ maxLen → l0.length * 1 ≤ 140737488351232 → (∀ x ∈ l0, (Lit.int .u8 x).wf = true) → l1.length ≤ maxLen → l1.length * 1 ≤ 140737488351232 → (∀ x ∈ l1, (Lit.int .u8 x).wf = true) → ∃ k, laws_FnGated.f k l0 l1 = some true
theorem laws_FnGated.walk (P : laws_FnGated.Pure) (a0 : Option Addr) (len0 cap0 : Nat) (z0 : List Int) (a1 : Option Addr) (len1 cap1 : Nat) (z1 : List Int) (w : World) (w0 : (a0 = none ∧ len0 = 0 ∧ cap0 = 0 ∧ z0 = []) ∨ ∃ x, a0 = some x ∧ len0 ≤ cap0 ∧ cap0 ≤ maxLen ∧ z0.length = cap0 ∧ (∀ i, i < z0.length → w.cell? (x.add i) = some (.int .u8 (z0.getD i 0))) ∧ ∀ n ∈ z0, (Lit.int .u8 n).wf = true) (y0 : len0 * 1 ≤ 140737488351232) (w1 : (a1 = none ∧ len1 = 0 ∧ cap1 = 0 ∧ z1 = []) ∨ ∃ x, a1 = some x ∧ len1 ≤ cap1 ∧ cap1 ≤ maxLen ∧ z1.length = cap1 ∧ (∀ i, i < z1.length → w.cell? (x.add i) = some (.int .u8 (z1.getD i 0))) ∧ ∀ n ∈ z1, (Lit.int .u8 n).wf = true) (y1 : len1 * 1 ≤ 140737488351232) :
    Calls Tryd.prog 9 #[.slice a0 len0 cap0, .slice a1 len1 cap1] w fun e w' => e = .returned (.bool true) ∧ Below w.heap.size w w' := by
  obtain ⟨l0, rfl, hr0, hm0, hw0, hc0⟩ := ReadsInt.ofRowC w0
  obtain ⟨l1, rfl, hr1, hm1, hw1, hc1⟩ := ReadsInt.ofRowC w1
  obtain ⟨k, h⟩ := P l0 l1 hm0 y0 hw0 hm1 y1 hw1
  refine (laws_FnGated.calls k _ _ l0 _ _ l1 true w (Kd.C_of_reads (d := (0 : Int)) (h1 := fun _ => rfl) hr0) hc0 (Kd.C_of_reads (d := (0 : Int)) (h1 := fun _ => rfl) hr1) hc1 h rfl).mono ?_
  rintro e w' ⟨rfl, hd⟩
  exact ⟨rfl, hd⟩
end Go.Proofs.YthkpnbelbaljdaaDoor.X
end
