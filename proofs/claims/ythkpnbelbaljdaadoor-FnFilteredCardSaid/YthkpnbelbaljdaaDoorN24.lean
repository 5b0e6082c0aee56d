/- My own texts of this seat and its words, merged: Xp10. Conditions: as each lemma says. -/
import Derived.Test.YthkpnbelbaljdaaDoorN21
import Derived.Test.YthkpnbelbaljdaaDoorN23
import Derived.Test.YthkpnbelbaljdaaDoorN22
section
-- Written by a program of this session out of the kit's print of the loaded functions: a plain function of a Go function, and its contract.
namespace Go.Proofs.YthkpnbelbaljdaaDoor.X
open Go.RowKit Go.Proofs.YthkpnbelbaljdaaDoorW.PrintWords Go.Proofs.YthkpnbelbaljdaaDoorW.PrintLast Go.Proofs.YthkpnbelbaljdaaDoorW.PrintMore
attribute [local go_sem] max2_int min2_int max_two min_two max_three min_three max_four min_four   -- for this text's walks alone
set_option linter.unusedVariables false
set_option linter.unusedSimpArgs false
mutual
def laws_FnFiltered.j0 : Nat → ByteArray → Int → Int → ByteArray → ByteArray → ByteArray → ByteArray → List Int → Bool → Option (Bool)
 | 0, _, _, _, _, _, _, _, _, _ => none
 | k + 1, x5, x6, x7, x8, x10, x12, x14, x20, x159 => if x159 = true then (some false) else (laws_FnFiltered.l0 k x5 x6 x7 x8 x10 x12 x14 x20 0)
def laws_FnFiltered.l0 : Nat → ByteArray → Int → Int → ByteArray → ByteArray → ByteArray → ByteArray → List Int → Int → Option (Bool)
 | 0, _, _, _, _, _, _, _, _, _ => none
 | k + 1, x5, x6, x7, x8, x10, x12, x14, x20, x24 => if x24 < (x20.length : Int) then (if 0 ≤ x24 then (if (rd x20 x24) < x7 then (some false) else (laws_FnFiltered.l0 k x5 x6 x7 x8 x10 x12 x14 x20 (wrap64 (x24 + 1)))) else (none)) else ((impl_PulsesOf.f x12).bind fun bt505 => (if bt505.2 = true then (laws_FnFiltered.l1 k x5 x6 x7 x8 x10 x12 x14 bt505.1 0) else (some false)))
def laws_FnFiltered.l1 : Nat → ByteArray → Int → Int → ByteArray → ByteArray → ByteArray → ByteArray → List Int → Int → Option (Bool)
 | 0, _, _, _, _, _, _, _, _, _ => none
 | k + 1, x5, x6, x7, x8, x10, x12, x14, x25, x27 => if x27 < (x25.length : Int) then (if 0 ≤ x27 then (if (rd x25 x27) < x7 then (some false) else (laws_FnFiltered.l1 k x5 x6 x7 x8 x10 x12 x14 x25 (wrap64 (x27 + 1)))) else (none)) else (laws_FnFiltered.l2 k x5 x6 x7 x8 x10 x12 x14 0 0)
def laws_FnFiltered.l2 : Nat → ByteArray → Int → Int → ByteArray → ByteArray → ByteArray → ByteArray → Int → Int → Option (Bool)
 | 0, _, _, _, _, _, _, _, _, _ => none
 | k + 1, x5, x6, x7, x8, x10, x12, x14, x28, x29 => if x29 < x6 then (if x29 > 0 then (if 0 ≤ x29 then (if x29 < (x5.size : Int) then (if 0 ≤ (wrap64 (x29 - 1)) then (if (wrap64 (x29 - 1)) < (x5.size : Int) then (laws_FnFiltered.j4 k x5 x6 x7 x8 x10 x12 x14 x28 x29 ((bt x5 x29) != (bt x5 (wrap64 (x29 - 1))))) else (none)) else (none)) else (none)) else (none)) else (laws_FnFiltered.j4 k x5 x6 x7 x8 x10 x12 x14 x28 x29 false)) else (some true)
def laws_FnFiltered.j4 : Nat → ByteArray → Int → Int → ByteArray → ByteArray → ByteArray → ByteArray → Int → Int → Bool → Option (Bool)
 | 0, _, _, _, _, _, _, _, _, _, _ => none
 | k + 1, x5, x6, x7, x8, x10, x12, x14, x28, x29, x207 => if x207 = true then (laws_FnFiltered.j5 k x5 x6 x7 x8 x10 x12 x14 0 x29) else (laws_FnFiltered.j5 k x5 x6 x7 x8 x10 x12 x14 x28 x29)
def laws_FnFiltered.j5 : Nat → ByteArray → Int → Int → ByteArray → ByteArray → ByteArray → ByteArray → Int → Int → Option (Bool)
 | 0, _, _, _, _, _, _, _, _, _ => none
 | k + 1, x5, x6, x7, x8, x10, x12, x14, x28, x29 => if (wrap64 (x28 + 1)) ≥ x7 then (if 0 ≤ x29 then (if x29 < (x8.size : Int) then (if x29 < (x5.size : Int) then (if (bt x8 x29) = (bt x5 x29) then (if (bt x5 x29) = 49 then (if x29 < (x10.size : Int) then (if (bt x10 x29) = 48 then (laws_FnFiltered.j6 k x5 x6 x7 x8 x10 x12 x14 (wrap64 (x28 + 1)) x29 true) else (if x29 < (x14.size : Int) then (if (bt x14 x29) = 48 then (laws_FnFiltered.j6 k x5 x6 x7 x8 x10 x12 x14 (wrap64 (x28 + 1)) x29 true) else (if x29 < (x12.size : Int) then (if (bt x12 x29) = 49 then (if (bt x5 x29) = 48 then (laws_FnFiltered.j6 k x5 x6 x7 x8 x10 x12 x14 (wrap64 (x28 + 1)) x29 true) else (if (bt x8 x29) = 49 then (laws_FnFiltered.j6 k x5 x6 x7 x8 x10 x12 x14 (wrap64 (x28 + 1)) x29 (decide ((wrap64 (x29 + 1)) < x7))) else (laws_FnFiltered.j6 k x5 x6 x7 x8 x10 x12 x14 (wrap64 (x28 + 1)) x29 false))) else (if (bt x8 x29) = 49 then (laws_FnFiltered.j6 k x5 x6 x7 x8 x10 x12 x14 (wrap64 (x28 + 1)) x29 (decide ((wrap64 (x29 + 1)) < x7))) else (laws_FnFiltered.j6 k x5 x6 x7 x8 x10 x12 x14 (wrap64 (x28 + 1)) x29 false))) else (none))) else (none))) else (none)) else (if x29 < (x12.size : Int) then (if (bt x12 x29) = 49 then (if (bt x5 x29) = 48 then (laws_FnFiltered.j6 k x5 x6 x7 x8 x10 x12 x14 (wrap64 (x28 + 1)) x29 true) else (if (bt x8 x29) = 49 then (laws_FnFiltered.j6 k x5 x6 x7 x8 x10 x12 x14 (wrap64 (x28 + 1)) x29 (decide ((wrap64 (x29 + 1)) < x7))) else (laws_FnFiltered.j6 k x5 x6 x7 x8 x10 x12 x14 (wrap64 (x28 + 1)) x29 false))) else (if (bt x8 x29) = 49 then (laws_FnFiltered.j6 k x5 x6 x7 x8 x10 x12 x14 (wrap64 (x28 + 1)) x29 (decide ((wrap64 (x29 + 1)) < x7))) else (laws_FnFiltered.j6 k x5 x6 x7 x8 x10 x12 x14 (wrap64 (x28 + 1)) x29 false))) else (none))) else (laws_FnFiltered.j6 k x5 x6 x7 x8 x10 x12 x14 (wrap64 (x28 + 1)) x29 true)) else (none)) else (none)) else (none)) else (if 0 ≤ x29 then (if x29 < (x5.size : Int) then (if (bt x5 x29) = 49 then (if x29 < (x10.size : Int) then (if (bt x10 x29) = 48 then (laws_FnFiltered.j6 k x5 x6 x7 x8 x10 x12 x14 (wrap64 (x28 + 1)) x29 true) else (if x29 < (x14.size : Int) then (if (bt x14 x29) = 48 then (laws_FnFiltered.j6 k x5 x6 x7 x8 x10 x12 x14 (wrap64 (x28 + 1)) x29 true) else (if x29 < (x12.size : Int) then (if (bt x12 x29) = 49 then (if (bt x5 x29) = 48 then (laws_FnFiltered.j6 k x5 x6 x7 x8 x10 x12 x14 (wrap64 (x28 + 1)) x29 true) else (if x29 < (x8.size : Int) then (if (bt x8 x29) = 49 then (laws_FnFiltered.j6 k x5 x6 x7 x8 x10 x12 x14 (wrap64 (x28 + 1)) x29 (decide ((wrap64 (x29 + 1)) < x7))) else (laws_FnFiltered.j6 k x5 x6 x7 x8 x10 x12 x14 (wrap64 (x28 + 1)) x29 false)) else (none))) else (if x29 < (x8.size : Int) then (if (bt x8 x29) = 49 then (laws_FnFiltered.j6 k x5 x6 x7 x8 x10 x12 x14 (wrap64 (x28 + 1)) x29 (decide ((wrap64 (x29 + 1)) < x7))) else (laws_FnFiltered.j6 k x5 x6 x7 x8 x10 x12 x14 (wrap64 (x28 + 1)) x29 false)) else (none))) else (none))) else (none))) else (none)) else (if x29 < (x12.size : Int) then (if (bt x12 x29) = 49 then (if (bt x5 x29) = 48 then (laws_FnFiltered.j6 k x5 x6 x7 x8 x10 x12 x14 (wrap64 (x28 + 1)) x29 true) else (if x29 < (x8.size : Int) then (if (bt x8 x29) = 49 then (laws_FnFiltered.j6 k x5 x6 x7 x8 x10 x12 x14 (wrap64 (x28 + 1)) x29 (decide ((wrap64 (x29 + 1)) < x7))) else (laws_FnFiltered.j6 k x5 x6 x7 x8 x10 x12 x14 (wrap64 (x28 + 1)) x29 false)) else (none))) else (if x29 < (x8.size : Int) then (if (bt x8 x29) = 49 then (laws_FnFiltered.j6 k x5 x6 x7 x8 x10 x12 x14 (wrap64 (x28 + 1)) x29 (decide ((wrap64 (x29 + 1)) < x7))) else (laws_FnFiltered.j6 k x5 x6 x7 x8 x10 x12 x14 (wrap64 (x28 + 1)) x29 false)) else (none))) else (none))) else (none)) else (none))
def laws_FnFiltered.j6 : Nat → ByteArray → Int → Int → ByteArray → ByteArray → ByteArray → ByteArray → Int → Int → Bool → Option (Bool)
 | 0, _, _, _, _, _, _, _, _, _, _ => none
 | k + 1, x5, x6, x7, x8, x10, x12, x14, x28, x29, x263 => if x263 = true then (some false) else (laws_FnFiltered.l2 k x5 x6 x7 x8 x10 x12 x14 x28 (wrap64 (x29 + 1)))
end
def laws_FnFiltered.f (k : Nat) (l0 : List Int) (l1 : List Int) : Option (Bool) := (laws_b10Long.f l0 l1).bind fun t478 => (if t478 = true then (some true) else ((spec_B10Wave.f k l0).bind fun t479 => ((laws_b10At.f l1 0 6).bind fun t480 => ((impl_Debounce.f t479 (wrap64 (1 + t480))).bind fun bt481 => ((impl_StretchPulses.f t479 (wrap64 (1 + t480))).bind fun bt483 => ((impl_DropPulses.f t479 (wrap64 (1 + t480))).bind fun bt485 => ((impl_FillGaps.f t479 (wrap64 (1 + t480))).bind fun bt487 => ((impl_ShortPulses.f k bt481.1 (wrap64 (1 + t480))).bind fun bt489 => ((impl_ShortPulses.f k bt483.1 (wrap64 (1 + t480))).bind fun bt493 => ((impl_GapsOf.f bt487.1).bind fun bt497 => ((laws_b10At.f l1 1 4).bind fun t501 => ((impl_MajorityWave.f t479 (wrap64 ((wrap64 (2 * t501)) + 1))).bind fun bt502 => (if bt481.2 = true then (if bt483.2 = true then (if bt485.2 = true then (if bt487.2 = true then (if bt489.2 = true then (if bt493.2 = true then (if bt497.2 = true then (if bt502.2 = true then (if (bt489.1.length : Int) = 0 then (if (bt493.1.length : Int) = 0 then (if (bt481.1.size : Int) = (t479.size : Int) then (if (bt483.1.size : Int) = (t479.size : Int) then (if (bt485.1.size : Int) = (t479.size : Int) then (if (bt487.1.size : Int) = (t479.size : Int) then (laws_FnFiltered.j0 k t479 (t479.size : Int) (wrap64 (1 + t480)) bt481.1 bt483.1 bt485.1 bt487.1 bt497.1 ((bt502.1.size : Int) != (t479.size : Int))) else (laws_FnFiltered.j0 k t479 (t479.size : Int) (wrap64 (1 + t480)) bt481.1 bt483.1 bt485.1 bt487.1 bt497.1 true)) else (laws_FnFiltered.j0 k t479 (t479.size : Int) (wrap64 (1 + t480)) bt481.1 bt483.1 bt485.1 bt487.1 bt497.1 true)) else (laws_FnFiltered.j0 k t479 (t479.size : Int) (wrap64 (1 + t480)) bt481.1 bt483.1 bt485.1 bt487.1 bt497.1 true)) else (laws_FnFiltered.j0 k t479 (t479.size : Int) (wrap64 (1 + t480)) bt481.1 bt483.1 bt485.1 bt487.1 bt497.1 true)) else (laws_FnFiltered.j0 k t479 (t479.size : Int) (wrap64 (1 + t480)) bt481.1 bt483.1 bt485.1 bt487.1 bt497.1 true)) else (laws_FnFiltered.j0 k t479 (t479.size : Int) (wrap64 (1 + t480)) bt481.1 bt483.1 bt485.1 bt487.1 bt497.1 true)) else (laws_FnFiltered.j0 k t479 (t479.size : Int) (wrap64 (1 + t480)) bt481.1 bt483.1 bt485.1 bt487.1 bt497.1 true)) else (laws_FnFiltered.j0 k t479 (t479.size : Int) (wrap64 (1 + t480)) bt481.1 bt483.1 bt485.1 bt487.1 bt497.1 true)) else (laws_FnFiltered.j0 k t479 (t479.size : Int) (wrap64 (1 + t480)) bt481.1 bt483.1 bt485.1 bt487.1 bt497.1 true)) else (laws_FnFiltered.j0 k t479 (t479.size : Int) (wrap64 (1 + t480)) bt481.1 bt483.1 bt485.1 bt487.1 bt497.1 true)) else (laws_FnFiltered.j0 k t479 (t479.size : Int) (wrap64 (1 + t480)) bt481.1 bt483.1 bt485.1 bt487.1 bt497.1 true)) else (laws_FnFiltered.j0 k t479 (t479.size : Int) (wrap64 (1 + t480)) bt481.1 bt483.1 bt485.1 bt487.1 bt497.1 true)) else (laws_FnFiltered.j0 k t479 (t479.size : Int) (wrap64 (1 + t480)) bt481.1 bt483.1 bt485.1 bt487.1 bt497.1 true)) else (laws_FnFiltered.j0 k t479 (t479.size : Int) (wrap64 (1 + t480)) bt481.1 bt483.1 bt485.1 bt487.1 bt497.1 true))))))))))))))
theorem laws_FnFiltered.j0_no (k : Nat) (y0 : ByteArray) (y1 : Int) (y2 : Int) (y3 : ByteArray) (y4 : ByteArray) (y5 : ByteArray) (y6 : ByteArray) (y7 : List Int) (r : Bool) (h : laws_FnFiltered.j0 k y0 y1 y2 y3 y4 y5 y6 y7 true = some r) : r = false := by
 cases k with
 | zero => simp [laws_FnFiltered.j0] at h
 | succ k => rw [laws_FnFiltered.j0, if_pos rfl] at h; exact (Option.some.inj h).symm
theorem laws_FnFiltered.j6_no (k : Nat) (y0 : ByteArray) (y1 : Int) (y2 : Int) (y3 : ByteArray) (y4 : ByteArray) (y5 : ByteArray) (y6 : ByteArray) (y7 : Int) (y8 : Int) (r : Bool) (h : laws_FnFiltered.j6 k y0 y1 y2 y3 y4 y5 y6 y7 y8 true = some r) : r = false := by
 cases k with
 | zero => simp [laws_FnFiltered.j6] at h
 | succ k => rw [laws_FnFiltered.j6, if_pos rfl] at h; exact (Option.some.inj h).symm
set_option maxHeartbeats 8000000 in
set_option maxRecDepth 100000 in
theorem laws_FnFiltered.calls (k : Nat) (A0 : Option Addr) (c0 : Nat) (l0 : List Int) (A1 : Option Addr) (c1 : Nat) (l1 : List Int) (r : Bool) (w : World) (hr0 : Kd.C (Kd.int .u8) w A0 l0.length l0) (hc0 : l0.length ≤ c0) (hr1 : Kd.C (Kd.int .u8) w A1 l1.length l1) (hc1 : l1.length ≤ c1) (h : laws_FnFiltered.f k l0 l1 = some r) (hrT : r = true) :
  Calls Tryd.prog 10 #[.slice A0 l0.length c0, .slice A1 l1.length c1] w fun e w' => e = .returned (.bool r) ∧ Below w.heap.size w w' := by
 have HRT := Aside0.mk hrT
 clear hrT
 have HR0 := Aside0.mk hr0
 have HC0 := Aside0.mk hc0
 clear hr0 hc0
 have HR1 := Aside0.mk hr1
 have HC1 := Aside0.mk hc1
 clear hr1 hc1
 have HB := Aside0.mk (Below.refl w.heap.size w)
 have H : ((laws_b10Long.f l0 l1).bind fun t478 => (if t478 = true then (some true) else ((spec_B10Wave.f k l0).bind fun t479 => ((laws_b10At.f l1 0 6).bind fun t480 => ((impl_Debounce.f t479 (wrap64 (1 + t480))).bind fun bt481 => ((impl_StretchPulses.f t479 (wrap64 (1 + t480))).bind fun bt483 => ((impl_DropPulses.f t479 (wrap64 (1 + t480))).bind fun bt485 => ((impl_FillGaps.f t479 (wrap64 (1 + t480))).bind fun bt487 => ((impl_ShortPulses.f k bt481.1 (wrap64 (1 + t480))).bind fun bt489 => ((impl_ShortPulses.f k bt483.1 (wrap64 (1 + t480))).bind fun bt493 => ((impl_GapsOf.f bt487.1).bind fun bt497 => ((laws_b10At.f l1 1 4).bind fun t501 => ((impl_MajorityWave.f t479 (wrap64 ((wrap64 (2 * t501)) + 1))).bind fun bt502 => (if bt481.2 = true then (if bt483.2 = true then (if bt485.2 = true then (if bt487.2 = true then (if bt489.2 = true then (if bt493.2 = true then (if bt497.2 = true then (if bt502.2 = true then (if (bt489.1.length : Int) = 0 then (if (bt493.1.length : Int) = 0 then (if (bt481.1.size : Int) = (t479.size : Int) then (if (bt483.1.size : Int) = (t479.size : Int) then (if (bt485.1.size : Int) = (t479.size : Int) then (if (bt487.1.size : Int) = (t479.size : Int) then (laws_FnFiltered.j0 k t479 (t479.size : Int) (wrap64 (1 + t480)) bt481.1 bt483.1 bt485.1 bt487.1 bt497.1 ((bt502.1.size : Int) != (t479.size : Int))) else (laws_FnFiltered.j0 k t479 (t479.size : Int) (wrap64 (1 + t480)) bt481.1 bt483.1 bt485.1 bt487.1 bt497.1 true)) else (laws_FnFiltered.j0 k t479 (t479.size : Int) (wrap64 (1 + t480)) bt481.1 bt483.1 bt485.1 bt487.1 bt497.1 true)) else (laws_FnFiltered.j0 k t479 (t479.size : Int) (wrap64 (1 + t480)) bt481.1 bt483.1 bt485.1 bt487.1 bt497.1 true)) else (laws_FnFiltered.j0 k t479 (t479.size : Int) (wrap64 (1 + t480)) bt481.1 bt483.1 bt485.1 bt487.1 bt497.1 true)) else (laws_FnFiltered.j0 k t479 (t479.size : Int) (wrap64 (1 + t480)) bt481.1 bt483.1 bt485.1 bt487.1 bt497.1 true)) else (laws_FnFiltered.j0 k t479 (t479.size : Int) (wrap64 (1 + t480)) bt481.1 bt483.1 bt485.1 bt487.1 bt497.1 true)) else (laws_FnFiltered.j0 k t479 (t479.size : Int) (wrap64 (1 + t480)) bt481.1 bt483.1 bt485.1 bt487.1 bt497.1 true)) else (laws_FnFiltered.j0 k t479 (t479.size : Int) (wrap64 (1 + t480)) bt481.1 bt483.1 bt485.1 bt487.1 bt497.1 true)) else (laws_FnFiltered.j0 k t479 (t479.size : Int) (wrap64 (1 + t480)) bt481.1 bt483.1 bt485.1 bt487.1 bt497.1 true)) else (laws_FnFiltered.j0 k t479 (t479.size : Int) (wrap64 (1 + t480)) bt481.1 bt483.1 bt485.1 bt487.1 bt497.1 true)) else (laws_FnFiltered.j0 k t479 (t479.size : Int) (wrap64 (1 + t480)) bt481.1 bt483.1 bt485.1 bt487.1 bt497.1 true)) else (laws_FnFiltered.j0 k t479 (t479.size : Int) (wrap64 (1 + t480)) bt481.1 bt483.1 bt485.1 bt487.1 bt497.1 true)) else (laws_FnFiltered.j0 k t479 (t479.size : Int) (wrap64 (1 + t480)) bt481.1 bt483.1 bt485.1 bt487.1 bt497.1 true)) else (laws_FnFiltered.j0 k t479 (t479.size : Int) (wrap64 (1 + t480)) bt481.1 bt483.1 bt485.1 bt487.1 bt497.1 true))))))))))))))) = some r := h
 clear h
 replace H := Option.bind_eq_some_iff.mp H
 obtain ⟨t478, A30, H⟩ := H
 replace H : (if t478 = true then (some true) else ((spec_B10Wave.f k l0).bind fun t479 => ((laws_b10At.f l1 0 6).bind fun t480 => ((impl_Debounce.f t479 (wrap64 (1 + t480))).bind fun bt481 => ((impl_StretchPulses.f t479 (wrap64 (1 + t480))).bind fun bt483 => ((impl_DropPulses.f t479 (wrap64 (1 + t480))).bind fun bt485 => ((impl_FillGaps.f t479 (wrap64 (1 + t480))).bind fun bt487 => ((impl_ShortPulses.f k bt481.1 (wrap64 (1 + t480))).bind fun bt489 => ((impl_ShortPulses.f k bt483.1 (wrap64 (1 + t480))).bind fun bt493 => ((impl_GapsOf.f bt487.1).bind fun bt497 => ((laws_b10At.f l1 1 4).bind fun t501 => ((impl_MajorityWave.f t479 (wrap64 ((wrap64 (2 * t501)) + 1))).bind fun bt502 => (if bt481.2 = true then (if bt483.2 = true then (if bt485.2 = true then (if bt487.2 = true then (if bt489.2 = true then (if bt493.2 = true then (if bt497.2 = true then (if bt502.2 = true then (if (bt489.1.length : Int) = 0 then (if (bt493.1.length : Int) = 0 then (if (bt481.1.size : Int) = (t479.size : Int) then (if (bt483.1.size : Int) = (t479.size : Int) then (if (bt485.1.size : Int) = (t479.size : Int) then (if (bt487.1.size : Int) = (t479.size : Int) then (laws_FnFiltered.j0 k t479 (t479.size : Int) (wrap64 (1 + t480)) bt481.1 bt483.1 bt485.1 bt487.1 bt497.1 ((bt502.1.size : Int) != (t479.size : Int))) else (laws_FnFiltered.j0 k t479 (t479.size : Int) (wrap64 (1 + t480)) bt481.1 bt483.1 bt485.1 bt487.1 bt497.1 true)) else (laws_FnFiltered.j0 k t479 (t479.size : Int) (wrap64 (1 + t480)) bt481.1 bt483.1 bt485.1 bt487.1 bt497.1 true)) else (laws_FnFiltered.j0 k t479 (t479.size : Int) (wrap64 (1 + t480)) bt481.1 bt483.1 bt485.1 bt487.1 bt497.1 true)) else (laws_FnFiltered.j0 k t479 (t479.size : Int) (wrap64 (1 + t480)) bt481.1 bt483.1 bt485.1 bt487.1 bt497.1 true)) else (laws_FnFiltered.j0 k t479 (t479.size : Int) (wrap64 (1 + t480)) bt481.1 bt483.1 bt485.1 bt487.1 bt497.1 true)) else (laws_FnFiltered.j0 k t479 (t479.size : Int) (wrap64 (1 + t480)) bt481.1 bt483.1 bt485.1 bt487.1 bt497.1 true)) else (laws_FnFiltered.j0 k t479 (t479.size : Int) (wrap64 (1 + t480)) bt481.1 bt483.1 bt485.1 bt487.1 bt497.1 true)) else (laws_FnFiltered.j0 k t479 (t479.size : Int) (wrap64 (1 + t480)) bt481.1 bt483.1 bt485.1 bt487.1 bt497.1 true)) else (laws_FnFiltered.j0 k t479 (t479.size : Int) (wrap64 (1 + t480)) bt481.1 bt483.1 bt485.1 bt487.1 bt497.1 true)) else (laws_FnFiltered.j0 k t479 (t479.size : Int) (wrap64 (1 + t480)) bt481.1 bt483.1 bt485.1 bt487.1 bt497.1 true)) else (laws_FnFiltered.j0 k t479 (t479.size : Int) (wrap64 (1 + t480)) bt481.1 bt483.1 bt485.1 bt487.1 bt497.1 true)) else (laws_FnFiltered.j0 k t479 (t479.size : Int) (wrap64 (1 + t480)) bt481.1 bt483.1 bt485.1 bt487.1 bt497.1 true)) else (laws_FnFiltered.j0 k t479 (t479.size : Int) (wrap64 (1 + t480)) bt481.1 bt483.1 bt485.1 bt487.1 bt497.1 true)) else (laws_FnFiltered.j0 k t479 (t479.size : Int) (wrap64 (1 + t480)) bt481.1 bt483.1 bt485.1 bt487.1 bt497.1 true)))))))))))))) = some r := H
 have A3 := Aside0.mk A30
 clear A30
 by_cases c4 : t478 = true
 ·subst c4
  have H1 : (some true) = some r := by rw [if_pos rfl] at H; exact H
  clear H
  have H := H1
  clear H1
  obtain rfl := Option.some.inj H
  go_enter Tryd.func10, Tryd.ntmps10
  go_wp2_with (first | (go_at_call 25; (with_reducible refine (laws_b10Long.calls _ _ l0 _ _ l1 true _ ?side1 ?side2 ?side3 ?side4 A3.out).mono ?_); (case side1 => repeat (first | exact HR0.out | (with_reducible refine Kd.C_alloc ?_ _) | (with_reducible refine Kd.C_drewN ?_ _) | (with_reducible refine Kd.C_drew ?_))); (case side2 => first | exact trivial | (exact HC0.out)); (case side3 => repeat (first | exact HR1.out | (with_reducible refine Kd.C_alloc ?_ _) | (with_reducible refine Kd.C_drewN ?_ _) | (with_reducible refine Kd.C_drew ?_))); (case side4 => first | exact trivial | (exact HC1.out)); rintro e w' ⟨rfl, ⟨nd, rfl⟩⟩; (try first | exact ⟨rfl, _, World.drewN_drewN _ _ _⟩ | exact ⟨rfl, _, Eq.trans (World.drewN_drewN _ _ _) (congrArg (World.drewN _) (Nat.add_assoc _ _ _))⟩)))
  repeat (go_quiet (first | (go_at_call 25; (with_reducible refine (laws_b10Long.calls _ _ l0 _ _ l1 true _ ?side1 ?side2 ?side3 ?side4 A3.out).mono ?_); (case side1 => repeat (first | exact HR0.out | (with_reducible refine Kd.C_alloc ?_ _) | (with_reducible refine Kd.C_drewN ?_ _) | (with_reducible refine Kd.C_drew ?_))); (case side2 => first | exact trivial | (exact HC0.out)); (case side3 => repeat (first | exact HR1.out | (with_reducible refine Kd.C_alloc ?_ _) | (with_reducible refine Kd.C_drewN ?_ _) | (with_reducible refine Kd.C_drew ?_))); (case side4 => first | exact trivial | (exact HC1.out)); rintro e w' ⟨rfl, ⟨nd, rfl⟩⟩; (try first | exact ⟨rfl, _, World.drewN_drewN _ _ _⟩ | exact ⟨rfl, _, Eq.trans (World.drewN_drewN _ _ _) (congrArg (World.drewN _) (Nat.add_assoc _ _ _))⟩))); try go_wp2_with (first | (go_at_call 25; (with_reducible refine (laws_b10Long.calls _ _ l0 _ _ l1 true _ ?side1 ?side2 ?side3 ?side4 A3.out).mono ?_); (case side1 => repeat (first | exact HR0.out | (with_reducible refine Kd.C_alloc ?_ _) | (with_reducible refine Kd.C_drewN ?_ _) | (with_reducible refine Kd.C_drew ?_))); (case side2 => first | exact trivial | (exact HC0.out)); (case side3 => repeat (first | exact HR1.out | (with_reducible refine Kd.C_alloc ?_ _) | (with_reducible refine Kd.C_drewN ?_ _) | (with_reducible refine Kd.C_drew ?_))); (case side4 => first | exact trivial | (exact HC1.out)); rintro e w' ⟨rfl, ⟨nd, rfl⟩⟩; (try first | exact ⟨rfl, _, World.drewN_drewN _ _ _⟩ | exact ⟨rfl, _, Eq.trans (World.drewN_drewN _ _ _) (congrArg (World.drewN _) (Nat.add_assoc _ _ _))⟩))))
  go_ret
  exact ⟨by first | rfl | (simp [errW_none, errW_some] <;> rfl) | (simp [*, errW_none, errW_some] <;> rfl), by repeat (first | (with_reducible first | exact HB.out | apply below_alloc | apply pw_below_drewN | apply below_drew1) | exact HB.out)⟩
 ·replace c4 := Bool.eq_false_iff.mpr c4
  subst c4
  have H1 : ((spec_B10Wave.f k l0).bind fun t479 => ((laws_b10At.f l1 0 6).bind fun t480 => ((impl_Debounce.f t479 (wrap64 (1 + t480))).bind fun bt481 => ((impl_StretchPulses.f t479 (wrap64 (1 + t480))).bind fun bt483 => ((impl_DropPulses.f t479 (wrap64 (1 + t480))).bind fun bt485 => ((impl_FillGaps.f t479 (wrap64 (1 + t480))).bind fun bt487 => ((impl_ShortPulses.f k bt481.1 (wrap64 (1 + t480))).bind fun bt489 => ((impl_ShortPulses.f k bt483.1 (wrap64 (1 + t480))).bind fun bt493 => ((impl_GapsOf.f bt487.1).bind fun bt497 => ((laws_b10At.f l1 1 4).bind fun t501 => ((impl_MajorityWave.f t479 (wrap64 ((wrap64 (2 * t501)) + 1))).bind fun bt502 => (if bt481.2 = true then (if bt483.2 = true then (if bt485.2 = true then (if bt487.2 = true then (if bt489.2 = true then (if bt493.2 = true then (if bt497.2 = true then (if bt502.2 = true then (if (bt489.1.length : Int) = 0 then (if (bt493.1.length : Int) = 0 then (if (bt481.1.size : Int) = (t479.size : Int) then (if (bt483.1.size : Int) = (t479.size : Int) then (if (bt485.1.size : Int) = (t479.size : Int) then (if (bt487.1.size : Int) = (t479.size : Int) then (laws_FnFiltered.j0 k t479 (t479.size : Int) (wrap64 (1 + t480)) bt481.1 bt483.1 bt485.1 bt487.1 bt497.1 ((bt502.1.size : Int) != (t479.size : Int))) else (laws_FnFiltered.j0 k t479 (t479.size : Int) (wrap64 (1 + t480)) bt481.1 bt483.1 bt485.1 bt487.1 bt497.1 true)) else (laws_FnFiltered.j0 k t479 (t479.size : Int) (wrap64 (1 + t480)) bt481.1 bt483.1 bt485.1 bt487.1 bt497.1 true)) else (laws_FnFiltered.j0 k t479 (t479.size : Int) (wrap64 (1 + t480)) bt481.1 bt483.1 bt485.1 bt487.1 bt497.1 true)) else (laws_FnFiltered.j0 k t479 (t479.size : Int) (wrap64 (1 + t480)) bt481.1 bt483.1 bt485.1 bt487.1 bt497.1 true)) else (laws_FnFiltered.j0 k t479 (t479.size : Int) (wrap64 (1 + t480)) bt481.1 bt483.1 bt485.1 bt487.1 bt497.1 true)) else (laws_FnFiltered.j0 k t479 (t479.size : Int) (wrap64 (1 + t480)) bt481.1 bt483.1 bt485.1 bt487.1 bt497.1 true)) else (laws_FnFiltered.j0 k t479 (t479.size : Int) (wrap64 (1 + t480)) bt481.1 bt483.1 bt485.1 bt487.1 bt497.1 true)) else (laws_FnFiltered.j0 k t479 (t479.size : Int) (wrap64 (1 + t480)) bt481.1 bt483.1 bt485.1 bt487.1 bt497.1 true)) else (laws_FnFiltered.j0 k t479 (t479.size : Int) (wrap64 (1 + t480)) bt481.1 bt483.1 bt485.1 bt487.1 bt497.1 true)) else (laws_FnFiltered.j0 k t479 (t479.size : Int) (wrap64 (1 + t480)) bt481.1 bt483.1 bt485.1 bt487.1 bt497.1 true)) else (laws_FnFiltered.j0 k t479 (t479.size : Int) (wrap64 (1 + t480)) bt481.1 bt483.1 bt485.1 bt487.1 bt497.1 true)) else (laws_FnFiltered.j0 k t479 (t479.size : Int) (wrap64 (1 + t480)) bt481.1 bt483.1 bt485.1 bt487.1 bt497.1 true)) else (laws_FnFiltered.j0 k t479 (t479.size : Int) (wrap64 (1 + t480)) bt481.1 bt483.1 bt485.1 bt487.1 bt497.1 true)) else (laws_FnFiltered.j0 k t479 (t479.size : Int) (wrap64 (1 + t480)) bt481.1 bt483.1 bt485.1 bt487.1 bt497.1 true))))))))))))) = some r := by rw [if_neg (show ¬ (false = true) by decide)] at H; exact H
  clear H
  have H := H1
  clear H1
  replace H := Option.bind_eq_some_iff.mp H
  obtain ⟨t479, A50, H⟩ := H
  replace H : ((laws_b10At.f l1 0 6).bind fun t480 => ((impl_Debounce.f t479 (wrap64 (1 + t480))).bind fun bt481 => ((impl_StretchPulses.f t479 (wrap64 (1 + t480))).bind fun bt483 => ((impl_DropPulses.f t479 (wrap64 (1 + t480))).bind fun bt485 => ((impl_FillGaps.f t479 (wrap64 (1 + t480))).bind fun bt487 => ((impl_ShortPulses.f k bt481.1 (wrap64 (1 + t480))).bind fun bt489 => ((impl_ShortPulses.f k bt483.1 (wrap64 (1 + t480))).bind fun bt493 => ((impl_GapsOf.f bt487.1).bind fun bt497 => ((laws_b10At.f l1 1 4).bind fun t501 => ((impl_MajorityWave.f t479 (wrap64 ((wrap64 (2 * t501)) + 1))).bind fun bt502 => (if bt481.2 = true then (if bt483.2 = true then (if bt485.2 = true then (if bt487.2 = true then (if bt489.2 = true then (if bt493.2 = true then (if bt497.2 = true then (if bt502.2 = true then (if (bt489.1.length : Int) = 0 then (if (bt493.1.length : Int) = 0 then (if (bt481.1.size : Int) = (t479.size : Int) then (if (bt483.1.size : Int) = (t479.size : Int) then (if (bt485.1.size : Int) = (t479.size : Int) then (if (bt487.1.size : Int) = (t479.size : Int) then (laws_FnFiltered.j0 k t479 (t479.size : Int) (wrap64 (1 + t480)) bt481.1 bt483.1 bt485.1 bt487.1 bt497.1 ((bt502.1.size : Int) != (t479.size : Int))) else (laws_FnFiltered.j0 k t479 (t479.size : Int) (wrap64 (1 + t480)) bt481.1 bt483.1 bt485.1 bt487.1 bt497.1 true)) else (laws_FnFiltered.j0 k t479 (t479.size : Int) (wrap64 (1 + t480)) bt481.1 bt483.1 bt485.1 bt487.1 bt497.1 true)) else (laws_FnFiltered.j0 k t479 (t479.size : Int) (wrap64 (1 + t480)) bt481.1 bt483.1 bt485.1 bt487.1 bt497.1 true)) else (laws_FnFiltered.j0 k t479 (t479.size : Int) (wrap64 (1 + t480)) bt481.1 bt483.1 bt485.1 bt487.1 bt497.1 true)) else (laws_FnFiltered.j0 k t479 (t479.size : Int) (wrap64 (1 + t480)) bt481.1 bt483.1 bt485.1 bt487.1 bt497.1 true)) else (laws_FnFiltered.j0 k t479 (t479.size : Int) (wrap64 (1 + t480)) bt481.1 bt483.1 bt485.1 bt487.1 bt497.1 true)) else (laws_FnFiltered.j0 k t479 (t479.size : Int) (wrap64 (1 + t480)) bt481.1 bt483.1 bt485.1 bt487.1 bt497.1 true)) else (laws_FnFiltered.j0 k t479 (t479.size : Int) (wrap64 (1 + t480)) bt481.1 bt483.1 bt485.1 bt487.1 bt497.1 true)) else (laws_FnFiltered.j0 k t479 (t479.size : Int) (wrap64 (1 + t480)) bt481.1 bt483.1 bt485.1 bt487.1 bt497.1 true)) else (laws_FnFiltered.j0 k t479 (t479.size : Int) (wrap64 (1 + t480)) bt481.1 bt483.1 bt485.1 bt487.1 bt497.1 true)) else (laws_FnFiltered.j0 k t479 (t479.size : Int) (wrap64 (1 + t480)) bt481.1 bt483.1 bt485.1 bt487.1 bt497.1 true)) else (laws_FnFiltered.j0 k t479 (t479.size : Int) (wrap64 (1 + t480)) bt481.1 bt483.1 bt485.1 bt487.1 bt497.1 true)) else (laws_FnFiltered.j0 k t479 (t479.size : Int) (wrap64 (1 + t480)) bt481.1 bt483.1 bt485.1 bt487.1 bt497.1 true)) else (laws_FnFiltered.j0 k t479 (t479.size : Int) (wrap64 (1 + t480)) bt481.1 bt483.1 bt485.1 bt487.1 bt497.1 true)))))))))))) = some r := H
  have A5 := Aside0.mk A50
  clear A50
  replace H := Option.bind_eq_some_iff.mp H
  obtain ⟨t480, A60, H⟩ := H
  replace H : ((impl_Debounce.f t479 (wrap64 (1 + t480))).bind fun bt481 => ((impl_StretchPulses.f t479 (wrap64 (1 + t480))).bind fun bt483 => ((impl_DropPulses.f t479 (wrap64 (1 + t480))).bind fun bt485 => ((impl_FillGaps.f t479 (wrap64 (1 + t480))).bind fun bt487 => ((impl_ShortPulses.f k bt481.1 (wrap64 (1 + t480))).bind fun bt489 => ((impl_ShortPulses.f k bt483.1 (wrap64 (1 + t480))).bind fun bt493 => ((impl_GapsOf.f bt487.1).bind fun bt497 => ((laws_b10At.f l1 1 4).bind fun t501 => ((impl_MajorityWave.f t479 (wrap64 ((wrap64 (2 * t501)) + 1))).bind fun bt502 => (if bt481.2 = true then (if bt483.2 = true then (if bt485.2 = true then (if bt487.2 = true then (if bt489.2 = true then (if bt493.2 = true then (if bt497.2 = true then (if bt502.2 = true then (if (bt489.1.length : Int) = 0 then (if (bt493.1.length : Int) = 0 then (if (bt481.1.size : Int) = (t479.size : Int) then (if (bt483.1.size : Int) = (t479.size : Int) then (if (bt485.1.size : Int) = (t479.size : Int) then (if (bt487.1.size : Int) = (t479.size : Int) then (laws_FnFiltered.j0 k t479 (t479.size : Int) (wrap64 (1 + t480)) bt481.1 bt483.1 bt485.1 bt487.1 bt497.1 ((bt502.1.size : Int) != (t479.size : Int))) else (laws_FnFiltered.j0 k t479 (t479.size : Int) (wrap64 (1 + t480)) bt481.1 bt483.1 bt485.1 bt487.1 bt497.1 true)) else (laws_FnFiltered.j0 k t479 (t479.size : Int) (wrap64 (1 + t480)) bt481.1 bt483.1 bt485.1 bt487.1 bt497.1 true)) else (laws_FnFiltered.j0 k t479 (t479.size : Int) (wrap64 (1 + t480)) bt481.1 bt483.1 bt485.1 bt487.1 bt497.1 true)) else (laws_FnFiltered.j0 k t479 (t479.size : Int) (wrap64 (1 + t480)) bt481.1 bt483.1 bt485.1 bt487.1 bt497.1 true)) else (laws_FnFiltered.j0 k t479 (t479.size : Int) (wrap64 (1 + t480)) bt481.1 bt483.1 bt485.1 bt487.1 bt497.1 true)) else (laws_FnFiltered.j0 k t479 (t479.size : Int) (wrap64 (1 + t480)) bt481.1 bt483.1 bt485.1 bt487.1 bt497.1 true)) else (laws_FnFiltered.j0 k t479 (t479.size : Int) (wrap64 (1 + t480)) bt481.1 bt483.1 bt485.1 bt487.1 bt497.1 true)) else (laws_FnFiltered.j0 k t479 (t479.size : Int) (wrap64 (1 + t480)) bt481.1 bt483.1 bt485.1 bt487.1 bt497.1 true)) else (laws_FnFiltered.j0 k t479 (t479.size : Int) (wrap64 (1 + t480)) bt481.1 bt483.1 bt485.1 bt487.1 bt497.1 true)) else (laws_FnFiltered.j0 k t479 (t479.size : Int) (wrap64 (1 + t480)) bt481.1 bt483.1 bt485.1 bt487.1 bt497.1 true)) else (laws_FnFiltered.j0 k t479 (t479.size : Int) (wrap64 (1 + t480)) bt481.1 bt483.1 bt485.1 bt487.1 bt497.1 true)) else (laws_FnFiltered.j0 k t479 (t479.size : Int) (wrap64 (1 + t480)) bt481.1 bt483.1 bt485.1 bt487.1 bt497.1 true)) else (laws_FnFiltered.j0 k t479 (t479.size : Int) (wrap64 (1 + t480)) bt481.1 bt483.1 bt485.1 bt487.1 bt497.1 true)) else (laws_FnFiltered.j0 k t479 (t479.size : Int) (wrap64 (1 + t480)) bt481.1 bt483.1 bt485.1 bt487.1 bt497.1 true))))))))))) = some r := H
  have A6 := Aside0.mk A60
  clear A60
  replace H := Option.bind_eq_some_iff.mp H
  obtain ⟨⟨t481, t482⟩, A70, H⟩ := H
  replace H : ((impl_StretchPulses.f t479 (wrap64 (1 + t480))).bind fun bt483 => ((impl_DropPulses.f t479 (wrap64 (1 + t480))).bind fun bt485 => ((impl_FillGaps.f t479 (wrap64 (1 + t480))).bind fun bt487 => ((impl_ShortPulses.f k t481 (wrap64 (1 + t480))).bind fun bt489 => ((impl_ShortPulses.f k bt483.1 (wrap64 (1 + t480))).bind fun bt493 => ((impl_GapsOf.f bt487.1).bind fun bt497 => ((laws_b10At.f l1 1 4).bind fun t501 => ((impl_MajorityWave.f t479 (wrap64 ((wrap64 (2 * t501)) + 1))).bind fun bt502 => (if t482 = true then (if bt483.2 = true then (if bt485.2 = true then (if bt487.2 = true then (if bt489.2 = true then (if bt493.2 = true then (if bt497.2 = true then (if bt502.2 = true then (if (bt489.1.length : Int) = 0 then (if (bt493.1.length : Int) = 0 then (if (t481.size : Int) = (t479.size : Int) then (if (bt483.1.size : Int) = (t479.size : Int) then (if (bt485.1.size : Int) = (t479.size : Int) then (if (bt487.1.size : Int) = (t479.size : Int) then (laws_FnFiltered.j0 k t479 (t479.size : Int) (wrap64 (1 + t480)) t481 bt483.1 bt485.1 bt487.1 bt497.1 ((bt502.1.size : Int) != (t479.size : Int))) else (laws_FnFiltered.j0 k t479 (t479.size : Int) (wrap64 (1 + t480)) t481 bt483.1 bt485.1 bt487.1 bt497.1 true)) else (laws_FnFiltered.j0 k t479 (t479.size : Int) (wrap64 (1 + t480)) t481 bt483.1 bt485.1 bt487.1 bt497.1 true)) else (laws_FnFiltered.j0 k t479 (t479.size : Int) (wrap64 (1 + t480)) t481 bt483.1 bt485.1 bt487.1 bt497.1 true)) else (laws_FnFiltered.j0 k t479 (t479.size : Int) (wrap64 (1 + t480)) t481 bt483.1 bt485.1 bt487.1 bt497.1 true)) else (laws_FnFiltered.j0 k t479 (t479.size : Int) (wrap64 (1 + t480)) t481 bt483.1 bt485.1 bt487.1 bt497.1 true)) else (laws_FnFiltered.j0 k t479 (t479.size : Int) (wrap64 (1 + t480)) t481 bt483.1 bt485.1 bt487.1 bt497.1 true)) else (laws_FnFiltered.j0 k t479 (t479.size : Int) (wrap64 (1 + t480)) t481 bt483.1 bt485.1 bt487.1 bt497.1 true)) else (laws_FnFiltered.j0 k t479 (t479.size : Int) (wrap64 (1 + t480)) t481 bt483.1 bt485.1 bt487.1 bt497.1 true)) else (laws_FnFiltered.j0 k t479 (t479.size : Int) (wrap64 (1 + t480)) t481 bt483.1 bt485.1 bt487.1 bt497.1 true)) else (laws_FnFiltered.j0 k t479 (t479.size : Int) (wrap64 (1 + t480)) t481 bt483.1 bt485.1 bt487.1 bt497.1 true)) else (laws_FnFiltered.j0 k t479 (t479.size : Int) (wrap64 (1 + t480)) t481 bt483.1 bt485.1 bt487.1 bt497.1 true)) else (laws_FnFiltered.j0 k t479 (t479.size : Int) (wrap64 (1 + t480)) t481 bt483.1 bt485.1 bt487.1 bt497.1 true)) else (laws_FnFiltered.j0 k t479 (t479.size : Int) (wrap64 (1 + t480)) t481 bt483.1 bt485.1 bt487.1 bt497.1 true)) else (laws_FnFiltered.j0 k t479 (t479.size : Int) (wrap64 (1 + t480)) t481 bt483.1 bt485.1 bt487.1 bt497.1 true)))))))))) = some r := H
  have A7 := Aside0.mk A70
  clear A70
  replace H := Option.bind_eq_some_iff.mp H
  obtain ⟨⟨t483, t484⟩, A80, H⟩ := H
  replace H : ((impl_DropPulses.f t479 (wrap64 (1 + t480))).bind fun bt485 => ((impl_FillGaps.f t479 (wrap64 (1 + t480))).bind fun bt487 => ((impl_ShortPulses.f k t481 (wrap64 (1 + t480))).bind fun bt489 => ((impl_ShortPulses.f k t483 (wrap64 (1 + t480))).bind fun bt493 => ((impl_GapsOf.f bt487.1).bind fun bt497 => ((laws_b10At.f l1 1 4).bind fun t501 => ((impl_MajorityWave.f t479 (wrap64 ((wrap64 (2 * t501)) + 1))).bind fun bt502 => (if t482 = true then (if t484 = true then (if bt485.2 = true then (if bt487.2 = true then (if bt489.2 = true then (if bt493.2 = true then (if bt497.2 = true then (if bt502.2 = true then (if (bt489.1.length : Int) = 0 then (if (bt493.1.length : Int) = 0 then (if (t481.size : Int) = (t479.size : Int) then (if (t483.size : Int) = (t479.size : Int) then (if (bt485.1.size : Int) = (t479.size : Int) then (if (bt487.1.size : Int) = (t479.size : Int) then (laws_FnFiltered.j0 k t479 (t479.size : Int) (wrap64 (1 + t480)) t481 t483 bt485.1 bt487.1 bt497.1 ((bt502.1.size : Int) != (t479.size : Int))) else (laws_FnFiltered.j0 k t479 (t479.size : Int) (wrap64 (1 + t480)) t481 t483 bt485.1 bt487.1 bt497.1 true)) else (laws_FnFiltered.j0 k t479 (t479.size : Int) (wrap64 (1 + t480)) t481 t483 bt485.1 bt487.1 bt497.1 true)) else (laws_FnFiltered.j0 k t479 (t479.size : Int) (wrap64 (1 + t480)) t481 t483 bt485.1 bt487.1 bt497.1 true)) else (laws_FnFiltered.j0 k t479 (t479.size : Int) (wrap64 (1 + t480)) t481 t483 bt485.1 bt487.1 bt497.1 true)) else (laws_FnFiltered.j0 k t479 (t479.size : Int) (wrap64 (1 + t480)) t481 t483 bt485.1 bt487.1 bt497.1 true)) else (laws_FnFiltered.j0 k t479 (t479.size : Int) (wrap64 (1 + t480)) t481 t483 bt485.1 bt487.1 bt497.1 true)) else (laws_FnFiltered.j0 k t479 (t479.size : Int) (wrap64 (1 + t480)) t481 t483 bt485.1 bt487.1 bt497.1 true)) else (laws_FnFiltered.j0 k t479 (t479.size : Int) (wrap64 (1 + t480)) t481 t483 bt485.1 bt487.1 bt497.1 true)) else (laws_FnFiltered.j0 k t479 (t479.size : Int) (wrap64 (1 + t480)) t481 t483 bt485.1 bt487.1 bt497.1 true)) else (laws_FnFiltered.j0 k t479 (t479.size : Int) (wrap64 (1 + t480)) t481 t483 bt485.1 bt487.1 bt497.1 true)) else (laws_FnFiltered.j0 k t479 (t479.size : Int) (wrap64 (1 + t480)) t481 t483 bt485.1 bt487.1 bt497.1 true)) else (laws_FnFiltered.j0 k t479 (t479.size : Int) (wrap64 (1 + t480)) t481 t483 bt485.1 bt487.1 bt497.1 true)) else (laws_FnFiltered.j0 k t479 (t479.size : Int) (wrap64 (1 + t480)) t481 t483 bt485.1 bt487.1 bt497.1 true)) else (laws_FnFiltered.j0 k t479 (t479.size : Int) (wrap64 (1 + t480)) t481 t483 bt485.1 bt487.1 bt497.1 true))))))))) = some r := H
  have A8 := Aside0.mk A80
  clear A80
  replace H := Option.bind_eq_some_iff.mp H
  obtain ⟨⟨t485, t486⟩, A90, H⟩ := H
  replace H : ((impl_FillGaps.f t479 (wrap64 (1 + t480))).bind fun bt487 => ((impl_ShortPulses.f k t481 (wrap64 (1 + t480))).bind fun bt489 => ((impl_ShortPulses.f k t483 (wrap64 (1 + t480))).bind fun bt493 => ((impl_GapsOf.f bt487.1).bind fun bt497 => ((laws_b10At.f l1 1 4).bind fun t501 => ((impl_MajorityWave.f t479 (wrap64 ((wrap64 (2 * t501)) + 1))).bind fun bt502 => (if t482 = true then (if t484 = true then (if t486 = true then (if bt487.2 = true then (if bt489.2 = true then (if bt493.2 = true then (if bt497.2 = true then (if bt502.2 = true then (if (bt489.1.length : Int) = 0 then (if (bt493.1.length : Int) = 0 then (if (t481.size : Int) = (t479.size : Int) then (if (t483.size : Int) = (t479.size : Int) then (if (t485.size : Int) = (t479.size : Int) then (if (bt487.1.size : Int) = (t479.size : Int) then (laws_FnFiltered.j0 k t479 (t479.size : Int) (wrap64 (1 + t480)) t481 t483 t485 bt487.1 bt497.1 ((bt502.1.size : Int) != (t479.size : Int))) else (laws_FnFiltered.j0 k t479 (t479.size : Int) (wrap64 (1 + t480)) t481 t483 t485 bt487.1 bt497.1 true)) else (laws_FnFiltered.j0 k t479 (t479.size : Int) (wrap64 (1 + t480)) t481 t483 t485 bt487.1 bt497.1 true)) else (laws_FnFiltered.j0 k t479 (t479.size : Int) (wrap64 (1 + t480)) t481 t483 t485 bt487.1 bt497.1 true)) else (laws_FnFiltered.j0 k t479 (t479.size : Int) (wrap64 (1 + t480)) t481 t483 t485 bt487.1 bt497.1 true)) else (laws_FnFiltered.j0 k t479 (t479.size : Int) (wrap64 (1 + t480)) t481 t483 t485 bt487.1 bt497.1 true)) else (laws_FnFiltered.j0 k t479 (t479.size : Int) (wrap64 (1 + t480)) t481 t483 t485 bt487.1 bt497.1 true)) else (laws_FnFiltered.j0 k t479 (t479.size : Int) (wrap64 (1 + t480)) t481 t483 t485 bt487.1 bt497.1 true)) else (laws_FnFiltered.j0 k t479 (t479.size : Int) (wrap64 (1 + t480)) t481 t483 t485 bt487.1 bt497.1 true)) else (laws_FnFiltered.j0 k t479 (t479.size : Int) (wrap64 (1 + t480)) t481 t483 t485 bt487.1 bt497.1 true)) else (laws_FnFiltered.j0 k t479 (t479.size : Int) (wrap64 (1 + t480)) t481 t483 t485 bt487.1 bt497.1 true)) else (laws_FnFiltered.j0 k t479 (t479.size : Int) (wrap64 (1 + t480)) t481 t483 t485 bt487.1 bt497.1 true)) else (laws_FnFiltered.j0 k t479 (t479.size : Int) (wrap64 (1 + t480)) t481 t483 t485 bt487.1 bt497.1 true)) else (laws_FnFiltered.j0 k t479 (t479.size : Int) (wrap64 (1 + t480)) t481 t483 t485 bt487.1 bt497.1 true)) else (laws_FnFiltered.j0 k t479 (t479.size : Int) (wrap64 (1 + t480)) t481 t483 t485 bt487.1 bt497.1 true)))))))) = some r := H
  have A9 := Aside0.mk A90
  clear A90
  replace H := Option.bind_eq_some_iff.mp H
  obtain ⟨⟨t487, t488⟩, A100, H⟩ := H
  replace H : ((impl_ShortPulses.f k t481 (wrap64 (1 + t480))).bind fun bt489 => ((impl_ShortPulses.f k t483 (wrap64 (1 + t480))).bind fun bt493 => ((impl_GapsOf.f t487).bind fun bt497 => ((laws_b10At.f l1 1 4).bind fun t501 => ((impl_MajorityWave.f t479 (wrap64 ((wrap64 (2 * t501)) + 1))).bind fun bt502 => (if t482 = true then (if t484 = true then (if t486 = true then (if t488 = true then (if bt489.2 = true then (if bt493.2 = true then (if bt497.2 = true then (if bt502.2 = true then (if (bt489.1.length : Int) = 0 then (if (bt493.1.length : Int) = 0 then (if (t481.size : Int) = (t479.size : Int) then (if (t483.size : Int) = (t479.size : Int) then (if (t485.size : Int) = (t479.size : Int) then (if (t487.size : Int) = (t479.size : Int) then (laws_FnFiltered.j0 k t479 (t479.size : Int) (wrap64 (1 + t480)) t481 t483 t485 t487 bt497.1 ((bt502.1.size : Int) != (t479.size : Int))) else (laws_FnFiltered.j0 k t479 (t479.size : Int) (wrap64 (1 + t480)) t481 t483 t485 t487 bt497.1 true)) else (laws_FnFiltered.j0 k t479 (t479.size : Int) (wrap64 (1 + t480)) t481 t483 t485 t487 bt497.1 true)) else (laws_FnFiltered.j0 k t479 (t479.size : Int) (wrap64 (1 + t480)) t481 t483 t485 t487 bt497.1 true)) else (laws_FnFiltered.j0 k t479 (t479.size : Int) (wrap64 (1 + t480)) t481 t483 t485 t487 bt497.1 true)) else (laws_FnFiltered.j0 k t479 (t479.size : Int) (wrap64 (1 + t480)) t481 t483 t485 t487 bt497.1 true)) else (laws_FnFiltered.j0 k t479 (t479.size : Int) (wrap64 (1 + t480)) t481 t483 t485 t487 bt497.1 true)) else (laws_FnFiltered.j0 k t479 (t479.size : Int) (wrap64 (1 + t480)) t481 t483 t485 t487 bt497.1 true)) else (laws_FnFiltered.j0 k t479 (t479.size : Int) (wrap64 (1 + t480)) t481 t483 t485 t487 bt497.1 true)) else (laws_FnFiltered.j0 k t479 (t479.size : Int) (wrap64 (1 + t480)) t481 t483 t485 t487 bt497.1 true)) else (laws_FnFiltered.j0 k t479 (t479.size : Int) (wrap64 (1 + t480)) t481 t483 t485 t487 bt497.1 true)) else (laws_FnFiltered.j0 k t479 (t479.size : Int) (wrap64 (1 + t480)) t481 t483 t485 t487 bt497.1 true)) else (laws_FnFiltered.j0 k t479 (t479.size : Int) (wrap64 (1 + t480)) t481 t483 t485 t487 bt497.1 true)) else (laws_FnFiltered.j0 k t479 (t479.size : Int) (wrap64 (1 + t480)) t481 t483 t485 t487 bt497.1 true)) else (laws_FnFiltered.j0 k t479 (t479.size : Int) (wrap64 (1 + t480)) t481 t483 t485 t487 bt497.1 true))))))) = some r := H
  have A10 := Aside0.mk A100
  clear A100
  replace H := Option.bind_eq_some_iff.mp H
  obtain ⟨⟨t489, t490⟩, A110, H⟩ := H
  replace H : ((impl_ShortPulses.f k t483 (wrap64 (1 + t480))).bind fun bt493 => ((impl_GapsOf.f t487).bind fun bt497 => ((laws_b10At.f l1 1 4).bind fun t501 => ((impl_MajorityWave.f t479 (wrap64 ((wrap64 (2 * t501)) + 1))).bind fun bt502 => (if t482 = true then (if t484 = true then (if t486 = true then (if t488 = true then (if t490 = true then (if bt493.2 = true then (if bt497.2 = true then (if bt502.2 = true then (if (t489.length : Int) = 0 then (if (bt493.1.length : Int) = 0 then (if (t481.size : Int) = (t479.size : Int) then (if (t483.size : Int) = (t479.size : Int) then (if (t485.size : Int) = (t479.size : Int) then (if (t487.size : Int) = (t479.size : Int) then (laws_FnFiltered.j0 k t479 (t479.size : Int) (wrap64 (1 + t480)) t481 t483 t485 t487 bt497.1 ((bt502.1.size : Int) != (t479.size : Int))) else (laws_FnFiltered.j0 k t479 (t479.size : Int) (wrap64 (1 + t480)) t481 t483 t485 t487 bt497.1 true)) else (laws_FnFiltered.j0 k t479 (t479.size : Int) (wrap64 (1 + t480)) t481 t483 t485 t487 bt497.1 true)) else (laws_FnFiltered.j0 k t479 (t479.size : Int) (wrap64 (1 + t480)) t481 t483 t485 t487 bt497.1 true)) else (laws_FnFiltered.j0 k t479 (t479.size : Int) (wrap64 (1 + t480)) t481 t483 t485 t487 bt497.1 true)) else (laws_FnFiltered.j0 k t479 (t479.size : Int) (wrap64 (1 + t480)) t481 t483 t485 t487 bt497.1 true)) else (laws_FnFiltered.j0 k t479 (t479.size : Int) (wrap64 (1 + t480)) t481 t483 t485 t487 bt497.1 true)) else (laws_FnFiltered.j0 k t479 (t479.size : Int) (wrap64 (1 + t480)) t481 t483 t485 t487 bt497.1 true)) else (laws_FnFiltered.j0 k t479 (t479.size : Int) (wrap64 (1 + t480)) t481 t483 t485 t487 bt497.1 true)) else (laws_FnFiltered.j0 k t479 (t479.size : Int) (wrap64 (1 + t480)) t481 t483 t485 t487 bt497.1 true)) else (laws_FnFiltered.j0 k t479 (t479.size : Int) (wrap64 (1 + t480)) t481 t483 t485 t487 bt497.1 true)) else (laws_FnFiltered.j0 k t479 (t479.size : Int) (wrap64 (1 + t480)) t481 t483 t485 t487 bt497.1 true)) else (laws_FnFiltered.j0 k t479 (t479.size : Int) (wrap64 (1 + t480)) t481 t483 t485 t487 bt497.1 true)) else (laws_FnFiltered.j0 k t479 (t479.size : Int) (wrap64 (1 + t480)) t481 t483 t485 t487 bt497.1 true)) else (laws_FnFiltered.j0 k t479 (t479.size : Int) (wrap64 (1 + t480)) t481 t483 t485 t487 bt497.1 true)))))) = some r := H
  have A11 := Aside0.mk A110
  clear A110
  replace H := Option.bind_eq_some_iff.mp H
  obtain ⟨⟨t493, t494⟩, A120, H⟩ := H
  replace H : ((impl_GapsOf.f t487).bind fun bt497 => ((laws_b10At.f l1 1 4).bind fun t501 => ((impl_MajorityWave.f t479 (wrap64 ((wrap64 (2 * t501)) + 1))).bind fun bt502 => (if t482 = true then (if t484 = true then (if t486 = true then (if t488 = true then (if t490 = true then (if t494 = true then (if bt497.2 = true then (if bt502.2 = true then (if (t489.length : Int) = 0 then (if (t493.length : Int) = 0 then (if (t481.size : Int) = (t479.size : Int) then (if (t483.size : Int) = (t479.size : Int) then (if (t485.size : Int) = (t479.size : Int) then (if (t487.size : Int) = (t479.size : Int) then (laws_FnFiltered.j0 k t479 (t479.size : Int) (wrap64 (1 + t480)) t481 t483 t485 t487 bt497.1 ((bt502.1.size : Int) != (t479.size : Int))) else (laws_FnFiltered.j0 k t479 (t479.size : Int) (wrap64 (1 + t480)) t481 t483 t485 t487 bt497.1 true)) else (laws_FnFiltered.j0 k t479 (t479.size : Int) (wrap64 (1 + t480)) t481 t483 t485 t487 bt497.1 true)) else (laws_FnFiltered.j0 k t479 (t479.size : Int) (wrap64 (1 + t480)) t481 t483 t485 t487 bt497.1 true)) else (laws_FnFiltered.j0 k t479 (t479.size : Int) (wrap64 (1 + t480)) t481 t483 t485 t487 bt497.1 true)) else (laws_FnFiltered.j0 k t479 (t479.size : Int) (wrap64 (1 + t480)) t481 t483 t485 t487 bt497.1 true)) else (laws_FnFiltered.j0 k t479 (t479.size : Int) (wrap64 (1 + t480)) t481 t483 t485 t487 bt497.1 true)) else (laws_FnFiltered.j0 k t479 (t479.size : Int) (wrap64 (1 + t480)) t481 t483 t485 t487 bt497.1 true)) else (laws_FnFiltered.j0 k t479 (t479.size : Int) (wrap64 (1 + t480)) t481 t483 t485 t487 bt497.1 true)) else (laws_FnFiltered.j0 k t479 (t479.size : Int) (wrap64 (1 + t480)) t481 t483 t485 t487 bt497.1 true)) else (laws_FnFiltered.j0 k t479 (t479.size : Int) (wrap64 (1 + t480)) t481 t483 t485 t487 bt497.1 true)) else (laws_FnFiltered.j0 k t479 (t479.size : Int) (wrap64 (1 + t480)) t481 t483 t485 t487 bt497.1 true)) else (laws_FnFiltered.j0 k t479 (t479.size : Int) (wrap64 (1 + t480)) t481 t483 t485 t487 bt497.1 true)) else (laws_FnFiltered.j0 k t479 (t479.size : Int) (wrap64 (1 + t480)) t481 t483 t485 t487 bt497.1 true)) else (laws_FnFiltered.j0 k t479 (t479.size : Int) (wrap64 (1 + t480)) t481 t483 t485 t487 bt497.1 true))))) = some r := H
  have A12 := Aside0.mk A120
  clear A120
  replace H := Option.bind_eq_some_iff.mp H
  obtain ⟨⟨t497, t498⟩, A130, H⟩ := H
  replace H : ((laws_b10At.f l1 1 4).bind fun t501 => ((impl_MajorityWave.f t479 (wrap64 ((wrap64 (2 * t501)) + 1))).bind fun bt502 => (if t482 = true then (if t484 = true then (if t486 = true then (if t488 = true then (if t490 = true then (if t494 = true then (if t498 = true then (if bt502.2 = true then (if (t489.length : Int) = 0 then (if (t493.length : Int) = 0 then (if (t481.size : Int) = (t479.size : Int) then (if (t483.size : Int) = (t479.size : Int) then (if (t485.size : Int) = (t479.size : Int) then (if (t487.size : Int) = (t479.size : Int) then (laws_FnFiltered.j0 k t479 (t479.size : Int) (wrap64 (1 + t480)) t481 t483 t485 t487 t497 ((bt502.1.size : Int) != (t479.size : Int))) else (laws_FnFiltered.j0 k t479 (t479.size : Int) (wrap64 (1 + t480)) t481 t483 t485 t487 t497 true)) else (laws_FnFiltered.j0 k t479 (t479.size : Int) (wrap64 (1 + t480)) t481 t483 t485 t487 t497 true)) else (laws_FnFiltered.j0 k t479 (t479.size : Int) (wrap64 (1 + t480)) t481 t483 t485 t487 t497 true)) else (laws_FnFiltered.j0 k t479 (t479.size : Int) (wrap64 (1 + t480)) t481 t483 t485 t487 t497 true)) else (laws_FnFiltered.j0 k t479 (t479.size : Int) (wrap64 (1 + t480)) t481 t483 t485 t487 t497 true)) else (laws_FnFiltered.j0 k t479 (t479.size : Int) (wrap64 (1 + t480)) t481 t483 t485 t487 t497 true)) else (laws_FnFiltered.j0 k t479 (t479.size : Int) (wrap64 (1 + t480)) t481 t483 t485 t487 t497 true)) else (laws_FnFiltered.j0 k t479 (t479.size : Int) (wrap64 (1 + t480)) t481 t483 t485 t487 t497 true)) else (laws_FnFiltered.j0 k t479 (t479.size : Int) (wrap64 (1 + t480)) t481 t483 t485 t487 t497 true)) else (laws_FnFiltered.j0 k t479 (t479.size : Int) (wrap64 (1 + t480)) t481 t483 t485 t487 t497 true)) else (laws_FnFiltered.j0 k t479 (t479.size : Int) (wrap64 (1 + t480)) t481 t483 t485 t487 t497 true)) else (laws_FnFiltered.j0 k t479 (t479.size : Int) (wrap64 (1 + t480)) t481 t483 t485 t487 t497 true)) else (laws_FnFiltered.j0 k t479 (t479.size : Int) (wrap64 (1 + t480)) t481 t483 t485 t487 t497 true)) else (laws_FnFiltered.j0 k t479 (t479.size : Int) (wrap64 (1 + t480)) t481 t483 t485 t487 t497 true)))) = some r := H
  have A13 := Aside0.mk A130
  clear A130
  replace H := Option.bind_eq_some_iff.mp H
  obtain ⟨t501, A140, H⟩ := H
  replace H : ((impl_MajorityWave.f t479 (wrap64 ((wrap64 (2 * t501)) + 1))).bind fun bt502 => (if t482 = true then (if t484 = true then (if t486 = true then (if t488 = true then (if t490 = true then (if t494 = true then (if t498 = true then (if bt502.2 = true then (if (t489.length : Int) = 0 then (if (t493.length : Int) = 0 then (if (t481.size : Int) = (t479.size : Int) then (if (t483.size : Int) = (t479.size : Int) then (if (t485.size : Int) = (t479.size : Int) then (if (t487.size : Int) = (t479.size : Int) then (laws_FnFiltered.j0 k t479 (t479.size : Int) (wrap64 (1 + t480)) t481 t483 t485 t487 t497 ((bt502.1.size : Int) != (t479.size : Int))) else (laws_FnFiltered.j0 k t479 (t479.size : Int) (wrap64 (1 + t480)) t481 t483 t485 t487 t497 true)) else (laws_FnFiltered.j0 k t479 (t479.size : Int) (wrap64 (1 + t480)) t481 t483 t485 t487 t497 true)) else (laws_FnFiltered.j0 k t479 (t479.size : Int) (wrap64 (1 + t480)) t481 t483 t485 t487 t497 true)) else (laws_FnFiltered.j0 k t479 (t479.size : Int) (wrap64 (1 + t480)) t481 t483 t485 t487 t497 true)) else (laws_FnFiltered.j0 k t479 (t479.size : Int) (wrap64 (1 + t480)) t481 t483 t485 t487 t497 true)) else (laws_FnFiltered.j0 k t479 (t479.size : Int) (wrap64 (1 + t480)) t481 t483 t485 t487 t497 true)) else (laws_FnFiltered.j0 k t479 (t479.size : Int) (wrap64 (1 + t480)) t481 t483 t485 t487 t497 true)) else (laws_FnFiltered.j0 k t479 (t479.size : Int) (wrap64 (1 + t480)) t481 t483 t485 t487 t497 true)) else (laws_FnFiltered.j0 k t479 (t479.size : Int) (wrap64 (1 + t480)) t481 t483 t485 t487 t497 true)) else (laws_FnFiltered.j0 k t479 (t479.size : Int) (wrap64 (1 + t480)) t481 t483 t485 t487 t497 true)) else (laws_FnFiltered.j0 k t479 (t479.size : Int) (wrap64 (1 + t480)) t481 t483 t485 t487 t497 true)) else (laws_FnFiltered.j0 k t479 (t479.size : Int) (wrap64 (1 + t480)) t481 t483 t485 t487 t497 true)) else (laws_FnFiltered.j0 k t479 (t479.size : Int) (wrap64 (1 + t480)) t481 t483 t485 t487 t497 true)) else (laws_FnFiltered.j0 k t479 (t479.size : Int) (wrap64 (1 + t480)) t481 t483 t485 t487 t497 true))) = some r := H
  have A14 := Aside0.mk A140
  clear A140
  replace H := Option.bind_eq_some_iff.mp H
  obtain ⟨⟨t502, t503⟩, A150, H⟩ := H
  replace H : (if t482 = true then (if t484 = true then (if t486 = true then (if t488 = true then (if t490 = true then (if t494 = true then (if t498 = true then (if t503 = true then (if (t489.length : Int) = 0 then (if (t493.length : Int) = 0 then (if (t481.size : Int) = (t479.size : Int) then (if (t483.size : Int) = (t479.size : Int) then (if (t485.size : Int) = (t479.size : Int) then (if (t487.size : Int) = (t479.size : Int) then (laws_FnFiltered.j0 k t479 (t479.size : Int) (wrap64 (1 + t480)) t481 t483 t485 t487 t497 ((t502.size : Int) != (t479.size : Int))) else (laws_FnFiltered.j0 k t479 (t479.size : Int) (wrap64 (1 + t480)) t481 t483 t485 t487 t497 true)) else (laws_FnFiltered.j0 k t479 (t479.size : Int) (wrap64 (1 + t480)) t481 t483 t485 t487 t497 true)) else (laws_FnFiltered.j0 k t479 (t479.size : Int) (wrap64 (1 + t480)) t481 t483 t485 t487 t497 true)) else (laws_FnFiltered.j0 k t479 (t479.size : Int) (wrap64 (1 + t480)) t481 t483 t485 t487 t497 true)) else (laws_FnFiltered.j0 k t479 (t479.size : Int) (wrap64 (1 + t480)) t481 t483 t485 t487 t497 true)) else (laws_FnFiltered.j0 k t479 (t479.size : Int) (wrap64 (1 + t480)) t481 t483 t485 t487 t497 true)) else (laws_FnFiltered.j0 k t479 (t479.size : Int) (wrap64 (1 + t480)) t481 t483 t485 t487 t497 true)) else (laws_FnFiltered.j0 k t479 (t479.size : Int) (wrap64 (1 + t480)) t481 t483 t485 t487 t497 true)) else (laws_FnFiltered.j0 k t479 (t479.size : Int) (wrap64 (1 + t480)) t481 t483 t485 t487 t497 true)) else (laws_FnFiltered.j0 k t479 (t479.size : Int) (wrap64 (1 + t480)) t481 t483 t485 t487 t497 true)) else (laws_FnFiltered.j0 k t479 (t479.size : Int) (wrap64 (1 + t480)) t481 t483 t485 t487 t497 true)) else (laws_FnFiltered.j0 k t479 (t479.size : Int) (wrap64 (1 + t480)) t481 t483 t485 t487 t497 true)) else (laws_FnFiltered.j0 k t479 (t479.size : Int) (wrap64 (1 + t480)) t481 t483 t485 t487 t497 true)) else (laws_FnFiltered.j0 k t479 (t479.size : Int) (wrap64 (1 + t480)) t481 t483 t485 t487 t497 true)) = some r := H
  have A15 := Aside0.mk A150
  clear A150
  have HC16 := Aside0.mk H
  clear H
  go_enter Tryd.func10, Tryd.ntmps10
  go_upto_region 14 with (first | (go_at_call 25; (with_reducible refine (laws_b10Long.calls _ _ l0 _ _ l1 false _ ?side1 ?side2 ?side3 ?side4 A3.out).mono ?_); (case side1 => repeat (first | exact HR0.out | (with_reducible refine Kd.C_alloc ?_ _) | (with_reducible refine Kd.C_drewN ?_ _) | (with_reducible refine Kd.C_drew ?_))); (case side2 => first | exact trivial | (exact HC0.out)); (case side3 => repeat (first | exact HR1.out | (with_reducible refine Kd.C_alloc ?_ _) | (with_reducible refine Kd.C_drewN ?_ _) | (with_reducible refine Kd.C_drew ?_))); (case side4 => first | exact trivial | (exact HC1.out)); rintro e w' ⟨rfl, ⟨nd, rfl⟩⟩; (try first | exact ⟨rfl, _, World.drewN_drewN _ _ _⟩ | exact ⟨rfl, _, Eq.trans (World.drewN_drewN _ _ _) (congrArg (World.drewN _) (Nat.add_assoc _ _ _))⟩)) | (go_at_call 31; (with_reducible refine (spec_B10Wave.calls k _ _ l0 t479 _ ?side1 ?side2 A5.out).mono ?_); (case side1 => repeat (first | exact HR0.out | (with_reducible refine Kd.C_alloc ?_ _) | (with_reducible refine Kd.C_drewN ?_ _) | (with_reducible refine Kd.C_drew ?_))); (case side2 => first | exact trivial | (exact HC0.out)); rintro e w17 ⟨rfl, hb⟩; have n0_ := Aside0.mk (below_step (by repeat (first | (with_reducible first | exact HB.out | apply below_alloc | apply pw_below_drewN | apply below_drew1) | exact HB.out)) hb); clear HB; have HB := n0_; clear n0_; (try clear hb); (try clear hb2); (try clear hk); (try clear hi)) | (go_at_call 26; (with_reducible refine (laws_b10At.calls _ _ l1 0 6 t480 _ ?side1 ?side2 A6.out).mono ?_); (case side1 => repeat (first | exact (Kd.C_below HR1.out HB.out) | (with_reducible refine Kd.C_alloc ?_ _) | (with_reducible refine Kd.C_drewN ?_ _) | (with_reducible refine Kd.C_drew ?_))); (case side2 => first | exact trivial | (exact HC1.out)); rintro e w' ⟨rfl, ⟨nd, rfl⟩⟩; (try first | exact ⟨rfl, _, World.drewN_drewN _ _ _⟩ | exact ⟨rfl, _, Eq.trans (World.drewN_drewN _ _ _) (congrArg (World.drewN _) (Nat.add_assoc _ _ _))⟩)) | (go_at_call 38; (with_reducible refine (impl_Debounce.calls t479 (wrap64 (1 + t480)) t481 t482 _ A7.out).mono ?_); rintro e w18 ⟨rfl, hb⟩; have n0_ := Aside0.mk (below_step (by repeat (first | (with_reducible first | exact HB.out | apply below_alloc | apply pw_below_drewN | apply below_drew1) | exact HB.out)) hb); clear HB; have HB := n0_; clear n0_; (try clear hb); (try clear hb2); (try clear hk); (try clear hi)) | (go_at_call 39; (with_reducible refine (impl_StretchPulses.calls t479 (wrap64 (1 + t480)) t483 t484 _ A8.out).mono ?_); rintro e w19 ⟨rfl, hb⟩; have n0_ := Aside0.mk (below_step (by repeat (first | (with_reducible first | exact HB.out | apply below_alloc | apply pw_below_drewN | apply below_drew1) | exact HB.out)) hb); clear HB; have HB := n0_; clear n0_; (try clear hb); (try clear hb2); (try clear hk); (try clear hi)) | (go_at_call 40; (with_reducible refine (impl_DropPulses.calls t479 (wrap64 (1 + t480)) t485 t486 _ A9.out).mono ?_); rintro e w20 ⟨rfl, hb⟩; have n0_ := Aside0.mk (below_step (by repeat (first | (with_reducible first | exact HB.out | apply below_alloc | apply pw_below_drewN | apply below_drew1) | exact HB.out)) hb); clear HB; have HB := n0_; clear n0_; (try clear hb); (try clear hb2); (try clear hk); (try clear hi)) | (go_at_call 41; (with_reducible refine (impl_FillGaps.calls t479 (wrap64 (1 + t480)) t487 t488 _ A10.out).mono ?_); rintro e w21 ⟨rfl, hb⟩; have n0_ := Aside0.mk (below_step (by repeat (first | (with_reducible first | exact HB.out | apply below_alloc | apply pw_below_drewN | apply below_drew1) | exact HB.out)) hb); clear HB; have HB := n0_; clear n0_; (try clear hb); (try clear hb2); (try clear hk); (try clear hi)) | (go_at_call 34; (with_reducible refine (impl_ShortPulses.calls k t481 (wrap64 (1 + t480)) t489 t490 _ A11.out).mono ?_); rintro e w22 ⟨v491, rfl, ho0, hb⟩; have n0_ := Aside0.mk (Kd.R_lower ho0 (below_size (by repeat (first | (with_reducible first | exact HB.out | apply below_alloc | apply pw_below_drewN | apply below_drew1) | exact HB.out)))); have n1_ := Aside0.mk (below_step (by repeat (first | (with_reducible first | exact HB.out | apply below_alloc | apply pw_below_drewN | apply below_drew1) | exact HB.out)) hb); clear HB; have HO492 := n0_; have HB := n1_; clear n0_ n1_; (try clear hb); (try clear hb2); (try clear hk); (try clear hi); (try clear ho0)) | (go_at_call 34; (with_reducible refine (impl_ShortPulses.calls k t483 (wrap64 (1 + t480)) t493 t494 _ A12.out).mono ?_); rintro e w23 ⟨v495, rfl, ho0, hb⟩; have n0_ := Aside0.mk (Kd.R_elder' (by (with_reducible repeat (first | apply Kd.R_alloc | apply Kd.R_drewN | apply Kd.R_drew)); exact HO492.out) (Kd.R_base ho0) hb); have n1_ := Aside0.mk (Kd.R_lower (Kd.R_new' ho0 (Kd.R_lt (by (with_reducible repeat (first | apply Kd.R_alloc | apply Kd.R_drewN | apply Kd.R_drew)); exact HO492.out))) (below_size (by repeat (first | (with_reducible first | exact HB.out | apply below_alloc | apply pw_below_drewN | apply below_drew1) | exact HB.out)))); have n2_ := Aside0.mk (below_step (by repeat (first | (with_reducible first | exact HB.out | apply below_alloc | apply pw_below_drewN | apply below_drew1) | exact HB.out)) hb); clear HO492; clear HB; have HO492 := n0_; have HO496 := n1_; have HB := n2_; clear n0_ n1_ n2_; (try clear hb); (try clear hb2); (try clear hk); (try clear hi); (try clear ho0)) | (go_at_call 42; (with_reducible refine (impl_GapsOf.calls t487 t497 t498 _ A13.out).mono ?_); rintro e w24 ⟨v499, rfl, ho0, hb⟩; have n0_ := Aside0.mk (Kd.R_elder' (by (with_reducible repeat (first | apply Kd.R_alloc | apply Kd.R_drewN | apply Kd.R_drew)); exact HO492.out) (Kd.R_base ho0) hb); have n1_ := Aside0.mk (Kd.R_elder' (by (with_reducible repeat (first | apply Kd.R_alloc | apply Kd.R_drewN | apply Kd.R_drew)); exact HO496.out) (Kd.R_base ho0) hb); have n2_ := Aside0.mk (Kd.R_lower (Kd.R_new' (Kd.R_new' ho0 (Kd.R_lt (by (with_reducible repeat (first | apply Kd.R_alloc | apply Kd.R_drewN | apply Kd.R_drew)); exact HO492.out))) (Kd.R_lt (by (with_reducible repeat (first | apply Kd.R_alloc | apply Kd.R_drewN | apply Kd.R_drew)); exact HO496.out))) (below_size (by repeat (first | (with_reducible first | exact HB.out | apply below_alloc | apply pw_below_drewN | apply below_drew1) | exact HB.out)))); have n3_ := Aside0.mk (below_step (by repeat (first | (with_reducible first | exact HB.out | apply below_alloc | apply pw_below_drewN | apply below_drew1) | exact HB.out)) hb); clear HO492; clear HO496; clear HB; have HO492 := n0_; have HO496 := n1_; have HO500 := n2_; have HB := n3_; clear n0_ n1_ n2_ n3_; (try clear hb); (try clear hb2); (try clear hk); (try clear hi); (try clear ho0)) | (go_at_call 26; (with_reducible refine (laws_b10At.calls _ _ l1 1 4 t501 _ ?side1 ?side2 A14.out).mono ?_); (case side1 => repeat (first | exact (Kd.C_below HR1.out HB.out) | (with_reducible refine Kd.C_alloc ?_ _) | (with_reducible refine Kd.C_drewN ?_ _) | (with_reducible refine Kd.C_drew ?_))); (case side2 => first | exact trivial | (exact HC1.out)); rintro e w' ⟨rfl, ⟨nd, rfl⟩⟩; (try first | exact ⟨rfl, _, World.drewN_drewN _ _ _⟩ | exact ⟨rfl, _, Eq.trans (World.drewN_drewN _ _ _) (congrArg (World.drewN _) (Nat.add_assoc _ _ _))⟩)) | (go_at_call 43; (with_reducible refine (impl_MajorityWave.calls t479 (wrap64 ((wrap64 (2 * t501)) + 1)) t502 t503 _ A15.out).mono ?_); rintro e w25 ⟨rfl, hb⟩; have n0_ := Aside0.mk (Kd.R_below (by (with_reducible repeat (first | apply Kd.R_alloc | apply Kd.R_drewN | apply Kd.R_drew)); exact HO492.out) hb); have n1_ := Aside0.mk (Kd.R_below (by (with_reducible repeat (first | apply Kd.R_alloc | apply Kd.R_drewN | apply Kd.R_drew)); exact HO496.out) hb); have n2_ := Aside0.mk (Kd.R_below (by (with_reducible repeat (first | apply Kd.R_alloc | apply Kd.R_drewN | apply Kd.R_drew)); exact HO500.out) hb); have n3_ := Aside0.mk (below_step (by repeat (first | (with_reducible first | exact HB.out | apply below_alloc | apply pw_below_drewN | apply below_drew1) | exact HB.out)) hb); clear HO492; clear HO496; clear HO500; clear HB; have HO492 := n0_; have HO496 := n1_; have HO500 := n2_; have HB := n3_; clear n0_ n1_ n2_ n3_; (try clear hb); (try clear hb2); (try clear hk); (try clear hi)))
  repeat (go_quiet (first | (go_at_call 25; (with_reducible refine (laws_b10Long.calls _ _ l0 _ _ l1 false _ ?side1 ?side2 ?side3 ?side4 A3.out).mono ?_); (case side1 => repeat (first | exact HR0.out | (with_reducible refine Kd.C_alloc ?_ _) | (with_reducible refine Kd.C_drewN ?_ _) | (with_reducible refine Kd.C_drew ?_))); (case side2 => first | exact trivial | (exact HC0.out)); (case side3 => repeat (first | exact HR1.out | (with_reducible refine Kd.C_alloc ?_ _) | (with_reducible refine Kd.C_drewN ?_ _) | (with_reducible refine Kd.C_drew ?_))); (case side4 => first | exact trivial | (exact HC1.out)); rintro e w' ⟨rfl, ⟨nd, rfl⟩⟩; (try first | exact ⟨rfl, _, World.drewN_drewN _ _ _⟩ | exact ⟨rfl, _, Eq.trans (World.drewN_drewN _ _ _) (congrArg (World.drewN _) (Nat.add_assoc _ _ _))⟩)) | (go_at_call 31; (with_reducible refine (spec_B10Wave.calls k _ _ l0 t479 _ ?side1 ?side2 A5.out).mono ?_); (case side1 => repeat (first | exact HR0.out | (with_reducible refine Kd.C_alloc ?_ _) | (with_reducible refine Kd.C_drewN ?_ _) | (with_reducible refine Kd.C_drew ?_))); (case side2 => first | exact trivial | (exact HC0.out)); rintro e w17 ⟨rfl, hb⟩; have n0_ := Aside0.mk (below_step (by repeat (first | (with_reducible first | exact HB.out | apply below_alloc | apply pw_below_drewN | apply below_drew1) | exact HB.out)) hb); clear HB; have HB := n0_; clear n0_; (try clear hb); (try clear hb2); (try clear hk); (try clear hi)) | (go_at_call 26; (with_reducible refine (laws_b10At.calls _ _ l1 0 6 t480 _ ?side1 ?side2 A6.out).mono ?_); (case side1 => repeat (first | exact (Kd.C_below HR1.out HB.out) | (with_reducible refine Kd.C_alloc ?_ _) | (with_reducible refine Kd.C_drewN ?_ _) | (with_reducible refine Kd.C_drew ?_))); (case side2 => first | exact trivial | (exact HC1.out)); rintro e w' ⟨rfl, ⟨nd, rfl⟩⟩; (try first | exact ⟨rfl, _, World.drewN_drewN _ _ _⟩ | exact ⟨rfl, _, Eq.trans (World.drewN_drewN _ _ _) (congrArg (World.drewN _) (Nat.add_assoc _ _ _))⟩)) | (go_at_call 38; (with_reducible refine (impl_Debounce.calls t479 (wrap64 (1 + t480)) t481 t482 _ A7.out).mono ?_); rintro e w18 ⟨rfl, hb⟩; have n0_ := Aside0.mk (below_step (by repeat (first | (with_reducible first | exact HB.out | apply below_alloc | apply pw_below_drewN | apply below_drew1) | exact HB.out)) hb); clear HB; have HB := n0_; clear n0_; (try clear hb); (try clear hb2); (try clear hk); (try clear hi)) | (go_at_call 39; (with_reducible refine (impl_StretchPulses.calls t479 (wrap64 (1 + t480)) t483 t484 _ A8.out).mono ?_); rintro e w19 ⟨rfl, hb⟩; have n0_ := Aside0.mk (below_step (by repeat (first | (with_reducible first | exact HB.out | apply below_alloc | apply pw_below_drewN | apply below_drew1) | exact HB.out)) hb); clear HB; have HB := n0_; clear n0_; (try clear hb); (try clear hb2); (try clear hk); (try clear hi)) | (go_at_call 40; (with_reducible refine (impl_DropPulses.calls t479 (wrap64 (1 + t480)) t485 t486 _ A9.out).mono ?_); rintro e w20 ⟨rfl, hb⟩; have n0_ := Aside0.mk (below_step (by repeat (first | (with_reducible first | exact HB.out | apply below_alloc | apply pw_below_drewN | apply below_drew1) | exact HB.out)) hb); clear HB; have HB := n0_; clear n0_; (try clear hb); (try clear hb2); (try clear hk); (try clear hi)) | (go_at_call 41; (with_reducible refine (impl_FillGaps.calls t479 (wrap64 (1 + t480)) t487 t488 _ A10.out).mono ?_); rintro e w21 ⟨rfl, hb⟩; have n0_ := Aside0.mk (below_step (by repeat (first | (with_reducible first | exact HB.out | apply below_alloc | apply pw_below_drewN | apply below_drew1) | exact HB.out)) hb); clear HB; have HB := n0_; clear n0_; (try clear hb); (try clear hb2); (try clear hk); (try clear hi)) | (go_at_call 34; (with_reducible refine (impl_ShortPulses.calls k t481 (wrap64 (1 + t480)) t489 t490 _ A11.out).mono ?_); rintro e w22 ⟨v491, rfl, ho0, hb⟩; have n0_ := Aside0.mk (Kd.R_lower ho0 (below_size (by repeat (first | (with_reducible first | exact HB.out | apply below_alloc | apply pw_below_drewN | apply below_drew1) | exact HB.out)))); have n1_ := Aside0.mk (below_step (by repeat (first | (with_reducible first | exact HB.out | apply below_alloc | apply pw_below_drewN | apply below_drew1) | exact HB.out)) hb); clear HB; have HO492 := n0_; have HB := n1_; clear n0_ n1_; (try clear hb); (try clear hb2); (try clear hk); (try clear hi); (try clear ho0)) | (go_at_call 34; (with_reducible refine (impl_ShortPulses.calls k t483 (wrap64 (1 + t480)) t493 t494 _ A12.out).mono ?_); rintro e w23 ⟨v495, rfl, ho0, hb⟩; have n0_ := Aside0.mk (Kd.R_elder' (by (with_reducible repeat (first | apply Kd.R_alloc | apply Kd.R_drewN | apply Kd.R_drew)); exact HO492.out) (Kd.R_base ho0) hb); have n1_ := Aside0.mk (Kd.R_lower (Kd.R_new' ho0 (Kd.R_lt (by (with_reducible repeat (first | apply Kd.R_alloc | apply Kd.R_drewN | apply Kd.R_drew)); exact HO492.out))) (below_size (by repeat (first | (with_reducible first | exact HB.out | apply below_alloc | apply pw_below_drewN | apply below_drew1) | exact HB.out)))); have n2_ := Aside0.mk (below_step (by repeat (first | (with_reducible first | exact HB.out | apply below_alloc | apply pw_below_drewN | apply below_drew1) | exact HB.out)) hb); clear HO492; clear HB; have HO492 := n0_; have HO496 := n1_; have HB := n2_; clear n0_ n1_ n2_; (try clear hb); (try clear hb2); (try clear hk); (try clear hi); (try clear ho0)) | (go_at_call 42; (with_reducible refine (impl_GapsOf.calls t487 t497 t498 _ A13.out).mono ?_); rintro e w24 ⟨v499, rfl, ho0, hb⟩; have n0_ := Aside0.mk (Kd.R_elder' (by (with_reducible repeat (first | apply Kd.R_alloc | apply Kd.R_drewN | apply Kd.R_drew)); exact HO492.out) (Kd.R_base ho0) hb); have n1_ := Aside0.mk (Kd.R_elder' (by (with_reducible repeat (first | apply Kd.R_alloc | apply Kd.R_drewN | apply Kd.R_drew)); exact HO496.out) (Kd.R_base ho0) hb); have n2_ := Aside0.mk (Kd.R_lower (Kd.R_new' (Kd.R_new' ho0 (Kd.R_lt (by (with_reducible repeat (first | apply Kd.R_alloc | apply Kd.R_drewN | apply Kd.R_drew)); exact HO492.out))) (Kd.R_lt (by (with_reducible repeat (first | apply Kd.R_alloc | apply Kd.R_drewN | apply Kd.R_drew)); exact HO496.out))) (below_size (by repeat (first | (with_reducible first | exact HB.out | apply below_alloc | apply pw_below_drewN | apply below_drew1) | exact HB.out)))); have n3_ := Aside0.mk (below_step (by repeat (first | (with_reducible first | exact HB.out | apply below_alloc | apply pw_below_drewN | apply below_drew1) | exact HB.out)) hb); clear HO492; clear HO496; clear HB; have HO492 := n0_; have HO496 := n1_; have HO500 := n2_; have HB := n3_; clear n0_ n1_ n2_ n3_; (try clear hb); (try clear hb2); (try clear hk); (try clear hi); (try clear ho0)) | (go_at_call 26; (with_reducible refine (laws_b10At.calls _ _ l1 1 4 t501 _ ?side1 ?side2 A14.out).mono ?_); (case side1 => repeat (first | exact (Kd.C_below HR1.out HB.out) | (with_reducible refine Kd.C_alloc ?_ _) | (with_reducible refine Kd.C_drewN ?_ _) | (with_reducible refine Kd.C_drew ?_))); (case side2 => first | exact trivial | (exact HC1.out)); rintro e w' ⟨rfl, ⟨nd, rfl⟩⟩; (try first | exact ⟨rfl, _, World.drewN_drewN _ _ _⟩ | exact ⟨rfl, _, Eq.trans (World.drewN_drewN _ _ _) (congrArg (World.drewN _) (Nat.add_assoc _ _ _))⟩)) | (go_at_call 43; (with_reducible refine (impl_MajorityWave.calls t479 (wrap64 ((wrap64 (2 * t501)) + 1)) t502 t503 _ A15.out).mono ?_); rintro e w25 ⟨rfl, hb⟩; have n0_ := Aside0.mk (Kd.R_below (by (with_reducible repeat (first | apply Kd.R_alloc | apply Kd.R_drewN | apply Kd.R_drew)); exact HO492.out) hb); have n1_ := Aside0.mk (Kd.R_below (by (with_reducible repeat (first | apply Kd.R_alloc | apply Kd.R_drewN | apply Kd.R_drew)); exact HO496.out) hb); have n2_ := Aside0.mk (Kd.R_below (by (with_reducible repeat (first | apply Kd.R_alloc | apply Kd.R_drewN | apply Kd.R_drew)); exact HO500.out) hb); have n3_ := Aside0.mk (below_step (by repeat (first | (with_reducible first | exact HB.out | apply below_alloc | apply pw_below_drewN | apply below_drew1) | exact HB.out)) hb); clear HO492; clear HO496; clear HO500; clear HB; have HO492 := n0_; have HO496 := n1_; have HO500 := n2_; have HB := n3_; clear n0_ n1_ n2_ n3_; (try clear hb); (try clear hb2); (try clear hk); (try clear hi))); go_upto_region 14 with (first | (go_at_call 25; (with_reducible refine (laws_b10Long.calls _ _ l0 _ _ l1 false _ ?side1 ?side2 ?side3 ?side4 A3.out).mono ?_); (case side1 => repeat (first | exact HR0.out | (with_reducible refine Kd.C_alloc ?_ _) | (with_reducible refine Kd.C_drewN ?_ _) | (with_reducible refine Kd.C_drew ?_))); (case side2 => first | exact trivial | (exact HC0.out)); (case side3 => repeat (first | exact HR1.out | (with_reducible refine Kd.C_alloc ?_ _) | (with_reducible refine Kd.C_drewN ?_ _) | (with_reducible refine Kd.C_drew ?_))); (case side4 => first | exact trivial | (exact HC1.out)); rintro e w' ⟨rfl, ⟨nd, rfl⟩⟩; (try first | exact ⟨rfl, _, World.drewN_drewN _ _ _⟩ | exact ⟨rfl, _, Eq.trans (World.drewN_drewN _ _ _) (congrArg (World.drewN _) (Nat.add_assoc _ _ _))⟩)) | (go_at_call 31; (with_reducible refine (spec_B10Wave.calls k _ _ l0 t479 _ ?side1 ?side2 A5.out).mono ?_); (case side1 => repeat (first | exact HR0.out | (with_reducible refine Kd.C_alloc ?_ _) | (with_reducible refine Kd.C_drewN ?_ _) | (with_reducible refine Kd.C_drew ?_))); (case side2 => first | exact trivial | (exact HC0.out)); rintro e w17 ⟨rfl, hb⟩; have n0_ := Aside0.mk (below_step (by repeat (first | (with_reducible first | exact HB.out | apply below_alloc | apply pw_below_drewN | apply below_drew1) | exact HB.out)) hb); clear HB; have HB := n0_; clear n0_; (try clear hb); (try clear hb2); (try clear hk); (try clear hi)) | (go_at_call 26; (with_reducible refine (laws_b10At.calls _ _ l1 0 6 t480 _ ?side1 ?side2 A6.out).mono ?_); (case side1 => repeat (first | exact (Kd.C_below HR1.out HB.out) | (with_reducible refine Kd.C_alloc ?_ _) | (with_reducible refine Kd.C_drewN ?_ _) | (with_reducible refine Kd.C_drew ?_))); (case side2 => first | exact trivial | (exact HC1.out)); rintro e w' ⟨rfl, ⟨nd, rfl⟩⟩; (try first | exact ⟨rfl, _, World.drewN_drewN _ _ _⟩ | exact ⟨rfl, _, Eq.trans (World.drewN_drewN _ _ _) (congrArg (World.drewN _) (Nat.add_assoc _ _ _))⟩)) | (go_at_call 38; (with_reducible refine (impl_Debounce.calls t479 (wrap64 (1 + t480)) t481 t482 _ A7.out).mono ?_); rintro e w18 ⟨rfl, hb⟩; have n0_ := Aside0.mk (below_step (by repeat (first | (with_reducible first | exact HB.out | apply below_alloc | apply pw_below_drewN | apply below_drew1) | exact HB.out)) hb); clear HB; have HB := n0_; clear n0_; (try clear hb); (try clear hb2); (try clear hk); (try clear hi)) | (go_at_call 39; (with_reducible refine (impl_StretchPulses.calls t479 (wrap64 (1 + t480)) t483 t484 _ A8.out).mono ?_); rintro e w19 ⟨rfl, hb⟩; have n0_ := Aside0.mk (below_step (by repeat (first | (with_reducible first | exact HB.out | apply below_alloc | apply pw_below_drewN | apply below_drew1) | exact HB.out)) hb); clear HB; have HB := n0_; clear n0_; (try clear hb); (try clear hb2); (try clear hk); (try clear hi)) | (go_at_call 40; (with_reducible refine (impl_DropPulses.calls t479 (wrap64 (1 + t480)) t485 t486 _ A9.out).mono ?_); rintro e w20 ⟨rfl, hb⟩; have n0_ := Aside0.mk (below_step (by repeat (first | (with_reducible first | exact HB.out | apply below_alloc | apply pw_below_drewN | apply below_drew1) | exact HB.out)) hb); clear HB; have HB := n0_; clear n0_; (try clear hb); (try clear hb2); (try clear hk); (try clear hi)) | (go_at_call 41; (with_reducible refine (impl_FillGaps.calls t479 (wrap64 (1 + t480)) t487 t488 _ A10.out).mono ?_); rintro e w21 ⟨rfl, hb⟩; have n0_ := Aside0.mk (below_step (by repeat (first | (with_reducible first | exact HB.out | apply below_alloc | apply pw_below_drewN | apply below_drew1) | exact HB.out)) hb); clear HB; have HB := n0_; clear n0_; (try clear hb); (try clear hb2); (try clear hk); (try clear hi)) | (go_at_call 34; (with_reducible refine (impl_ShortPulses.calls k t481 (wrap64 (1 + t480)) t489 t490 _ A11.out).mono ?_); rintro e w22 ⟨v491, rfl, ho0, hb⟩; have n0_ := Aside0.mk (Kd.R_lower ho0 (below_size (by repeat (first | (with_reducible first | exact HB.out | apply below_alloc | apply pw_below_drewN | apply below_drew1) | exact HB.out)))); have n1_ := Aside0.mk (below_step (by repeat (first | (with_reducible first | exact HB.out | apply below_alloc | apply pw_below_drewN | apply below_drew1) | exact HB.out)) hb); clear HB; have HO492 := n0_; have HB := n1_; clear n0_ n1_; (try clear hb); (try clear hb2); (try clear hk); (try clear hi); (try clear ho0)) | (go_at_call 34; (with_reducible refine (impl_ShortPulses.calls k t483 (wrap64 (1 + t480)) t493 t494 _ A12.out).mono ?_); rintro e w23 ⟨v495, rfl, ho0, hb⟩; have n0_ := Aside0.mk (Kd.R_elder' (by (with_reducible repeat (first | apply Kd.R_alloc | apply Kd.R_drewN | apply Kd.R_drew)); exact HO492.out) (Kd.R_base ho0) hb); have n1_ := Aside0.mk (Kd.R_lower (Kd.R_new' ho0 (Kd.R_lt (by (with_reducible repeat (first | apply Kd.R_alloc | apply Kd.R_drewN | apply Kd.R_drew)); exact HO492.out))) (below_size (by repeat (first | (with_reducible first | exact HB.out | apply below_alloc | apply pw_below_drewN | apply below_drew1) | exact HB.out)))); have n2_ := Aside0.mk (below_step (by repeat (first | (with_reducible first | exact HB.out | apply below_alloc | apply pw_below_drewN | apply below_drew1) | exact HB.out)) hb); clear HO492; clear HB; have HO492 := n0_; have HO496 := n1_; have HB := n2_; clear n0_ n1_ n2_; (try clear hb); (try clear hb2); (try clear hk); (try clear hi); (try clear ho0)) | (go_at_call 42; (with_reducible refine (impl_GapsOf.calls t487 t497 t498 _ A13.out).mono ?_); rintro e w24 ⟨v499, rfl, ho0, hb⟩; have n0_ := Aside0.mk (Kd.R_elder' (by (with_reducible repeat (first | apply Kd.R_alloc | apply Kd.R_drewN | apply Kd.R_drew)); exact HO492.out) (Kd.R_base ho0) hb); have n1_ := Aside0.mk (Kd.R_elder' (by (with_reducible repeat (first | apply Kd.R_alloc | apply Kd.R_drewN | apply Kd.R_drew)); exact HO496.out) (Kd.R_base ho0) hb); have n2_ := Aside0.mk (Kd.R_lower (Kd.R_new' (Kd.R_new' ho0 (Kd.R_lt (by (with_reducible repeat (first | apply Kd.R_alloc | apply Kd.R_drewN | apply Kd.R_drew)); exact HO492.out))) (Kd.R_lt (by (with_reducible repeat (first | apply Kd.R_alloc | apply Kd.R_drewN | apply Kd.R_drew)); exact HO496.out))) (below_size (by repeat (first | (with_reducible first | exact HB.out | apply below_alloc | apply pw_below_drewN | apply below_drew1) | exact HB.out)))); have n3_ := Aside0.mk (below_step (by repeat (first | (with_reducible first | exact HB.out | apply below_alloc | apply pw_below_drewN | apply below_drew1) | exact HB.out)) hb); clear HO492; clear HO496; clear HB; have HO492 := n0_; have HO496 := n1_; have HO500 := n2_; have HB := n3_; clear n0_ n1_ n2_ n3_; (try clear hb); (try clear hb2); (try clear hk); (try clear hi); (try clear ho0)) | (go_at_call 26; (with_reducible refine (laws_b10At.calls _ _ l1 1 4 t501 _ ?side1 ?side2 A14.out).mono ?_); (case side1 => repeat (first | exact (Kd.C_below HR1.out HB.out) | (with_reducible refine Kd.C_alloc ?_ _) | (with_reducible refine Kd.C_drewN ?_ _) | (with_reducible refine Kd.C_drew ?_))); (case side2 => first | exact trivial | (exact HC1.out)); rintro e w' ⟨rfl, ⟨nd, rfl⟩⟩; (try first | exact ⟨rfl, _, World.drewN_drewN _ _ _⟩ | exact ⟨rfl, _, Eq.trans (World.drewN_drewN _ _ _) (congrArg (World.drewN _) (Nat.add_assoc _ _ _))⟩)) | (go_at_call 43; (with_reducible refine (impl_MajorityWave.calls t479 (wrap64 ((wrap64 (2 * t501)) + 1)) t502 t503 _ A15.out).mono ?_); rintro e w25 ⟨rfl, hb⟩; have n0_ := Aside0.mk (Kd.R_below (by (with_reducible repeat (first | apply Kd.R_alloc | apply Kd.R_drewN | apply Kd.R_drew)); exact HO492.out) hb); have n1_ := Aside0.mk (Kd.R_below (by (with_reducible repeat (first | apply Kd.R_alloc | apply Kd.R_drewN | apply Kd.R_drew)); exact HO496.out) hb); have n2_ := Aside0.mk (Kd.R_below (by (with_reducible repeat (first | apply Kd.R_alloc | apply Kd.R_drewN | apply Kd.R_drew)); exact HO500.out) hb); have n3_ := Aside0.mk (below_step (by repeat (first | (with_reducible first | exact HB.out | apply below_alloc | apply pw_below_drewN | apply below_drew1) | exact HB.out)) hb); clear HO492; clear HO496; clear HO500; clear HB; have HO492 := n0_; have HO496 := n1_; have HO500 := n2_; have HB := n3_; clear n0_ n1_ n2_ n3_; (try clear hb); (try clear hb2); (try clear hk); (try clear hi))))
  (try simp only [Act.put, List.setIfInBounds_toArray, List.set_cons_zero, List.set_cons_succ])
  go_cut [159] (fun v159 wc => ∃ (kq : Nat) (x159_15 : Bool), v159 = .bool x159_15 ∧ Aside0 (laws_FnFiltered.j0 kq t479 (t479.size : Int) (wrap64 (1 + t480)) t481 t483 t485 t487 t497 x159_15 = some r) ∧ Aside0 (kq ≤ k) ∧ Aside0 (Kd.R (Kd.int .i64) 2 wc w.heap.size (fun _ => True) v499 t497) ∧ Aside0 (Below w.heap.size w wc))
  case first => as_aux_lemma =>
   have H := HC16.out
   clear HC16
   by_cases c26 : t482 = true
   ·subst c26
    have H1 : (if t484 = true then (if t486 = true then (if t488 = true then (if t490 = true then (if t494 = true then (if t498 = true then (if t503 = true then (if (t489.length : Int) = 0 then (if (t493.length : Int) = 0 then (if (t481.size : Int) = (t479.size : Int) then (if (t483.size : Int) = (t479.size : Int) then (if (t485.size : Int) = (t479.size : Int) then (if (t487.size : Int) = (t479.size : Int) then (laws_FnFiltered.j0 k t479 (t479.size : Int) (wrap64 (1 + t480)) t481 t483 t485 t487 t497 ((t502.size : Int) != (t479.size : Int))) else (laws_FnFiltered.j0 k t479 (t479.size : Int) (wrap64 (1 + t480)) t481 t483 t485 t487 t497 true)) else (laws_FnFiltered.j0 k t479 (t479.size : Int) (wrap64 (1 + t480)) t481 t483 t485 t487 t497 true)) else (laws_FnFiltered.j0 k t479 (t479.size : Int) (wrap64 (1 + t480)) t481 t483 t485 t487 t497 true)) else (laws_FnFiltered.j0 k t479 (t479.size : Int) (wrap64 (1 + t480)) t481 t483 t485 t487 t497 true)) else (laws_FnFiltered.j0 k t479 (t479.size : Int) (wrap64 (1 + t480)) t481 t483 t485 t487 t497 true)) else (laws_FnFiltered.j0 k t479 (t479.size : Int) (wrap64 (1 + t480)) t481 t483 t485 t487 t497 true)) else (laws_FnFiltered.j0 k t479 (t479.size : Int) (wrap64 (1 + t480)) t481 t483 t485 t487 t497 true)) else (laws_FnFiltered.j0 k t479 (t479.size : Int) (wrap64 (1 + t480)) t481 t483 t485 t487 t497 true)) else (laws_FnFiltered.j0 k t479 (t479.size : Int) (wrap64 (1 + t480)) t481 t483 t485 t487 t497 true)) else (laws_FnFiltered.j0 k t479 (t479.size : Int) (wrap64 (1 + t480)) t481 t483 t485 t487 t497 true)) else (laws_FnFiltered.j0 k t479 (t479.size : Int) (wrap64 (1 + t480)) t481 t483 t485 t487 t497 true)) else (laws_FnFiltered.j0 k t479 (t479.size : Int) (wrap64 (1 + t480)) t481 t483 t485 t487 t497 true)) else (laws_FnFiltered.j0 k t479 (t479.size : Int) (wrap64 (1 + t480)) t481 t483 t485 t487 t497 true)) = some r := by rw [if_pos rfl] at H; exact H
    clear H
    have H := H1
    clear H1
    by_cases c27 : t484 = true
    ·subst c27
     have H1 : (if t486 = true then (if t488 = true then (if t490 = true then (if t494 = true then (if t498 = true then (if t503 = true then (if (t489.length : Int) = 0 then (if (t493.length : Int) = 0 then (if (t481.size : Int) = (t479.size : Int) then (if (t483.size : Int) = (t479.size : Int) then (if (t485.size : Int) = (t479.size : Int) then (if (t487.size : Int) = (t479.size : Int) then (laws_FnFiltered.j0 k t479 (t479.size : Int) (wrap64 (1 + t480)) t481 t483 t485 t487 t497 ((t502.size : Int) != (t479.size : Int))) else (laws_FnFiltered.j0 k t479 (t479.size : Int) (wrap64 (1 + t480)) t481 t483 t485 t487 t497 true)) else (laws_FnFiltered.j0 k t479 (t479.size : Int) (wrap64 (1 + t480)) t481 t483 t485 t487 t497 true)) else (laws_FnFiltered.j0 k t479 (t479.size : Int) (wrap64 (1 + t480)) t481 t483 t485 t487 t497 true)) else (laws_FnFiltered.j0 k t479 (t479.size : Int) (wrap64 (1 + t480)) t481 t483 t485 t487 t497 true)) else (laws_FnFiltered.j0 k t479 (t479.size : Int) (wrap64 (1 + t480)) t481 t483 t485 t487 t497 true)) else (laws_FnFiltered.j0 k t479 (t479.size : Int) (wrap64 (1 + t480)) t481 t483 t485 t487 t497 true)) else (laws_FnFiltered.j0 k t479 (t479.size : Int) (wrap64 (1 + t480)) t481 t483 t485 t487 t497 true)) else (laws_FnFiltered.j0 k t479 (t479.size : Int) (wrap64 (1 + t480)) t481 t483 t485 t487 t497 true)) else (laws_FnFiltered.j0 k t479 (t479.size : Int) (wrap64 (1 + t480)) t481 t483 t485 t487 t497 true)) else (laws_FnFiltered.j0 k t479 (t479.size : Int) (wrap64 (1 + t480)) t481 t483 t485 t487 t497 true)) else (laws_FnFiltered.j0 k t479 (t479.size : Int) (wrap64 (1 + t480)) t481 t483 t485 t487 t497 true)) else (laws_FnFiltered.j0 k t479 (t479.size : Int) (wrap64 (1 + t480)) t481 t483 t485 t487 t497 true)) = some r := by rw [if_pos rfl] at H; exact H
     clear H
     have H := H1
     clear H1
     by_cases c28 : t486 = true
     ·subst c28
      have H1 : (if t488 = true then (if t490 = true then (if t494 = true then (if t498 = true then (if t503 = true then (if (t489.length : Int) = 0 then (if (t493.length : Int) = 0 then (if (t481.size : Int) = (t479.size : Int) then (if (t483.size : Int) = (t479.size : Int) then (if (t485.size : Int) = (t479.size : Int) then (if (t487.size : Int) = (t479.size : Int) then (laws_FnFiltered.j0 k t479 (t479.size : Int) (wrap64 (1 + t480)) t481 t483 t485 t487 t497 ((t502.size : Int) != (t479.size : Int))) else (laws_FnFiltered.j0 k t479 (t479.size : Int) (wrap64 (1 + t480)) t481 t483 t485 t487 t497 true)) else (laws_FnFiltered.j0 k t479 (t479.size : Int) (wrap64 (1 + t480)) t481 t483 t485 t487 t497 true)) else (laws_FnFiltered.j0 k t479 (t479.size : Int) (wrap64 (1 + t480)) t481 t483 t485 t487 t497 true)) else (laws_FnFiltered.j0 k t479 (t479.size : Int) (wrap64 (1 + t480)) t481 t483 t485 t487 t497 true)) else (laws_FnFiltered.j0 k t479 (t479.size : Int) (wrap64 (1 + t480)) t481 t483 t485 t487 t497 true)) else (laws_FnFiltered.j0 k t479 (t479.size : Int) (wrap64 (1 + t480)) t481 t483 t485 t487 t497 true)) else (laws_FnFiltered.j0 k t479 (t479.size : Int) (wrap64 (1 + t480)) t481 t483 t485 t487 t497 true)) else (laws_FnFiltered.j0 k t479 (t479.size : Int) (wrap64 (1 + t480)) t481 t483 t485 t487 t497 true)) else (laws_FnFiltered.j0 k t479 (t479.size : Int) (wrap64 (1 + t480)) t481 t483 t485 t487 t497 true)) else (laws_FnFiltered.j0 k t479 (t479.size : Int) (wrap64 (1 + t480)) t481 t483 t485 t487 t497 true)) else (laws_FnFiltered.j0 k t479 (t479.size : Int) (wrap64 (1 + t480)) t481 t483 t485 t487 t497 true)) = some r := by rw [if_pos rfl] at H; exact H
      clear H
      have H := H1
      clear H1
      by_cases c29 : t488 = true
      ·subst c29
       have H1 : (if t490 = true then (if t494 = true then (if t498 = true then (if t503 = true then (if (t489.length : Int) = 0 then (if (t493.length : Int) = 0 then (if (t481.size : Int) = (t479.size : Int) then (if (t483.size : Int) = (t479.size : Int) then (if (t485.size : Int) = (t479.size : Int) then (if (t487.size : Int) = (t479.size : Int) then (laws_FnFiltered.j0 k t479 (t479.size : Int) (wrap64 (1 + t480)) t481 t483 t485 t487 t497 ((t502.size : Int) != (t479.size : Int))) else (laws_FnFiltered.j0 k t479 (t479.size : Int) (wrap64 (1 + t480)) t481 t483 t485 t487 t497 true)) else (laws_FnFiltered.j0 k t479 (t479.size : Int) (wrap64 (1 + t480)) t481 t483 t485 t487 t497 true)) else (laws_FnFiltered.j0 k t479 (t479.size : Int) (wrap64 (1 + t480)) t481 t483 t485 t487 t497 true)) else (laws_FnFiltered.j0 k t479 (t479.size : Int) (wrap64 (1 + t480)) t481 t483 t485 t487 t497 true)) else (laws_FnFiltered.j0 k t479 (t479.size : Int) (wrap64 (1 + t480)) t481 t483 t485 t487 t497 true)) else (laws_FnFiltered.j0 k t479 (t479.size : Int) (wrap64 (1 + t480)) t481 t483 t485 t487 t497 true)) else (laws_FnFiltered.j0 k t479 (t479.size : Int) (wrap64 (1 + t480)) t481 t483 t485 t487 t497 true)) else (laws_FnFiltered.j0 k t479 (t479.size : Int) (wrap64 (1 + t480)) t481 t483 t485 t487 t497 true)) else (laws_FnFiltered.j0 k t479 (t479.size : Int) (wrap64 (1 + t480)) t481 t483 t485 t487 t497 true)) else (laws_FnFiltered.j0 k t479 (t479.size : Int) (wrap64 (1 + t480)) t481 t483 t485 t487 t497 true)) = some r := by rw [if_pos rfl] at H; exact H
       clear H
       have H := H1
       clear H1
       by_cases c30 : t490 = true
       ·subst c30
        have H1 : (if t494 = true then (if t498 = true then (if t503 = true then (if (t489.length : Int) = 0 then (if (t493.length : Int) = 0 then (if (t481.size : Int) = (t479.size : Int) then (if (t483.size : Int) = (t479.size : Int) then (if (t485.size : Int) = (t479.size : Int) then (if (t487.size : Int) = (t479.size : Int) then (laws_FnFiltered.j0 k t479 (t479.size : Int) (wrap64 (1 + t480)) t481 t483 t485 t487 t497 ((t502.size : Int) != (t479.size : Int))) else (laws_FnFiltered.j0 k t479 (t479.size : Int) (wrap64 (1 + t480)) t481 t483 t485 t487 t497 true)) else (laws_FnFiltered.j0 k t479 (t479.size : Int) (wrap64 (1 + t480)) t481 t483 t485 t487 t497 true)) else (laws_FnFiltered.j0 k t479 (t479.size : Int) (wrap64 (1 + t480)) t481 t483 t485 t487 t497 true)) else (laws_FnFiltered.j0 k t479 (t479.size : Int) (wrap64 (1 + t480)) t481 t483 t485 t487 t497 true)) else (laws_FnFiltered.j0 k t479 (t479.size : Int) (wrap64 (1 + t480)) t481 t483 t485 t487 t497 true)) else (laws_FnFiltered.j0 k t479 (t479.size : Int) (wrap64 (1 + t480)) t481 t483 t485 t487 t497 true)) else (laws_FnFiltered.j0 k t479 (t479.size : Int) (wrap64 (1 + t480)) t481 t483 t485 t487 t497 true)) else (laws_FnFiltered.j0 k t479 (t479.size : Int) (wrap64 (1 + t480)) t481 t483 t485 t487 t497 true)) else (laws_FnFiltered.j0 k t479 (t479.size : Int) (wrap64 (1 + t480)) t481 t483 t485 t487 t497 true)) = some r := by rw [if_pos rfl] at H; exact H
        clear H
        have H := H1
        clear H1
        by_cases c31 : t494 = true
        ·subst c31
         have H1 : (if t498 = true then (if t503 = true then (if (t489.length : Int) = 0 then (if (t493.length : Int) = 0 then (if (t481.size : Int) = (t479.size : Int) then (if (t483.size : Int) = (t479.size : Int) then (if (t485.size : Int) = (t479.size : Int) then (if (t487.size : Int) = (t479.size : Int) then (laws_FnFiltered.j0 k t479 (t479.size : Int) (wrap64 (1 + t480)) t481 t483 t485 t487 t497 ((t502.size : Int) != (t479.size : Int))) else (laws_FnFiltered.j0 k t479 (t479.size : Int) (wrap64 (1 + t480)) t481 t483 t485 t487 t497 true)) else (laws_FnFiltered.j0 k t479 (t479.size : Int) (wrap64 (1 + t480)) t481 t483 t485 t487 t497 true)) else (laws_FnFiltered.j0 k t479 (t479.size : Int) (wrap64 (1 + t480)) t481 t483 t485 t487 t497 true)) else (laws_FnFiltered.j0 k t479 (t479.size : Int) (wrap64 (1 + t480)) t481 t483 t485 t487 t497 true)) else (laws_FnFiltered.j0 k t479 (t479.size : Int) (wrap64 (1 + t480)) t481 t483 t485 t487 t497 true)) else (laws_FnFiltered.j0 k t479 (t479.size : Int) (wrap64 (1 + t480)) t481 t483 t485 t487 t497 true)) else (laws_FnFiltered.j0 k t479 (t479.size : Int) (wrap64 (1 + t480)) t481 t483 t485 t487 t497 true)) else (laws_FnFiltered.j0 k t479 (t479.size : Int) (wrap64 (1 + t480)) t481 t483 t485 t487 t497 true)) = some r := by rw [if_pos rfl] at H; exact H
         clear H
         have H := H1
         clear H1
         by_cases c32 : t498 = true
         ·subst c32
          have H1 : (if t503 = true then (if (t489.length : Int) = 0 then (if (t493.length : Int) = 0 then (if (t481.size : Int) = (t479.size : Int) then (if (t483.size : Int) = (t479.size : Int) then (if (t485.size : Int) = (t479.size : Int) then (if (t487.size : Int) = (t479.size : Int) then (laws_FnFiltered.j0 k t479 (t479.size : Int) (wrap64 (1 + t480)) t481 t483 t485 t487 t497 ((t502.size : Int) != (t479.size : Int))) else (laws_FnFiltered.j0 k t479 (t479.size : Int) (wrap64 (1 + t480)) t481 t483 t485 t487 t497 true)) else (laws_FnFiltered.j0 k t479 (t479.size : Int) (wrap64 (1 + t480)) t481 t483 t485 t487 t497 true)) else (laws_FnFiltered.j0 k t479 (t479.size : Int) (wrap64 (1 + t480)) t481 t483 t485 t487 t497 true)) else (laws_FnFiltered.j0 k t479 (t479.size : Int) (wrap64 (1 + t480)) t481 t483 t485 t487 t497 true)) else (laws_FnFiltered.j0 k t479 (t479.size : Int) (wrap64 (1 + t480)) t481 t483 t485 t487 t497 true)) else (laws_FnFiltered.j0 k t479 (t479.size : Int) (wrap64 (1 + t480)) t481 t483 t485 t487 t497 true)) else (laws_FnFiltered.j0 k t479 (t479.size : Int) (wrap64 (1 + t480)) t481 t483 t485 t487 t497 true)) = some r := by rw [if_pos rfl] at H; exact H
          clear H
          have H := H1
          clear H1
          by_cases c33 : t503 = true
          ·subst c33
           have H1 : (if (t489.length : Int) = 0 then (if (t493.length : Int) = 0 then (if (t481.size : Int) = (t479.size : Int) then (if (t483.size : Int) = (t479.size : Int) then (if (t485.size : Int) = (t479.size : Int) then (if (t487.size : Int) = (t479.size : Int) then (laws_FnFiltered.j0 k t479 (t479.size : Int) (wrap64 (1 + t480)) t481 t483 t485 t487 t497 ((t502.size : Int) != (t479.size : Int))) else (laws_FnFiltered.j0 k t479 (t479.size : Int) (wrap64 (1 + t480)) t481 t483 t485 t487 t497 true)) else (laws_FnFiltered.j0 k t479 (t479.size : Int) (wrap64 (1 + t480)) t481 t483 t485 t487 t497 true)) else (laws_FnFiltered.j0 k t479 (t479.size : Int) (wrap64 (1 + t480)) t481 t483 t485 t487 t497 true)) else (laws_FnFiltered.j0 k t479 (t479.size : Int) (wrap64 (1 + t480)) t481 t483 t485 t487 t497 true)) else (laws_FnFiltered.j0 k t479 (t479.size : Int) (wrap64 (1 + t480)) t481 t483 t485 t487 t497 true)) else (laws_FnFiltered.j0 k t479 (t479.size : Int) (wrap64 (1 + t480)) t481 t483 t485 t487 t497 true)) = some r := by rw [if_pos rfl] at H; exact H
           clear H
           have H := H1
           clear H1
           by_cases c34 : (t489.length : Int) = 0
           ·rw [if_pos c34] at H
            have c34b0 : ((t489.length : Int) == 0) = true := beq_iff_eq.mpr c34
            have c34b1 : ((t489.length : Int) != 0) = false := bne_eq_false_iff_eq.mpr c34
            clear c34
            (first | rw [c34b0] | (simp only [i64_w, i32_w]; rw [c34b0]) | skip)
            by_cases c35 : (t493.length : Int) = 0
            ·rw [if_pos c35] at H
             have c35b0 : ((t493.length : Int) == 0) = true := beq_iff_eq.mpr c35
             have c35b1 : ((t493.length : Int) != 0) = false := bne_eq_false_iff_eq.mpr c35
             clear c35
             by_cases c36 : (t481.size : Int) = (t479.size : Int)
             ·rw [if_pos c36] at H
              have c36b0 : ((t481.size : Int) == (t479.size : Int)) = true := beq_iff_eq.mpr c36
              have c36b1 : ((t481.size : Int) != (t479.size : Int)) = false := bne_eq_false_iff_eq.mpr c36
              have c36b2 : (t481.size == t479.size) = true := by first | simpa using c36 | (simp at c36 ⊢; omega)
              clear c36
              by_cases c37 : (t483.size : Int) = (t479.size : Int)
              ·rw [if_pos c37] at H
               have c37b0 : ((t483.size : Int) == (t479.size : Int)) = true := beq_iff_eq.mpr c37
               have c37b1 : ((t483.size : Int) != (t479.size : Int)) = false := bne_eq_false_iff_eq.mpr c37
               have c37b2 : (t483.size == t479.size) = true := by first | simpa using c37 | (simp at c37 ⊢; omega)
               clear c37
               by_cases c38 : (t485.size : Int) = (t479.size : Int)
               ·rw [if_pos c38] at H
                have c38b0 : ((t485.size : Int) == (t479.size : Int)) = true := beq_iff_eq.mpr c38
                have c38b1 : ((t485.size : Int) != (t479.size : Int)) = false := bne_eq_false_iff_eq.mpr c38
                have c38b2 : (t485.size == t479.size) = true := by first | simpa using c38 | (simp at c38 ⊢; omega)
                clear c38
                by_cases c39 : (t487.size : Int) = (t479.size : Int)
                ·rw [if_pos c39] at H
                 have c39b0 : ((t487.size : Int) == (t479.size : Int)) = true := beq_iff_eq.mpr c39
                 have c39b1 : ((t487.size : Int) != (t479.size : Int)) = false := bne_eq_false_iff_eq.mpr c39
                 have c39b2 : (t487.size == t479.size) = true := by first | simpa using c39 | (simp at c39 ⊢; omega)
                 clear c39
                 have H' := Aside0.mk H
                 clear H
                 obtain ⟨Ao40, co40, eo40⟩ := Kd.R_slice HO492.out
                 subst eo40
                 obtain ⟨Ao41, co41, eo41⟩ := Kd.R_slice HO496.out
                 subst eo41
                 go_wp2
                 repeat (go_quiet (fail); try go_wp2)
                 go_meet
                 case rel => exact ⟨_, (((t502.size : Int) != (t479.size : Int))), (by first | rfl | (simp; done) | (simp [*]; done)), H', ⟨by first | omega | exact Nat.le_refl _⟩, ⟨by (with_reducible repeat (first | apply Kd.R_alloc | apply Kd.R_drewN | apply Kd.R_drew)); exact Kd.R_mono HO500.out (fun _ hk => trivial)⟩, ⟨by repeat (first | (with_reducible first | exact HB.out | apply below_alloc | apply pw_below_drewN | apply below_drew1) | exact HB.out)⟩⟩
                ·rw [if_neg c39] at H
                 have c39b0 : ((t487.size : Int) == (t479.size : Int)) = false := beq_eq_false_iff_ne.mpr c39
                 have c39b1 : ((t487.size : Int) != (t479.size : Int)) = true := bne_iff_ne.mpr c39
                 have c39b2 : (t487.size == t479.size) = false := by first | simpa using c39 | (simp at c39 ⊢; omega)
                 exact absurd HRT.out (by rw [laws_FnFiltered.j0_no _ _ _ _ _ _ _ _ _ _ H]; decide)
               ·rw [if_neg c38] at H
                have c38b0 : ((t485.size : Int) == (t479.size : Int)) = false := beq_eq_false_iff_ne.mpr c38
                have c38b1 : ((t485.size : Int) != (t479.size : Int)) = true := bne_iff_ne.mpr c38
                have c38b2 : (t485.size == t479.size) = false := by first | simpa using c38 | (simp at c38 ⊢; omega)
                exact absurd HRT.out (by rw [laws_FnFiltered.j0_no _ _ _ _ _ _ _ _ _ _ H]; decide)
              ·rw [if_neg c37] at H
               have c37b0 : ((t483.size : Int) == (t479.size : Int)) = false := beq_eq_false_iff_ne.mpr c37
               have c37b1 : ((t483.size : Int) != (t479.size : Int)) = true := bne_iff_ne.mpr c37
               have c37b2 : (t483.size == t479.size) = false := by first | simpa using c37 | (simp at c37 ⊢; omega)
               exact absurd HRT.out (by rw [laws_FnFiltered.j0_no _ _ _ _ _ _ _ _ _ _ H]; decide)
             ·rw [if_neg c36] at H
              have c36b0 : ((t481.size : Int) == (t479.size : Int)) = false := beq_eq_false_iff_ne.mpr c36
              have c36b1 : ((t481.size : Int) != (t479.size : Int)) = true := bne_iff_ne.mpr c36
              have c36b2 : (t481.size == t479.size) = false := by first | simpa using c36 | (simp at c36 ⊢; omega)
              exact absurd HRT.out (by rw [laws_FnFiltered.j0_no _ _ _ _ _ _ _ _ _ _ H]; decide)
            ·rw [if_neg c35] at H
             have c35b0 : ((t493.length : Int) == 0) = false := beq_eq_false_iff_ne.mpr c35
             have c35b1 : ((t493.length : Int) != 0) = true := bne_iff_ne.mpr c35
             have c35b2 : ¬ (t493 = []) := fun h_ => c35 (by rw [h_]; rfl)
             exact absurd HRT.out (by rw [laws_FnFiltered.j0_no _ _ _ _ _ _ _ _ _ _ H]; decide)
           ·rw [if_neg c34] at H
            have c34b0 : ((t489.length : Int) == 0) = false := beq_eq_false_iff_ne.mpr c34
            have c34b1 : ((t489.length : Int) != 0) = true := bne_iff_ne.mpr c34
            have c34b2 : ¬ (t489 = []) := fun h_ => c34 (by rw [h_]; rfl)
            (first | rw [c34b0] | (simp only [i64_w, i32_w]; rw [c34b0]) | skip)
            exact absurd HRT.out (by rw [laws_FnFiltered.j0_no _ _ _ _ _ _ _ _ _ _ H]; decide)
          ·replace c33 := Bool.eq_false_iff.mpr c33
           subst c33
           have H1 : (laws_FnFiltered.j0 k t479 (t479.size : Int) (wrap64 (1 + t480)) t481 t483 t485 t487 t497 true) = some r := by rw [if_neg (show ¬ (false = true) by decide)] at H; exact H
           exact absurd HRT.out (by rw [laws_FnFiltered.j0_no _ _ _ _ _ _ _ _ _ _ H1]; decide)
         ·replace c32 := Bool.eq_false_iff.mpr c32
          subst c32
          have H1 : (laws_FnFiltered.j0 k t479 (t479.size : Int) (wrap64 (1 + t480)) t481 t483 t485 t487 t497 true) = some r := by rw [if_neg (show ¬ (false = true) by decide)] at H; exact H
          exact absurd HRT.out (by rw [laws_FnFiltered.j0_no _ _ _ _ _ _ _ _ _ _ H1]; decide)
        ·replace c31 := Bool.eq_false_iff.mpr c31
         subst c31
         have H1 : (laws_FnFiltered.j0 k t479 (t479.size : Int) (wrap64 (1 + t480)) t481 t483 t485 t487 t497 true) = some r := by rw [if_neg (show ¬ (false = true) by decide)] at H; exact H
         exact absurd HRT.out (by rw [laws_FnFiltered.j0_no _ _ _ _ _ _ _ _ _ _ H1]; decide)
       ·replace c30 := Bool.eq_false_iff.mpr c30
        subst c30
        have H1 : (laws_FnFiltered.j0 k t479 (t479.size : Int) (wrap64 (1 + t480)) t481 t483 t485 t487 t497 true) = some r := by rw [if_neg (show ¬ (false = true) by decide)] at H; exact H
        exact absurd HRT.out (by rw [laws_FnFiltered.j0_no _ _ _ _ _ _ _ _ _ _ H1]; decide)
      ·replace c29 := Bool.eq_false_iff.mpr c29
       subst c29
       have H1 : (laws_FnFiltered.j0 k t479 (t479.size : Int) (wrap64 (1 + t480)) t481 t483 t485 t487 t497 true) = some r := by rw [if_neg (show ¬ (false = true) by decide)] at H; exact H
       exact absurd HRT.out (by rw [laws_FnFiltered.j0_no _ _ _ _ _ _ _ _ _ _ H1]; decide)
     ·replace c28 := Bool.eq_false_iff.mpr c28
      subst c28
      have H1 : (laws_FnFiltered.j0 k t479 (t479.size : Int) (wrap64 (1 + t480)) t481 t483 t485 t487 t497 true) = some r := by rw [if_neg (show ¬ (false = true) by decide)] at H; exact H
      exact absurd HRT.out (by rw [laws_FnFiltered.j0_no _ _ _ _ _ _ _ _ _ _ H1]; decide)
    ·replace c27 := Bool.eq_false_iff.mpr c27
     subst c27
     have H1 : (laws_FnFiltered.j0 k t479 (t479.size : Int) (wrap64 (1 + t480)) t481 t483 t485 t487 t497 true) = some r := by rw [if_neg (show ¬ (false = true) by decide)] at H; exact H
     exact absurd HRT.out (by rw [laws_FnFiltered.j0_no _ _ _ _ _ _ _ _ _ _ H1]; decide)
   ·replace c26 := Bool.eq_false_iff.mpr c26
    subst c26
    have H1 : (laws_FnFiltered.j0 k t479 (t479.size : Int) (wrap64 (1 + t480)) t481 t483 t485 t487 t497 true) = some r := by rw [if_neg (show ¬ (false = true) by decide)] at H; exact H
    exact absurd HRT.out (by rw [laws_FnFiltered.j0_no _ _ _ _ _ _ _ _ _ _ H1]; decide)
  case rest => as_aux_lemma =>
   clear HC16
   try clear c1
   try clear c2
   try clear p2
   try clear c3
   try clear c4
   try clear p6
   try clear c10
   try clear c26
   try clear c27
   try clear c28
   try clear c29
   try clear c30
   try clear c31
   try clear c32
   try clear c33
   try clear c34
   try clear c34b0
   try clear c34b1
   try clear c34b2
   try clear c35
   try clear c35b0
   try clear c35b1
   try clear c35b2
   try clear c36
   try clear c36b0
   try clear c36b1
   try clear c36b2
   try clear c37
   try clear c37b0
   try clear c37b1
   try clear c37b2
   try clear c38
   try clear c38b0
   try clear c38b1
   try clear c38b2
   try clear c39
   try clear c39b0
   try clear c39b1
   try clear c39b2
   obtain ⟨kq, x159_15, rfl, HA, HJ15, HO_20, HB⟩ := hcut
   cases kq with
   | zero => exact absurd HA.out (by simp [laws_FnFiltered.j0])
   | succ kj15 =>
    have H := HA.out
    clear HA
    simp only [laws_FnFiltered.j0] at H
    by_cases c53 : x159_15 = true
    ·subst c53
     have H1 : (some false) = some r := by rw [if_pos rfl] at H; exact H
     clear H
     have H := H1
     clear H1
     exact absurd (Option.some.inj (H.trans (congrArg some HRT.out))) (by decide)
    ·replace c53 := Bool.eq_false_iff.mpr c53
     subst c53
     have H1 : (laws_FnFiltered.l0 kj15 t479 (t479.size : Int) (wrap64 (1 + t480)) t481 t483 t485 t487 t497 0) = some r := by rw [if_neg (show ¬ (false = true) by decide)] at H; exact H
     clear H
     have H := H1
     clear H1
     have H' := Aside0.mk H
     clear H
     go_wp2
     repeat (go_quiet (fail); try go_wp2)
     go_loopg [24] kj15 (fun kq v24 w' => ∃ (x24_2 : Int), v24 = .int .i64 x24_2 ∧ Aside0 (laws_FnFiltered.l0 kq t479 (t479.size : Int) (wrap64 (1 + t480)) t481 t483 t485 t487 t497 x24_2 = some r) ∧ Aside0 (kq ≤ kj15) ∧ Aside0 (Kd.R (Kd.int .i64) 2 w' w.heap.size (fun _ => True) v499 t497) ∧ Aside0 (Below w.heap.size w w'))
     case atStart => exact ⟨(0), (by first | rfl | (simp; done) | (simp [*]; done)), H', ⟨Nat.le_refl _⟩, ⟨by (with_reducible repeat (first | apply Kd.R_alloc | apply Kd.R_drewN | apply Kd.R_drew)); exact HO_20.out⟩, ⟨by repeat (first | (with_reducible first | exact HB.out | apply below_alloc | apply pw_below_drewN | apply below_drew1) | exact HB.out)⟩⟩
     case round => as_aux_lemma =>
      clear H'
      try clear c1
      try clear c2
      try clear p2
      try clear c3
      try clear c4
      try clear c5
      try clear p6
      try clear c10
      try clear c26
      try clear c27
      try clear c28
      try clear c29
      try clear c30
      try clear c31
      try clear c32
      try clear c33
      try clear c34
      try clear c34b0
      try clear c34b1
      try clear c34b2
      try clear c35
      try clear c35b0
      try clear c35b1
      try clear c35b2
      try clear c36
      try clear c36b0
      try clear c36b1
      try clear c36b2
      try clear c37
      try clear c37b0
      try clear c37b1
      try clear c37b2
      try clear c38
      try clear c38b0
      try clear c38b1
      try clear c38b2
      try clear c39
      try clear c39b0
      try clear c39b1
      try clear c39b2
      try clear c53
      try clear p2
      try clear p6
      obtain ⟨x24_2, rfl, HA, HK2, HO_20, HB⟩ := hrel
      cases gk with
      | zero => exact absurd HA.out (by simp [laws_FnFiltered.l0])
      | succ k2 =>
       have H := HA.out
       clear HA
       simp only [laws_FnFiltered.l0] at H
       by_cases c54 : x24_2 < (t497.length : Int)
       ·rw [if_pos c54] at H
        have c54b0 : decide (x24_2 < (t497.length : Int)) = true := decide_eq_true c54
        clear c54
        by_cases c55 : 0 ≤ x24_2
        ·rw [if_pos c55] at H
         have c55b0 : decide (0 ≤ x24_2) = true := decide_eq_true c55
         clear c55
         by_cases c56 : (rd t497 x24_2) < (wrap64 (1 + t480))
         ·rw [if_pos c56] at H
          have c56b0 : decide ((rd t497 x24_2) < (wrap64 (1 + t480))) = true := decide_eq_true c56
          clear c56
          obtain rfl := Option.some.inj H
          obtain ⟨Ao57, co57, eo57⟩ := Kd.R_slice HO_20.out
          subst eo57
          have p504 : 0 ≤ (x24_2 : Int) := of_decide_eq_true (by first | (with_reducible assumption) | assumption)
          have q504 : x24_2 < (t497.length : Int) := of_decide_eq_true (by first | (with_reducible assumption) | assumption)
          obtain ⟨ad504, e504, hx504_0⟩ := Kd.at_int (Kd.R_reads' HO_20.out).2.2 x24_2 p504 q504
          cases e504
          replace p504 := eq_true p504
          replace q504 := eq_true q504
          go_wp2
          repeat (go_quiet (fail); try go_wp2)
          go_ret
          exact ⟨by first | rfl | (simp [errW_none, errW_some] <;> rfl) | (simp [*, errW_none, errW_some] <;> rfl), by repeat (first | (with_reducible first | exact HB.out | apply below_alloc | apply pw_below_drewN | apply below_drew1) | exact HB.out)⟩
         ·rw [if_neg c56] at H
          have c56b0 : decide ((rd t497 x24_2) < (wrap64 (1 + t480))) = false := decide_eq_false c56
          clear c56
          have H' := Aside0.mk H
          clear H
          obtain ⟨Ao58, co58, eo58⟩ := Kd.R_slice HO_20.out
          subst eo58
          have p504 : 0 ≤ (x24_2 : Int) := of_decide_eq_true (by first | (with_reducible assumption) | assumption)
          have q504 : x24_2 < (t497.length : Int) := of_decide_eq_true (by first | (with_reducible assumption) | assumption)
          obtain ⟨ad504, e504, hx504_0⟩ := Kd.at_int (Kd.R_reads' HO_20.out).2.2 x24_2 p504 q504
          cases e504
          replace p504 := eq_true p504
          replace q504 := eq_true q504
          go_wp2
          repeat (go_quiet (fail); try go_wp2)
          go_roundg k2
          case measure => have := HJ15.out; have := HK2.out; omega
          case rel => exact ⟨(wrap64 (x24_2 + 1)), (by first | rfl | (simp; done) | (simp [*]; done)), H', ⟨by have := HJ15.out; have := HK2.out; omega⟩, ⟨by (with_reducible repeat (first | apply Kd.R_alloc | apply Kd.R_drewN | apply Kd.R_drew)); exact HO_20.out⟩, ⟨by repeat (first | (with_reducible first | exact HB.out | apply below_alloc | apply pw_below_drewN | apply below_drew1) | exact HB.out)⟩⟩
        ·rw [if_neg c55] at H
         exact absurd H (by simp)
       ·rw [if_neg c54] at H
        have c54b0 : decide (x24_2 < (t497.length : Int)) = false := decide_eq_false c54
        clear c54
        replace H := Option.bind_eq_some_iff.mp H
        obtain ⟨⟨t505, t506⟩, A590, H⟩ := H
        replace H : (if t506 = true then (laws_FnFiltered.l1 k2 t479 (t479.size : Int) (wrap64 (1 + t480)) t481 t483 t485 t487 t505 0) else (some false)) = some r := H
        have A59 := Aside0.mk A590
        clear A590
        by_cases c60 : t506 = true
        ·subst c60
         have H1 : (laws_FnFiltered.l1 k2 t479 (t479.size : Int) (wrap64 (1 + t480)) t481 t483 t485 t487 t505 0) = some r := by rw [if_pos rfl] at H; exact H
         clear H
         have H := H1
         clear H1
         have H' := Aside0.mk H
         clear H
         obtain ⟨Ao61, co61, eo61⟩ := Kd.R_slice HO_20.out
         subst eo61
         go_wp2_with (first | (go_at_call 36; (with_reducible refine (impl_PulsesOf.calls t485 t505 true _ A59.out).mono ?_); rintro e w62 ⟨v507, rfl, ho0, hb⟩; have n0_ := Aside0.mk (Kd.R_elder' (by (with_reducible repeat (first | apply Kd.R_alloc | apply Kd.R_drewN | apply Kd.R_drew)); exact HO_20.out) (Kd.R_base ho0) hb); have n1_ := Aside0.mk (Kd.R_lower (Kd.R_new' ho0 (Kd.R_lt (by (with_reducible repeat (first | apply Kd.R_alloc | apply Kd.R_drewN | apply Kd.R_drew)); exact HO_20.out))) (below_size (by repeat (first | (with_reducible first | exact HB.out | apply below_alloc | apply pw_below_drewN | apply below_drew1) | exact HB.out)))); have n2_ := Aside0.mk (below_step (by repeat (first | (with_reducible first | exact HB.out | apply below_alloc | apply pw_below_drewN | apply below_drew1) | exact HB.out)) hb); clear HO_20; clear HB; have HO_20 := n0_; have HO508 := n1_; have HB := n2_; clear n0_ n1_ n2_; (try clear hb); (try clear hb2); (try clear hk); (try clear hi); (try clear ho0)))
         repeat (go_quiet (first | (go_at_call 36; (with_reducible refine (impl_PulsesOf.calls t485 t505 true _ A59.out).mono ?_); rintro e w62 ⟨v507, rfl, ho0, hb⟩; have n0_ := Aside0.mk (Kd.R_elder' (by (with_reducible repeat (first | apply Kd.R_alloc | apply Kd.R_drewN | apply Kd.R_drew)); exact HO_20.out) (Kd.R_base ho0) hb); have n1_ := Aside0.mk (Kd.R_lower (Kd.R_new' ho0 (Kd.R_lt (by (with_reducible repeat (first | apply Kd.R_alloc | apply Kd.R_drewN | apply Kd.R_drew)); exact HO_20.out))) (below_size (by repeat (first | (with_reducible first | exact HB.out | apply below_alloc | apply pw_below_drewN | apply below_drew1) | exact HB.out)))); have n2_ := Aside0.mk (below_step (by repeat (first | (with_reducible first | exact HB.out | apply below_alloc | apply pw_below_drewN | apply below_drew1) | exact HB.out)) hb); clear HO_20; clear HB; have HO_20 := n0_; have HO508 := n1_; have HB := n2_; clear n0_ n1_ n2_; (try clear hb); (try clear hb2); (try clear hk); (try clear hi); (try clear ho0))); try go_wp2_with (first | (go_at_call 36; (with_reducible refine (impl_PulsesOf.calls t485 t505 true _ A59.out).mono ?_); rintro e w62 ⟨v507, rfl, ho0, hb⟩; have n0_ := Aside0.mk (Kd.R_elder' (by (with_reducible repeat (first | apply Kd.R_alloc | apply Kd.R_drewN | apply Kd.R_drew)); exact HO_20.out) (Kd.R_base ho0) hb); have n1_ := Aside0.mk (Kd.R_lower (Kd.R_new' ho0 (Kd.R_lt (by (with_reducible repeat (first | apply Kd.R_alloc | apply Kd.R_drewN | apply Kd.R_drew)); exact HO_20.out))) (below_size (by repeat (first | (with_reducible first | exact HB.out | apply below_alloc | apply pw_below_drewN | apply below_drew1) | exact HB.out)))); have n2_ := Aside0.mk (below_step (by repeat (first | (with_reducible first | exact HB.out | apply below_alloc | apply pw_below_drewN | apply below_drew1) | exact HB.out)) hb); clear HO_20; clear HB; have HO_20 := n0_; have HO508 := n1_; have HB := n2_; clear n0_ n1_ n2_; (try clear hb); (try clear hb2); (try clear hk); (try clear hi); (try clear ho0))))
         go_loopg [27] k2 (fun kq v27 w' => ∃ (x27_3 : Int), v27 = .int .i64 x27_3 ∧ Aside0 (laws_FnFiltered.l1 kq t479 (t479.size : Int) (wrap64 (1 + t480)) t481 t483 t485 t487 t505 x27_3 = some r) ∧ Aside0 (kq ≤ k2) ∧ Aside0 (Kd.R (Kd.int .i64) 2 w' w.heap.size (fun _ => True) v507 t505) ∧ Aside0 (Below w.heap.size w w'))
         case atStart => exact ⟨(0), (by first | rfl | (simp; done) | (simp [*]; done)), H', ⟨Nat.le_refl _⟩, ⟨by (with_reducible repeat (first | apply Kd.R_alloc | apply Kd.R_drewN | apply Kd.R_drew)); exact Kd.R_mono HO508.out (fun _ hk => trivial)⟩, ⟨by repeat (first | (with_reducible first | exact HB.out | apply below_alloc | apply pw_below_drewN | apply below_drew1) | exact HB.out)⟩⟩
         case round => as_aux_lemma =>
          clear H'
          try clear c1
          try clear c2
          try clear p2
          try clear c3
          try clear c4
          try clear c5
          try clear p5
          try clear q5
          try clear hx5
          try clear c6
          try clear p6
          try clear c10
          try clear c26
          try clear c27
          try clear c28
          try clear c29
          try clear c30
          try clear c31
          try clear c32
          try clear c33
          try clear c34
          try clear c34b0
          try clear c34b1
          try clear c34b2
          try clear c35
          try clear c35b0
          try clear c35b1
          try clear c35b2
          try clear c36
          try clear c36b0
          try clear c36b1
          try clear c36b2
          try clear c37
          try clear c37b0
          try clear c37b1
          try clear c37b2
          try clear c38
          try clear c38b0
          try clear c38b1
          try clear c38b2
          try clear c39
          try clear c39b0
          try clear c39b1
          try clear c39b2
          try clear p50
          try clear q50
          try clear hx50
          try clear c53
          try clear c54
          try clear c54b0
          try clear c55
          try clear c55b0
          try clear c56
          try clear c56b0
          try clear c60
          try clear hx504_0
          try clear p2
          try clear p504
          try clear p6
          try clear q504
          obtain ⟨x27_3, rfl, HA, HK3, HO_25, HB⟩ := hrel
          cases gk with
          | zero => exact absurd HA.out (by simp [laws_FnFiltered.l1])
          | succ k3 =>
           have H := HA.out
           clear HA
           simp only [laws_FnFiltered.l1] at H
           by_cases c63 : x27_3 < (t505.length : Int)
           ·rw [if_pos c63] at H
            have c63b0 : decide (x27_3 < (t505.length : Int)) = true := decide_eq_true c63
            clear c63
            by_cases c64 : 0 ≤ x27_3
            ·rw [if_pos c64] at H
             have c64b0 : decide (0 ≤ x27_3) = true := decide_eq_true c64
             clear c64
             by_cases c65 : (rd t505 x27_3) < (wrap64 (1 + t480))
             ·rw [if_pos c65] at H
              have c65b0 : decide ((rd t505 x27_3) < (wrap64 (1 + t480))) = true := decide_eq_true c65
              clear c65
              obtain rfl := Option.some.inj H
              obtain ⟨Ao66, co66, eo66⟩ := Kd.R_slice HO_25.out
              subst eo66
              have p509 : 0 ≤ (x27_3 : Int) := of_decide_eq_true (by first | (with_reducible assumption) | assumption)
              have q509 : x27_3 < (t505.length : Int) := of_decide_eq_true (by first | (with_reducible assumption) | assumption)
              obtain ⟨ad509, e509, hx509_0⟩ := Kd.at_int (Kd.R_reads' HO_25.out).2.2 x27_3 p509 q509
              cases e509
              replace p509 := eq_true p509
              replace q509 := eq_true q509
              go_wp2
              repeat (go_quiet (fail); try go_wp2)
              go_ret
              exact ⟨by first | rfl | (simp [errW_none, errW_some] <;> rfl) | (simp [*, errW_none, errW_some] <;> rfl), by repeat (first | (with_reducible first | exact HB.out | apply below_alloc | apply pw_below_drewN | apply below_drew1) | exact HB.out)⟩
             ·rw [if_neg c65] at H
              have c65b0 : decide ((rd t505 x27_3) < (wrap64 (1 + t480))) = false := decide_eq_false c65
              clear c65
              have H' := Aside0.mk H
              clear H
              obtain ⟨Ao67, co67, eo67⟩ := Kd.R_slice HO_25.out
              subst eo67
              have p509 : 0 ≤ (x27_3 : Int) := of_decide_eq_true (by first | (with_reducible assumption) | assumption)
              have q509 : x27_3 < (t505.length : Int) := of_decide_eq_true (by first | (with_reducible assumption) | assumption)
              obtain ⟨ad509, e509, hx509_0⟩ := Kd.at_int (Kd.R_reads' HO_25.out).2.2 x27_3 p509 q509
              cases e509
              replace p509 := eq_true p509
              replace q509 := eq_true q509
              go_wp2
              repeat (go_quiet (fail); try go_wp2)
              go_roundg k3
              case measure => have := HJ15.out; have := HK2.out; have := HK3.out; omega
              case rel => exact ⟨(wrap64 (x27_3 + 1)), (by first | rfl | (simp; done) | (simp [*]; done)), H', ⟨by have := HJ15.out; have := HK2.out; have := HK3.out; omega⟩, ⟨by (with_reducible repeat (first | apply Kd.R_alloc | apply Kd.R_drewN | apply Kd.R_drew)); exact HO_25.out⟩, ⟨by repeat (first | (with_reducible first | exact HB.out | apply below_alloc | apply pw_below_drewN | apply below_drew1) | exact HB.out)⟩⟩
            ·rw [if_neg c64] at H
             exact absurd H (by simp)
           ·rw [if_neg c63] at H
            have c63b0 : decide (x27_3 < (t505.length : Int)) = false := decide_eq_false c63
            clear c63
            have H' := Aside0.mk H
            clear H
            obtain ⟨Ao68, co68, eo68⟩ := Kd.R_slice HO_25.out
            subst eo68
            go_wp2
            repeat (go_quiet (fail); try go_wp2)
            go_loopg [28, 29] k3 (fun kq v28 v29 w' => ∃ (x28_4 : Int) (x29_4 : Int), v28 = .int .i64 x28_4 ∧ v29 = .int .i64 x29_4 ∧ Aside0 (laws_FnFiltered.l2 kq t479 (t479.size : Int) (wrap64 (1 + t480)) t481 t483 t485 t487 x28_4 x29_4 = some r) ∧ Aside0 (kq ≤ k3) ∧ Aside0 (Below w.heap.size w w'))
            case atStart => exact ⟨(0), (0), (by first | rfl | (simp; done) | (simp [*]; done)), (by first | rfl | (simp; done) | (simp [*]; done)), H', ⟨Nat.le_refl _⟩, ⟨by repeat (first | (with_reducible first | exact HB.out | apply below_alloc | apply pw_below_drewN | apply below_drew1) | exact HB.out)⟩⟩
            case round => as_aux_lemma =>
             clear H'
             try clear c1
             try clear c2
             try clear p2
             try clear c3
             try clear c4
             try clear c5
             try clear p5
             try clear q5
             try clear hx5
             try clear c6
             try clear p6
             try clear c10
             try clear c26
             try clear c27
             try clear c28
             try clear c29
             try clear c30
             try clear c31
             try clear c32
             try clear c33
             try clear c34
             try clear c34b0
             try clear c34b1
             try clear c34b2
             try clear c35
             try clear c35b0
             try clear c35b1
             try clear c35b2
             try clear c36
             try clear c36b0
             try clear c36b1
             try clear c36b2
             try clear c37
             try clear c37b0
             try clear c37b1
             try clear c37b2
             try clear c38
             try clear c38b0
             try clear c38b1
             try clear c38b2
             try clear c39
             try clear c39b0
             try clear c39b1
             try clear c39b2
             try clear p50
             try clear q50
             try clear hx50
             try clear c53
             try clear c54
             try clear c54b0
             try clear c55
             try clear c55b0
             try clear c56
             try clear c56b0
             try clear c60
             try clear c63
             try clear c63b0
             try clear c64
             try clear c64b0
             try clear p64
             try clear c65
             try clear c65b0
             try clear hx504_0
             try clear hx509_0
             try clear p2
             try clear p5
             try clear p50
             try clear p504
             try clear p509
             try clear p6
             try clear q5
             try clear q50
             try clear q504
             try clear q509
             obtain ⟨x28_4, x29_4, rfl, rfl, HA, HK4, HB⟩ := hrel
             cases gk with
             | zero => exact absurd HA.out (by simp [laws_FnFiltered.l2])
             | succ k4 =>
              have H := HA.out
              clear HA
              simp only [laws_FnFiltered.l2] at H
              by_cases c69 : x29_4 < (t479.size : Int)
              ·rw [if_pos c69] at H
               have c69b0 : decide (x29_4 < (t479.size : Int)) = true := decide_eq_true c69
               clear c69
               have HC70 := Aside0.mk H
               clear H
               go_upto_region 33 with (fail)
               repeat (go_quiet (fail); go_upto_region 33 with (fail))
               go_cut [207] (fun v207 wc => ∃ (kq : Nat) (x207_69 : Bool), v207 = .bool x207_69 ∧ Aside0 (laws_FnFiltered.j4 kq t479 (t479.size : Int) (wrap64 (1 + t480)) t481 t483 t485 t487 x28_4 x29_4 x207_69 = some r) ∧ Aside0 (kq ≤ k4) ∧ Aside0 (Below w.heap.size w wc))
               case first => as_aux_lemma =>
                have H := HC70.out
                clear HC70
                by_cases c71 : x29_4 > 0
                ·rw [if_pos c71] at H
                 have c71b0 : decide (0 < x29_4) = true := decide_eq_true c71
                 clear c71
                 (first | rw [c71b0] | (simp only [i64_w, i32_w]; rw [c71b0]) | skip)
                 by_cases c72 : 0 ≤ x29_4
                 ·rw [if_pos c72] at H
                  have c72b0 : decide (0 ≤ x29_4) = true := decide_eq_true c72
                  clear c72
                  by_cases c73 : x29_4 < (t479.size : Int)
                  ·rw [if_pos c73] at H
                   have c73b0 : decide (x29_4 < (t479.size : Int)) = true := decide_eq_true c73
                   clear c73
                   obtain ⟨ji75, hji75⟩ : ∃ j_ : Int, (wrap64 (x29_4 - 1)) = j_ := ⟨_, rfl⟩
                   replace H : (if 0 ≤ (ji75) then (if (ji75) < (t479.size : Int) then (laws_FnFiltered.j4 k4 t479 (t479.size : Int) (wrap64 (1 + t480)) t481 t483 t485 t487 x28_4 x29_4 ((bt t479 x29_4) != (bt t479 (ji75)))) else (none)) else (none)) = some r := by first | (rw [hji75] at H; exact H) | (simp only [hji75] at H ⊢; exact H)
                   have hji75w : (IntKind.i64.wrap (x29_4 - 1)) = ji75 := (i64_w _).trans hji75
                   by_cases c76 : 0 ≤ (ji75)
                   ·rw [if_pos c76] at H
                    have c76b0 : decide (0 ≤ (ji75)) = true := decide_eq_true c76
                    clear c76
                    by_cases c77 : (ji75) < (t479.size : Int)
                    ·rw [if_pos c77] at H
                     have c77b0 : decide ((ji75) < (t479.size : Int)) = true := decide_eq_true c77
                     clear c77
                     have H' := Aside0.mk H
                     clear H
                     have p74 : 0 ≤ (x29_4 : Int) := of_decide_eq_true (by first | (with_reducible assumption) | assumption)
                     have q74 : x29_4 < (t479.size : Int) := of_decide_eq_true (by first | (with_reducible assumption) | assumption)
                     have hx74 := bt_at t479 x29_4
                     replace p74 := eq_true p74
                     replace q74 := eq_true q74
                     have p78 : 0 ≤ ((ji75) : Int) := of_decide_eq_true (by first | (with_reducible assumption) | assumption)
                     have q78 : (ji75) < (t479.size : Int) := of_decide_eq_true (by first | (with_reducible assumption) | assumption)
                     have hx78 := bt_at t479 (ji75)
                     replace p78 := eq_true p78
                     replace q78 := eq_true q78
                     go_wp2
                     repeat (go_quiet (fail); try go_wp2)
                     go_meet
                     case rel => exact ⟨_, (((bt t479 x29_4) != (bt t479 (ji75)))), (by first | rfl | (simp; done) | (simp only [← hji75] <;> (first | rfl | simp)) | (simp [*]; done)), H', ⟨by have := HJ15.out; have := HK2.out; have := HK3.out; have := HK4.out; first | omega | exact Nat.le_refl _⟩, ⟨by repeat (first | (with_reducible first | exact HB.out | apply below_alloc | apply pw_below_drewN | apply below_drew1) | exact HB.out)⟩⟩
                    ·rw [if_neg c77] at H
                     exact absurd H (by simp)
                   ·rw [if_neg c76] at H
                    exact absurd H (by simp)
                  ·rw [if_neg c73] at H
                   exact absurd H (by simp)
                 ·rw [if_neg c72] at H
                  exact absurd H (by simp)
                ·rw [if_neg c71] at H
                 have c71b0 : decide (0 < x29_4) = false := decide_eq_false c71
                 clear c71
                 (first | rw [c71b0] | (simp only [i64_w, i32_w]; rw [c71b0]) | skip)
                 have H' := Aside0.mk H
                 clear H
                 go_wp2
                 repeat (go_quiet (fail); try go_wp2)
                 go_meet
                 case rel => exact ⟨_, (false), (by first | rfl | (simp; done) | (simp [*]; done)), H', ⟨by have := HJ15.out; have := HK2.out; have := HK3.out; have := HK4.out; first | omega | exact Nat.le_refl _⟩, ⟨by repeat (first | (with_reducible first | exact HB.out | apply below_alloc | apply pw_below_drewN | apply below_drew1) | exact HB.out)⟩⟩
               case rest => as_aux_lemma =>
                clear HC70
                try clear c1
                try clear c2
                try clear p2
                try clear c3
                try clear c4
                try clear c5
                try clear p5
                try clear q5
                try clear hx5
                try clear c6
                try clear p6
                try clear c7
                try clear p7
                try clear q7
                try clear hx7
                try clear c10
                try clear c26
                try clear c27
                try clear c28
                try clear c29
                try clear c30
                try clear c31
                try clear c32
                try clear c33
                try clear c34
                try clear c34b0
                try clear c34b1
                try clear c34b2
                try clear c35
                try clear c35b0
                try clear c35b1
                try clear c35b2
                try clear c36
                try clear c36b0
                try clear c36b1
                try clear c36b2
                try clear c37
                try clear c37b0
                try clear c37b1
                try clear c37b2
                try clear c38
                try clear c38b0
                try clear c38b1
                try clear c38b2
                try clear c39
                try clear c39b0
                try clear c39b1
                try clear c39b2
                try clear p50
                try clear q50
                try clear hx50
                try clear c53
                try clear c54
                try clear c54b0
                try clear c55
                try clear c55b0
                try clear c56
                try clear c56b0
                try clear c60
                try clear c63
                try clear c63b0
                try clear c64
                try clear c64b0
                try clear p64
                try clear c65
                try clear c65b0
                try clear c69
                try clear c69b0
                try clear c71
                try clear c71b0
                try clear c72
                try clear c72b0
                try clear c73
                try clear c73b0
                try clear p74
                try clear q74
                try clear hx74
                try clear c76
                try clear c76b0
                try clear c77
                try clear c77b0
                try clear p78
                try clear q78
                try clear hx78
                try clear hx504_0
                try clear hx509_0
                try clear p2
                try clear p5
                try clear p50
                try clear p504
                try clear p509
                try clear p6
                try clear p64
                try clear p74
                try clear p78
                try clear q5
                try clear q50
                try clear q504
                try clear q509
                try clear q74
                try clear q78
                obtain ⟨kq, x207_69, rfl, HA, HJ69, HB⟩ := hcut
                cases kq with
                | zero => exact absurd HA.out (by simp [laws_FnFiltered.j4])
                | succ kj69 =>
                 have H := HA.out
                 clear HA
                 simp only [laws_FnFiltered.j4] at H
                 have HC79 := Aside0.mk H
                 clear H
                 go_upto_if 207 with (fail)
                 repeat (go_quiet (fail); go_upto_if 207 with (fail))
                 go_cut [28] (fun v28 wc => ∃ (kq : Nat) (x28_78 : Int), v28 = .int .i64 x28_78 ∧ Aside0 (laws_FnFiltered.j5 kq t479 (t479.size : Int) (wrap64 (1 + t480)) t481 t483 t485 t487 x28_78 x29_4 = some r) ∧ Aside0 (kq ≤ kj69) ∧ Aside0 (Below w.heap.size w wc))
                 case first => as_aux_lemma =>
                  have H := HC79.out
                  clear HC79
                  by_cases c80 : x207_69 = true
                  ·subst c80
                   have H1 : (laws_FnFiltered.j5 kj69 t479 (t479.size : Int) (wrap64 (1 + t480)) t481 t483 t485 t487 0 x29_4) = some r := by rw [if_pos rfl] at H; exact H
                   clear H
                   have H := H1
                   clear H1
                   have H' := Aside0.mk H
                   clear H
                   go_wp2
                   repeat (go_quiet (fail); try go_wp2)
                   go_meet
                   case rel => exact ⟨_, (0), (by first | rfl | (simp; done) | (simp [*]; done)), H', ⟨by have := HJ15.out; have := HK2.out; have := HK3.out; have := HK4.out; have := HJ69.out; first | omega | exact Nat.le_refl _⟩, ⟨by repeat (first | (with_reducible first | exact HB.out | apply below_alloc | apply pw_below_drewN | apply below_drew1) | exact HB.out)⟩⟩
                  ·replace c80 := Bool.eq_false_iff.mpr c80
                   subst c80
                   have H1 : (laws_FnFiltered.j5 kj69 t479 (t479.size : Int) (wrap64 (1 + t480)) t481 t483 t485 t487 x28_4 x29_4) = some r := by rw [if_neg (show ¬ (false = true) by decide)] at H; exact H
                   clear H
                   have H := H1
                   clear H1
                   have H' := Aside0.mk H
                   clear H
                   go_wp2
                   repeat (go_quiet (fail); try go_wp2)
                   go_meet
                   case rel => exact ⟨_, (x28_4), (by first | rfl | (simp; done) | (simp [*]; done)), H', ⟨by have := HJ15.out; have := HK2.out; have := HK3.out; have := HK4.out; have := HJ69.out; first | omega | exact Nat.le_refl _⟩, ⟨by repeat (first | (with_reducible first | exact HB.out | apply below_alloc | apply pw_below_drewN | apply below_drew1) | exact HB.out)⟩⟩
                 case rest => as_aux_lemma =>
                  clear HC79
                  try clear c1
                  try clear c2
                  try clear p2
                  try clear c3
                  try clear c4
                  try clear c5
                  try clear p5
                  try clear q5
                  try clear hx5
                  try clear c6
                  try clear p6
                  try clear c7
                  try clear p7
                  try clear q7
                  try clear hx7
                  try clear c8
                  try clear c10
                  try clear c26
                  try clear c27
                  try clear c28
                  try clear c29
                  try clear c30
                  try clear c31
                  try clear c32
                  try clear c33
                  try clear c34
                  try clear c34b0
                  try clear c34b1
                  try clear c34b2
                  try clear c35
                  try clear c35b0
                  try clear c35b1
                  try clear c35b2
                  try clear c36
                  try clear c36b0
                  try clear c36b1
                  try clear c36b2
                  try clear c37
                  try clear c37b0
                  try clear c37b1
                  try clear c37b2
                  try clear c38
                  try clear c38b0
                  try clear c38b1
                  try clear c38b2
                  try clear c39
                  try clear c39b0
                  try clear c39b1
                  try clear c39b2
                  try clear p50
                  try clear q50
                  try clear hx50
                  try clear c53
                  try clear c54
                  try clear c54b0
                  try clear c55
                  try clear c55b0
                  try clear c56
                  try clear c56b0
                  try clear c60
                  try clear c63
                  try clear c63b0
                  try clear c64
                  try clear c64b0
                  try clear p64
                  try clear c65
                  try clear c65b0
                  try clear c69
                  try clear c69b0
                  try clear c71
                  try clear c71b0
                  try clear c72
                  try clear c72b0
                  try clear c73
                  try clear c73b0
                  try clear p74
                  try clear q74
                  try clear hx74
                  try clear c76
                  try clear c76b0
                  try clear c77
                  try clear c77b0
                  try clear p78
                  try clear q78
                  try clear hx78
                  try clear c80
                  try clear hx504_0
                  try clear hx509_0
                  try clear p2
                  try clear p5
                  try clear p50
                  try clear p504
                  try clear p509
                  try clear p6
                  try clear p64
                  try clear p7
                  try clear p74
                  try clear p78
                  try clear q5
                  try clear q50
                  try clear q504
                  try clear q509
                  try clear q7
                  try clear q74
                  try clear q78
                  obtain ⟨kq, x28_78, rfl, HA, HJ78, HB⟩ := hcut
                  cases kq with
                  | zero => exact absurd HA.out (by simp [laws_FnFiltered.j5])
                  | succ kj78 =>
                   have H := HA.out
                   clear HA
                   simp only [laws_FnFiltered.j5] at H
                   have HC81 := Aside0.mk H
                   clear H
                   go_upto_region 36 with (fail)
                   repeat (go_quiet (fail); go_upto_region 36 with (fail))
                   go_cut [263] (fun v263 wc => ∃ (kq : Nat) (x263_80 : Bool), v263 = .bool x263_80 ∧ Aside0 (laws_FnFiltered.j6 kq t479 (t479.size : Int) (wrap64 (1 + t480)) t481 t483 t485 t487 (wrap64 (x28_78 + 1)) x29_4 x263_80 = some r) ∧ Aside0 (kq ≤ kj78) ∧ Aside0 (Below w.heap.size w wc))
                   case first => as_aux_lemma =>
                    have H := HC81.out
                    clear HC81
                    by_cases c82 : (wrap64 (x28_78 + 1)) ≥ (wrap64 (1 + t480))
                    ·rw [if_pos c82] at H
                     have c82b0 : decide ((wrap64 (1 + t480)) ≤ (wrap64 (x28_78 + 1))) = true := decide_eq_true c82
                     clear c82
                     (first | rw [c82b0] | (simp only [i64_w, i32_w]; rw [c82b0]) | skip)
                     by_cases c83 : 0 ≤ x29_4
                     ·rw [if_pos c83] at H
                      have c83b0 : decide (0 ≤ x29_4) = true := decide_eq_true c83
                      clear c83
                      by_cases c84 : x29_4 < (t481.size : Int)
                      ·rw [if_pos c84] at H
                       have c84b0 : decide (x29_4 < (t481.size : Int)) = true := decide_eq_true c84
                       clear c84
                       by_cases c86 : x29_4 < (t479.size : Int)
                       ·rw [if_pos c86] at H
                        have c86b0 : decide (x29_4 < (t479.size : Int)) = true := decide_eq_true c86
                        clear c86
                        by_cases c88 : (bt t481 x29_4) = (bt t479 x29_4)
                        ·rw [if_pos c88] at H
                         have c88b0 : ((bt t481 x29_4) == (bt t479 x29_4)) = true := beq_iff_eq.mpr c88
                         have c88b1 : ((bt t481 x29_4) != (bt t479 x29_4)) = false := bne_eq_false_iff_eq.mpr c88
                         clear c88
                         by_cases c90 : (bt t479 x29_4) = 49
                         ·rw [if_pos c90] at H
                          have c90b0 : ((bt t479 x29_4) == 49) = true := beq_iff_eq.mpr c90
                          have c90b1 : ((bt t479 x29_4) != 49) = false := bne_eq_false_iff_eq.mpr c90
                          clear c90
                          by_cases c91 : x29_4 < (t483.size : Int)
                          ·rw [if_pos c91] at H
                           have c91b0 : decide (x29_4 < (t483.size : Int)) = true := decide_eq_true c91
                           clear c91
                           by_cases c93 : (bt t483 x29_4) = 48
                           ·rw [if_pos c93] at H
                            have c93b0 : ((bt t483 x29_4) == 48) = true := beq_iff_eq.mpr c93
                            have c93b1 : ((bt t483 x29_4) != 48) = false := bne_eq_false_iff_eq.mpr c93
                            clear c93
                            exact absurd HRT.out (by rw [laws_FnFiltered.j6_no _ _ _ _ _ _ _ _ _ _ _ H]; decide)
                           ·rw [if_neg c93] at H
                            have c93b0 : ((bt t483 x29_4) == 48) = false := beq_eq_false_iff_ne.mpr c93
                            have c93b1 : ((bt t483 x29_4) != 48) = true := bne_iff_ne.mpr c93
                            by_cases c94 : x29_4 < (t487.size : Int)
                            ·rw [if_pos c94] at H
                             have c94b0 : decide (x29_4 < (t487.size : Int)) = true := decide_eq_true c94
                             clear c94
                             by_cases c96 : (bt t487 x29_4) = 48
                             ·rw [if_pos c96] at H
                              have c96b0 : ((bt t487 x29_4) == 48) = true := beq_iff_eq.mpr c96
                              have c96b1 : ((bt t487 x29_4) != 48) = false := bne_eq_false_iff_eq.mpr c96
                              clear c96
                              exact absurd HRT.out (by rw [laws_FnFiltered.j6_no _ _ _ _ _ _ _ _ _ _ _ H]; decide)
                             ·rw [if_neg c96] at H
                              have c96b0 : ((bt t487 x29_4) == 48) = false := beq_eq_false_iff_ne.mpr c96
                              have c96b1 : ((bt t487 x29_4) != 48) = true := bne_iff_ne.mpr c96
                              by_cases c97 : x29_4 < (t485.size : Int)
                              ·rw [if_pos c97] at H
                               have c97b0 : decide (x29_4 < (t485.size : Int)) = true := decide_eq_true c97
                               clear c97
                               by_cases c99 : (bt t485 x29_4) = 49
                               ·rw [if_pos c99] at H
                                have c99b0 : ((bt t485 x29_4) == 49) = true := beq_iff_eq.mpr c99
                                have c99b1 : ((bt t485 x29_4) != 49) = false := bne_eq_false_iff_eq.mpr c99
                                clear c99
                                by_cases c101 : (bt t479 x29_4) = 48
                                ·rw [if_pos c101] at H
                                 have c101b0 : ((bt t479 x29_4) == 48) = true := beq_iff_eq.mpr c101
                                 have c101b1 : ((bt t479 x29_4) != 48) = false := bne_eq_false_iff_eq.mpr c101
                                 clear c101
                                 exact absurd HRT.out (by rw [laws_FnFiltered.j6_no _ _ _ _ _ _ _ _ _ _ _ H]; decide)
                                ·rw [if_neg c101] at H
                                 have c101b0 : ((bt t479 x29_4) == 48) = false := beq_eq_false_iff_ne.mpr c101
                                 have c101b1 : ((bt t479 x29_4) != 48) = true := bne_iff_ne.mpr c101
                                 by_cases c103 : (bt t481 x29_4) = 49
                                 ·rw [if_pos c103] at H
                                  have c103b0 : ((bt t481 x29_4) == 49) = true := beq_iff_eq.mpr c103
                                  have c103b1 : ((bt t481 x29_4) != 49) = false := bne_eq_false_iff_eq.mpr c103
                                  clear c103
                                  have H' := Aside0.mk H
                                  clear H
                                  have p85 : 0 ≤ (x29_4 : Int) := of_decide_eq_true (by first | (with_reducible assumption) | assumption)
                                  have q85 : x29_4 < (t481.size : Int) := of_decide_eq_true (by first | (with_reducible assumption) | assumption)
                                  have hx85 := bt_at t481 x29_4
                                  replace p85 := eq_true p85
                                  replace q85 := eq_true q85
                                  have p87 : 0 ≤ (x29_4 : Int) := of_decide_eq_true (by first | (with_reducible assumption) | assumption)
                                  have q87 : x29_4 < (t479.size : Int) := of_decide_eq_true (by first | (with_reducible assumption) | assumption)
                                  have hx87 := bt_at t479 x29_4
                                  replace p87 := eq_true p87
                                  replace q87 := eq_true q87
                                  have p89 : 0 ≤ (x29_4 : Int) := of_decide_eq_true (by first | (with_reducible assumption) | assumption)
                                  have q89 : x29_4 < (t479.size : Int) := of_decide_eq_true (by first | (with_reducible assumption) | assumption)
                                  have hx89 := bt_at t479 x29_4
                                  replace p89 := eq_true p89
                                  replace q89 := eq_true q89
                                  have p92 : 0 ≤ (x29_4 : Int) := of_decide_eq_true (by first | (with_reducible assumption) | assumption)
                                  have q92 : x29_4 < (t483.size : Int) := of_decide_eq_true (by first | (with_reducible assumption) | assumption)
                                  have hx92 := bt_at t483 x29_4
                                  replace p92 := eq_true p92
                                  replace q92 := eq_true q92
                                  have p95 : 0 ≤ (x29_4 : Int) := of_decide_eq_true (by first | (with_reducible assumption) | assumption)
                                  have q95 : x29_4 < (t487.size : Int) := of_decide_eq_true (by first | (with_reducible assumption) | assumption)
                                  have hx95 := bt_at t487 x29_4
                                  replace p95 := eq_true p95
                                  replace q95 := eq_true q95
                                  have p98 : 0 ≤ (x29_4 : Int) := of_decide_eq_true (by first | (with_reducible assumption) | assumption)
                                  have q98 : x29_4 < (t485.size : Int) := of_decide_eq_true (by first | (with_reducible assumption) | assumption)
                                  have hx98 := bt_at t485 x29_4
                                  replace p98 := eq_true p98
                                  replace q98 := eq_true q98
                                  have p100 : 0 ≤ (x29_4 : Int) := of_decide_eq_true (by first | (with_reducible assumption) | assumption)
                                  have q100 : x29_4 < (t479.size : Int) := of_decide_eq_true (by first | (with_reducible assumption) | assumption)
                                  have hx100 := bt_at t479 x29_4
                                  replace p100 := eq_true p100
                                  replace q100 := eq_true q100
                                  have p102 : 0 ≤ (x29_4 : Int) := of_decide_eq_true (by first | (with_reducible assumption) | assumption)
                                  have q102 : x29_4 < (t481.size : Int) := of_decide_eq_true (by first | (with_reducible assumption) | assumption)
                                  have hx102 := bt_at t481 x29_4
                                  replace p102 := eq_true p102
                                  replace q102 := eq_true q102
                                  go_wp2
                                  repeat (go_quiet (fail); try go_wp2)
                                  go_meet
                                  case rel => exact ⟨_, (decide ((wrap64 (x29_4 + 1)) < (wrap64 (1 + t480)))), (by first | rfl | (simp; done) | (simp [*]; done)), H', ⟨by have := HJ15.out; have := HK2.out; have := HK3.out; have := HK4.out; have := HJ69.out; have := HJ78.out; first | omega | exact Nat.le_refl _⟩, ⟨by repeat (first | (with_reducible first | exact HB.out | apply below_alloc | apply pw_below_drewN | apply below_drew1) | exact HB.out)⟩⟩
                                 ·rw [if_neg c103] at H
                                  have c103b0 : ((bt t481 x29_4) == 49) = false := beq_eq_false_iff_ne.mpr c103
                                  have c103b1 : ((bt t481 x29_4) != 49) = true := bne_iff_ne.mpr c103
                                  have H' := Aside0.mk H
                                  clear H
                                  have p85 : 0 ≤ (x29_4 : Int) := of_decide_eq_true (by first | (with_reducible assumption) | assumption)
                                  have q85 : x29_4 < (t481.size : Int) := of_decide_eq_true (by first | (with_reducible assumption) | assumption)
                                  have hx85 := bt_at t481 x29_4
                                  replace p85 := eq_true p85
                                  replace q85 := eq_true q85
                                  have p87 : 0 ≤ (x29_4 : Int) := of_decide_eq_true (by first | (with_reducible assumption) | assumption)
                                  have q87 : x29_4 < (t479.size : Int) := of_decide_eq_true (by first | (with_reducible assumption) | assumption)
                                  have hx87 := bt_at t479 x29_4
                                  replace p87 := eq_true p87
                                  replace q87 := eq_true q87
                                  have p89 : 0 ≤ (x29_4 : Int) := of_decide_eq_true (by first | (with_reducible assumption) | assumption)
                                  have q89 : x29_4 < (t479.size : Int) := of_decide_eq_true (by first | (with_reducible assumption) | assumption)
                                  have hx89 := bt_at t479 x29_4
                                  replace p89 := eq_true p89
                                  replace q89 := eq_true q89
                                  have p92 : 0 ≤ (x29_4 : Int) := of_decide_eq_true (by first | (with_reducible assumption) | assumption)
                                  have q92 : x29_4 < (t483.size : Int) := of_decide_eq_true (by first | (with_reducible assumption) | assumption)
                                  have hx92 := bt_at t483 x29_4
                                  replace p92 := eq_true p92
                                  replace q92 := eq_true q92
                                  have p95 : 0 ≤ (x29_4 : Int) := of_decide_eq_true (by first | (with_reducible assumption) | assumption)
                                  have q95 : x29_4 < (t487.size : Int) := of_decide_eq_true (by first | (with_reducible assumption) | assumption)
                                  have hx95 := bt_at t487 x29_4
                                  replace p95 := eq_true p95
                                  replace q95 := eq_true q95
                                  have p98 : 0 ≤ (x29_4 : Int) := of_decide_eq_true (by first | (with_reducible assumption) | assumption)
                                  have q98 : x29_4 < (t485.size : Int) := of_decide_eq_true (by first | (with_reducible assumption) | assumption)
                                  have hx98 := bt_at t485 x29_4
                                  replace p98 := eq_true p98
                                  replace q98 := eq_true q98
                                  have p100 : 0 ≤ (x29_4 : Int) := of_decide_eq_true (by first | (with_reducible assumption) | assumption)
                                  have q100 : x29_4 < (t479.size : Int) := of_decide_eq_true (by first | (with_reducible assumption) | assumption)
                                  have hx100 := bt_at t479 x29_4
                                  replace p100 := eq_true p100
                                  replace q100 := eq_true q100
                                  have p102 : 0 ≤ (x29_4 : Int) := of_decide_eq_true (by first | (with_reducible assumption) | assumption)
                                  have q102 : x29_4 < (t481.size : Int) := of_decide_eq_true (by first | (with_reducible assumption) | assumption)
                                  have hx102 := bt_at t481 x29_4
                                  replace p102 := eq_true p102
                                  replace q102 := eq_true q102
                                  go_wp2
                                  repeat (go_quiet (fail); try go_wp2)
                                  go_meet
                                  case rel => exact ⟨_, (false), (by first | rfl | (simp; done) | (simp [*]; done)), H', ⟨by have := HJ15.out; have := HK2.out; have := HK3.out; have := HK4.out; have := HJ69.out; have := HJ78.out; first | omega | exact Nat.le_refl _⟩, ⟨by repeat (first | (with_reducible first | exact HB.out | apply below_alloc | apply pw_below_drewN | apply below_drew1) | exact HB.out)⟩⟩
                               ·rw [if_neg c99] at H
                                have c99b0 : ((bt t485 x29_4) == 49) = false := beq_eq_false_iff_ne.mpr c99
                                have c99b1 : ((bt t485 x29_4) != 49) = true := bne_iff_ne.mpr c99
                                by_cases c105 : (bt t481 x29_4) = 49
                                ·rw [if_pos c105] at H
                                 have c105b0 : ((bt t481 x29_4) == 49) = true := beq_iff_eq.mpr c105
                                 have c105b1 : ((bt t481 x29_4) != 49) = false := bne_eq_false_iff_eq.mpr c105
                                 clear c105
                                 have H' := Aside0.mk H
                                 clear H
                                 have p85 : 0 ≤ (x29_4 : Int) := of_decide_eq_true (by first | (with_reducible assumption) | assumption)
                                 have q85 : x29_4 < (t481.size : Int) := of_decide_eq_true (by first | (with_reducible assumption) | assumption)
                                 have hx85 := bt_at t481 x29_4
                                 replace p85 := eq_true p85
                                 replace q85 := eq_true q85
                                 have p87 : 0 ≤ (x29_4 : Int) := of_decide_eq_true (by first | (with_reducible assumption) | assumption)
                                 have q87 : x29_4 < (t479.size : Int) := of_decide_eq_true (by first | (with_reducible assumption) | assumption)
                                 have hx87 := bt_at t479 x29_4
                                 replace p87 := eq_true p87
                                 replace q87 := eq_true q87
                                 have p89 : 0 ≤ (x29_4 : Int) := of_decide_eq_true (by first | (with_reducible assumption) | assumption)
                                 have q89 : x29_4 < (t479.size : Int) := of_decide_eq_true (by first | (with_reducible assumption) | assumption)
                                 have hx89 := bt_at t479 x29_4
                                 replace p89 := eq_true p89
                                 replace q89 := eq_true q89
                                 have p92 : 0 ≤ (x29_4 : Int) := of_decide_eq_true (by first | (with_reducible assumption) | assumption)
                                 have q92 : x29_4 < (t483.size : Int) := of_decide_eq_true (by first | (with_reducible assumption) | assumption)
                                 have hx92 := bt_at t483 x29_4
                                 replace p92 := eq_true p92
                                 replace q92 := eq_true q92
                                 have p95 : 0 ≤ (x29_4 : Int) := of_decide_eq_true (by first | (with_reducible assumption) | assumption)
                                 have q95 : x29_4 < (t487.size : Int) := of_decide_eq_true (by first | (with_reducible assumption) | assumption)
                                 have hx95 := bt_at t487 x29_4
                                 replace p95 := eq_true p95
                                 replace q95 := eq_true q95
                                 have p98 : 0 ≤ (x29_4 : Int) := of_decide_eq_true (by first | (with_reducible assumption) | assumption)
                                 have q98 : x29_4 < (t485.size : Int) := of_decide_eq_true (by first | (with_reducible assumption) | assumption)
                                 have hx98 := bt_at t485 x29_4
                                 replace p98 := eq_true p98
                                 replace q98 := eq_true q98
                                 have p104 : 0 ≤ (x29_4 : Int) := of_decide_eq_true (by first | (with_reducible assumption) | assumption)
                                 have q104 : x29_4 < (t481.size : Int) := of_decide_eq_true (by first | (with_reducible assumption) | assumption)
                                 have hx104 := bt_at t481 x29_4
                                 replace p104 := eq_true p104
                                 replace q104 := eq_true q104
                                 go_wp2
                                 repeat (go_quiet (fail); try go_wp2)
                                 go_meet
                                 case rel => exact ⟨_, (decide ((wrap64 (x29_4 + 1)) < (wrap64 (1 + t480)))), (by first | rfl | (simp; done) | (simp [*]; done)), H', ⟨by have := HJ15.out; have := HK2.out; have := HK3.out; have := HK4.out; have := HJ69.out; have := HJ78.out; first | omega | exact Nat.le_refl _⟩, ⟨by repeat (first | (with_reducible first | exact HB.out | apply below_alloc | apply pw_below_drewN | apply below_drew1) | exact HB.out)⟩⟩
                                ·rw [if_neg c105] at H
                                 have c105b0 : ((bt t481 x29_4) == 49) = false := beq_eq_false_iff_ne.mpr c105
                                 have c105b1 : ((bt t481 x29_4) != 49) = true := bne_iff_ne.mpr c105
                                 have H' := Aside0.mk H
                                 clear H
                                 have p85 : 0 ≤ (x29_4 : Int) := of_decide_eq_true (by first | (with_reducible assumption) | assumption)
                                 have q85 : x29_4 < (t481.size : Int) := of_decide_eq_true (by first | (with_reducible assumption) | assumption)
                                 have hx85 := bt_at t481 x29_4
                                 replace p85 := eq_true p85
                                 replace q85 := eq_true q85
                                 have p87 : 0 ≤ (x29_4 : Int) := of_decide_eq_true (by first | (with_reducible assumption) | assumption)
                                 have q87 : x29_4 < (t479.size : Int) := of_decide_eq_true (by first | (with_reducible assumption) | assumption)
                                 have hx87 := bt_at t479 x29_4
                                 replace p87 := eq_true p87
                                 replace q87 := eq_true q87
                                 have p89 : 0 ≤ (x29_4 : Int) := of_decide_eq_true (by first | (with_reducible assumption) | assumption)
                                 have q89 : x29_4 < (t479.size : Int) := of_decide_eq_true (by first | (with_reducible assumption) | assumption)
                                 have hx89 := bt_at t479 x29_4
                                 replace p89 := eq_true p89
                                 replace q89 := eq_true q89
                                 have p92 : 0 ≤ (x29_4 : Int) := of_decide_eq_true (by first | (with_reducible assumption) | assumption)
                                 have q92 : x29_4 < (t483.size : Int) := of_decide_eq_true (by first | (with_reducible assumption) | assumption)
                                 have hx92 := bt_at t483 x29_4
                                 replace p92 := eq_true p92
                                 replace q92 := eq_true q92
                                 have p95 : 0 ≤ (x29_4 : Int) := of_decide_eq_true (by first | (with_reducible assumption) | assumption)
                                 have q95 : x29_4 < (t487.size : Int) := of_decide_eq_true (by first | (with_reducible assumption) | assumption)
                                 have hx95 := bt_at t487 x29_4
                                 replace p95 := eq_true p95
                                 replace q95 := eq_true q95
                                 have p98 : 0 ≤ (x29_4 : Int) := of_decide_eq_true (by first | (with_reducible assumption) | assumption)
                                 have q98 : x29_4 < (t485.size : Int) := of_decide_eq_true (by first | (with_reducible assumption) | assumption)
                                 have hx98 := bt_at t485 x29_4
                                 replace p98 := eq_true p98
                                 replace q98 := eq_true q98
                                 have p104 : 0 ≤ (x29_4 : Int) := of_decide_eq_true (by first | (with_reducible assumption) | assumption)
                                 have q104 : x29_4 < (t481.size : Int) := of_decide_eq_true (by first | (with_reducible assumption) | assumption)
                                 have hx104 := bt_at t481 x29_4
                                 replace p104 := eq_true p104
                                 replace q104 := eq_true q104
                                 go_wp2
                                 repeat (go_quiet (fail); try go_wp2)
                                 go_meet
                                 case rel => exact ⟨_, (false), (by first | rfl | (simp; done) | (simp [*]; done)), H', ⟨by have := HJ15.out; have := HK2.out; have := HK3.out; have := HK4.out; have := HJ69.out; have := HJ78.out; first | omega | exact Nat.le_refl _⟩, ⟨by repeat (first | (with_reducible first | exact HB.out | apply below_alloc | apply pw_below_drewN | apply below_drew1) | exact HB.out)⟩⟩
                              ·rw [if_neg c97] at H
                               exact absurd H (by simp)
                            ·rw [if_neg c94] at H
                             exact absurd H (by simp)
                          ·rw [if_neg c91] at H
                           exact absurd H (by simp)
                         ·rw [if_neg c90] at H
                          have c90b0 : ((bt t479 x29_4) == 49) = false := beq_eq_false_iff_ne.mpr c90
                          have c90b1 : ((bt t479 x29_4) != 49) = true := bne_iff_ne.mpr c90
                          by_cases c106 : x29_4 < (t485.size : Int)
                          ·rw [if_pos c106] at H
                           have c106b0 : decide (x29_4 < (t485.size : Int)) = true := decide_eq_true c106
                           clear c106
                           by_cases c108 : (bt t485 x29_4) = 49
                           ·rw [if_pos c108] at H
                            have c108b0 : ((bt t485 x29_4) == 49) = true := beq_iff_eq.mpr c108
                            have c108b1 : ((bt t485 x29_4) != 49) = false := bne_eq_false_iff_eq.mpr c108
                            clear c108
                            by_cases c110 : (bt t479 x29_4) = 48
                            ·rw [if_pos c110] at H
                             have c110b0 : ((bt t479 x29_4) == 48) = true := beq_iff_eq.mpr c110
                             have c110b1 : ((bt t479 x29_4) != 48) = false := bne_eq_false_iff_eq.mpr c110
                             clear c110
                             exact absurd HRT.out (by rw [laws_FnFiltered.j6_no _ _ _ _ _ _ _ _ _ _ _ H]; decide)
                            ·rw [if_neg c110] at H
                             have c110b0 : ((bt t479 x29_4) == 48) = false := beq_eq_false_iff_ne.mpr c110
                             have c110b1 : ((bt t479 x29_4) != 48) = true := bne_iff_ne.mpr c110
                             by_cases c112 : (bt t481 x29_4) = 49
                             ·rw [if_pos c112] at H
                              have c112b0 : ((bt t481 x29_4) == 49) = true := beq_iff_eq.mpr c112
                              have c112b1 : ((bt t481 x29_4) != 49) = false := bne_eq_false_iff_eq.mpr c112
                              clear c112
                              have H' := Aside0.mk H
                              clear H
                              have p85 : 0 ≤ (x29_4 : Int) := of_decide_eq_true (by first | (with_reducible assumption) | assumption)
                              have q85 : x29_4 < (t481.size : Int) := of_decide_eq_true (by first | (with_reducible assumption) | assumption)
                              have hx85 := bt_at t481 x29_4
                              replace p85 := eq_true p85
                              replace q85 := eq_true q85
                              have p87 : 0 ≤ (x29_4 : Int) := of_decide_eq_true (by first | (with_reducible assumption) | assumption)
                              have q87 : x29_4 < (t479.size : Int) := of_decide_eq_true (by first | (with_reducible assumption) | assumption)
                              have hx87 := bt_at t479 x29_4
                              replace p87 := eq_true p87
                              replace q87 := eq_true q87
                              have p89 : 0 ≤ (x29_4 : Int) := of_decide_eq_true (by first | (with_reducible assumption) | assumption)
                              have q89 : x29_4 < (t479.size : Int) := of_decide_eq_true (by first | (with_reducible assumption) | assumption)
                              have hx89 := bt_at t479 x29_4
                              replace p89 := eq_true p89
                              replace q89 := eq_true q89
                              have p107 : 0 ≤ (x29_4 : Int) := of_decide_eq_true (by first | (with_reducible assumption) | assumption)
                              have q107 : x29_4 < (t485.size : Int) := of_decide_eq_true (by first | (with_reducible assumption) | assumption)
                              have hx107 := bt_at t485 x29_4
                              replace p107 := eq_true p107
                              replace q107 := eq_true q107
                              have p109 : 0 ≤ (x29_4 : Int) := of_decide_eq_true (by first | (with_reducible assumption) | assumption)
                              have q109 : x29_4 < (t479.size : Int) := of_decide_eq_true (by first | (with_reducible assumption) | assumption)
                              have hx109 := bt_at t479 x29_4
                              replace p109 := eq_true p109
                              replace q109 := eq_true q109
                              have p111 : 0 ≤ (x29_4 : Int) := of_decide_eq_true (by first | (with_reducible assumption) | assumption)
                              have q111 : x29_4 < (t481.size : Int) := of_decide_eq_true (by first | (with_reducible assumption) | assumption)
                              have hx111 := bt_at t481 x29_4
                              replace p111 := eq_true p111
                              replace q111 := eq_true q111
                              go_wp2
                              repeat (go_quiet (fail); try go_wp2)
                              go_meet
                              case rel => exact ⟨_, (decide ((wrap64 (x29_4 + 1)) < (wrap64 (1 + t480)))), (by first | rfl | (simp; done) | (simp [*]; done)), H', ⟨by have := HJ15.out; have := HK2.out; have := HK3.out; have := HK4.out; have := HJ69.out; have := HJ78.out; first | omega | exact Nat.le_refl _⟩, ⟨by repeat (first | (with_reducible first | exact HB.out | apply below_alloc | apply pw_below_drewN | apply below_drew1) | exact HB.out)⟩⟩
                             ·rw [if_neg c112] at H
                              have c112b0 : ((bt t481 x29_4) == 49) = false := beq_eq_false_iff_ne.mpr c112
                              have c112b1 : ((bt t481 x29_4) != 49) = true := bne_iff_ne.mpr c112
                              have H' := Aside0.mk H
                              clear H
                              have p85 : 0 ≤ (x29_4 : Int) := of_decide_eq_true (by first | (with_reducible assumption) | assumption)
                              have q85 : x29_4 < (t481.size : Int) := of_decide_eq_true (by first | (with_reducible assumption) | assumption)
                              have hx85 := bt_at t481 x29_4
                              replace p85 := eq_true p85
                              replace q85 := eq_true q85
                              have p87 : 0 ≤ (x29_4 : Int) := of_decide_eq_true (by first | (with_reducible assumption) | assumption)
                              have q87 : x29_4 < (t479.size : Int) := of_decide_eq_true (by first | (with_reducible assumption) | assumption)
                              have hx87 := bt_at t479 x29_4
                              replace p87 := eq_true p87
                              replace q87 := eq_true q87
                              have p89 : 0 ≤ (x29_4 : Int) := of_decide_eq_true (by first | (with_reducible assumption) | assumption)
                              have q89 : x29_4 < (t479.size : Int) := of_decide_eq_true (by first | (with_reducible assumption) | assumption)
                              have hx89 := bt_at t479 x29_4
                              replace p89 := eq_true p89
                              replace q89 := eq_true q89
                              have p107 : 0 ≤ (x29_4 : Int) := of_decide_eq_true (by first | (with_reducible assumption) | assumption)
                              have q107 : x29_4 < (t485.size : Int) := of_decide_eq_true (by first | (with_reducible assumption) | assumption)
                              have hx107 := bt_at t485 x29_4
                              replace p107 := eq_true p107
                              replace q107 := eq_true q107
                              have p109 : 0 ≤ (x29_4 : Int) := of_decide_eq_true (by first | (with_reducible assumption) | assumption)
                              have q109 : x29_4 < (t479.size : Int) := of_decide_eq_true (by first | (with_reducible assumption) | assumption)
                              have hx109 := bt_at t479 x29_4
                              replace p109 := eq_true p109
                              replace q109 := eq_true q109
                              have p111 : 0 ≤ (x29_4 : Int) := of_decide_eq_true (by first | (with_reducible assumption) | assumption)
                              have q111 : x29_4 < (t481.size : Int) := of_decide_eq_true (by first | (with_reducible assumption) | assumption)
                              have hx111 := bt_at t481 x29_4
                              replace p111 := eq_true p111
                              replace q111 := eq_true q111
                              go_wp2
                              repeat (go_quiet (fail); try go_wp2)
                              go_meet
                              case rel => exact ⟨_, (false), (by first | rfl | (simp; done) | (simp [*]; done)), H', ⟨by have := HJ15.out; have := HK2.out; have := HK3.out; have := HK4.out; have := HJ69.out; have := HJ78.out; first | omega | exact Nat.le_refl _⟩, ⟨by repeat (first | (with_reducible first | exact HB.out | apply below_alloc | apply pw_below_drewN | apply below_drew1) | exact HB.out)⟩⟩
                           ·rw [if_neg c108] at H
                            have c108b0 : ((bt t485 x29_4) == 49) = false := beq_eq_false_iff_ne.mpr c108
                            have c108b1 : ((bt t485 x29_4) != 49) = true := bne_iff_ne.mpr c108
                            by_cases c114 : (bt t481 x29_4) = 49
                            ·rw [if_pos c114] at H
                             have c114b0 : ((bt t481 x29_4) == 49) = true := beq_iff_eq.mpr c114
                             have c114b1 : ((bt t481 x29_4) != 49) = false := bne_eq_false_iff_eq.mpr c114
                             clear c114
                             have H' := Aside0.mk H
                             clear H
                             have p85 : 0 ≤ (x29_4 : Int) := of_decide_eq_true (by first | (with_reducible assumption) | assumption)
                             have q85 : x29_4 < (t481.size : Int) := of_decide_eq_true (by first | (with_reducible assumption) | assumption)
                             have hx85 := bt_at t481 x29_4
                             replace p85 := eq_true p85
                             replace q85 := eq_true q85
                             have p87 : 0 ≤ (x29_4 : Int) := of_decide_eq_true (by first | (with_reducible assumption) | assumption)
                             have q87 : x29_4 < (t479.size : Int) := of_decide_eq_true (by first | (with_reducible assumption) | assumption)
                             have hx87 := bt_at t479 x29_4
                             replace p87 := eq_true p87
                             replace q87 := eq_true q87
                             have p89 : 0 ≤ (x29_4 : Int) := of_decide_eq_true (by first | (with_reducible assumption) | assumption)
                             have q89 : x29_4 < (t479.size : Int) := of_decide_eq_true (by first | (with_reducible assumption) | assumption)
                             have hx89 := bt_at t479 x29_4
                             replace p89 := eq_true p89
                             replace q89 := eq_true q89
                             have p107 : 0 ≤ (x29_4 : Int) := of_decide_eq_true (by first | (with_reducible assumption) | assumption)
                             have q107 : x29_4 < (t485.size : Int) := of_decide_eq_true (by first | (with_reducible assumption) | assumption)
                             have hx107 := bt_at t485 x29_4
                             replace p107 := eq_true p107
                             replace q107 := eq_true q107
                             have p113 : 0 ≤ (x29_4 : Int) := of_decide_eq_true (by first | (with_reducible assumption) | assumption)
                             have q113 : x29_4 < (t481.size : Int) := of_decide_eq_true (by first | (with_reducible assumption) | assumption)
                             have hx113 := bt_at t481 x29_4
                             replace p113 := eq_true p113
                             replace q113 := eq_true q113
                             go_wp2
                             repeat (go_quiet (fail); try go_wp2)
                             go_meet
                             case rel => exact ⟨_, (decide ((wrap64 (x29_4 + 1)) < (wrap64 (1 + t480)))), (by first | rfl | (simp; done) | (simp [*]; done)), H', ⟨by have := HJ15.out; have := HK2.out; have := HK3.out; have := HK4.out; have := HJ69.out; have := HJ78.out; first | omega | exact Nat.le_refl _⟩, ⟨by repeat (first | (with_reducible first | exact HB.out | apply below_alloc | apply pw_below_drewN | apply below_drew1) | exact HB.out)⟩⟩
                            ·rw [if_neg c114] at H
                             have c114b0 : ((bt t481 x29_4) == 49) = false := beq_eq_false_iff_ne.mpr c114
                             have c114b1 : ((bt t481 x29_4) != 49) = true := bne_iff_ne.mpr c114
                             have H' := Aside0.mk H
                             clear H
                             have p85 : 0 ≤ (x29_4 : Int) := of_decide_eq_true (by first | (with_reducible assumption) | assumption)
                             have q85 : x29_4 < (t481.size : Int) := of_decide_eq_true (by first | (with_reducible assumption) | assumption)
                             have hx85 := bt_at t481 x29_4
                             replace p85 := eq_true p85
                             replace q85 := eq_true q85
                             have p87 : 0 ≤ (x29_4 : Int) := of_decide_eq_true (by first | (with_reducible assumption) | assumption)
                             have q87 : x29_4 < (t479.size : Int) := of_decide_eq_true (by first | (with_reducible assumption) | assumption)
                             have hx87 := bt_at t479 x29_4
                             replace p87 := eq_true p87
                             replace q87 := eq_true q87
                             have p89 : 0 ≤ (x29_4 : Int) := of_decide_eq_true (by first | (with_reducible assumption) | assumption)
                             have q89 : x29_4 < (t479.size : Int) := of_decide_eq_true (by first | (with_reducible assumption) | assumption)
                             have hx89 := bt_at t479 x29_4
                             replace p89 := eq_true p89
                             replace q89 := eq_true q89
                             have p107 : 0 ≤ (x29_4 : Int) := of_decide_eq_true (by first | (with_reducible assumption) | assumption)
                             have q107 : x29_4 < (t485.size : Int) := of_decide_eq_true (by first | (with_reducible assumption) | assumption)
                             have hx107 := bt_at t485 x29_4
                             replace p107 := eq_true p107
                             replace q107 := eq_true q107
                             have p113 : 0 ≤ (x29_4 : Int) := of_decide_eq_true (by first | (with_reducible assumption) | assumption)
                             have q113 : x29_4 < (t481.size : Int) := of_decide_eq_true (by first | (with_reducible assumption) | assumption)
                             have hx113 := bt_at t481 x29_4
                             replace p113 := eq_true p113
                             replace q113 := eq_true q113
                             go_wp2
                             repeat (go_quiet (fail); try go_wp2)
                             go_meet
                             case rel => exact ⟨_, (false), (by first | rfl | (simp; done) | (simp [*]; done)), H', ⟨by have := HJ15.out; have := HK2.out; have := HK3.out; have := HK4.out; have := HJ69.out; have := HJ78.out; first | omega | exact Nat.le_refl _⟩, ⟨by repeat (first | (with_reducible first | exact HB.out | apply below_alloc | apply pw_below_drewN | apply below_drew1) | exact HB.out)⟩⟩
                          ·rw [if_neg c106] at H
                           exact absurd H (by simp)
                        ·rw [if_neg c88] at H
                         have c88b0 : ((bt t481 x29_4) == (bt t479 x29_4)) = false := beq_eq_false_iff_ne.mpr c88
                         have c88b1 : ((bt t481 x29_4) != (bt t479 x29_4)) = true := bne_iff_ne.mpr c88
                         exact absurd HRT.out (by rw [laws_FnFiltered.j6_no _ _ _ _ _ _ _ _ _ _ _ H]; decide)
                       ·rw [if_neg c86] at H
                        exact absurd H (by simp)
                      ·rw [if_neg c84] at H
                       exact absurd H (by simp)
                     ·rw [if_neg c83] at H
                      exact absurd H (by simp)
                    ·rw [if_neg c82] at H
                     have c82b0 : decide ((wrap64 (1 + t480)) ≤ (wrap64 (x28_78 + 1))) = false := decide_eq_false c82
                     clear c82
                     (first | rw [c82b0] | (simp only [i64_w, i32_w]; rw [c82b0]) | skip)
                     by_cases c115 : 0 ≤ x29_4
                     ·rw [if_pos c115] at H
                      have c115b0 : decide (0 ≤ x29_4) = true := decide_eq_true c115
                      clear c115
                      by_cases c116 : x29_4 < (t479.size : Int)
                      ·rw [if_pos c116] at H
                       have c116b0 : decide (x29_4 < (t479.size : Int)) = true := decide_eq_true c116
                       clear c116
                       by_cases c118 : (bt t479 x29_4) = 49
                       ·rw [if_pos c118] at H
                        have c118b0 : ((bt t479 x29_4) == 49) = true := beq_iff_eq.mpr c118
                        have c118b1 : ((bt t479 x29_4) != 49) = false := bne_eq_false_iff_eq.mpr c118
                        clear c118
                        by_cases c119 : x29_4 < (t483.size : Int)
                        ·rw [if_pos c119] at H
                         have c119b0 : decide (x29_4 < (t483.size : Int)) = true := decide_eq_true c119
                         clear c119
                         by_cases c121 : (bt t483 x29_4) = 48
                         ·rw [if_pos c121] at H
                          have c121b0 : ((bt t483 x29_4) == 48) = true := beq_iff_eq.mpr c121
                          have c121b1 : ((bt t483 x29_4) != 48) = false := bne_eq_false_iff_eq.mpr c121
                          clear c121
                          exact absurd HRT.out (by rw [laws_FnFiltered.j6_no _ _ _ _ _ _ _ _ _ _ _ H]; decide)
                         ·rw [if_neg c121] at H
                          have c121b0 : ((bt t483 x29_4) == 48) = false := beq_eq_false_iff_ne.mpr c121
                          have c121b1 : ((bt t483 x29_4) != 48) = true := bne_iff_ne.mpr c121
                          by_cases c122 : x29_4 < (t487.size : Int)
                          ·rw [if_pos c122] at H
                           have c122b0 : decide (x29_4 < (t487.size : Int)) = true := decide_eq_true c122
                           clear c122
                           by_cases c124 : (bt t487 x29_4) = 48
                           ·rw [if_pos c124] at H
                            have c124b0 : ((bt t487 x29_4) == 48) = true := beq_iff_eq.mpr c124
                            have c124b1 : ((bt t487 x29_4) != 48) = false := bne_eq_false_iff_eq.mpr c124
                            clear c124
                            exact absurd HRT.out (by rw [laws_FnFiltered.j6_no _ _ _ _ _ _ _ _ _ _ _ H]; decide)
                           ·rw [if_neg c124] at H
                            have c124b0 : ((bt t487 x29_4) == 48) = false := beq_eq_false_iff_ne.mpr c124
                            have c124b1 : ((bt t487 x29_4) != 48) = true := bne_iff_ne.mpr c124
                            by_cases c125 : x29_4 < (t485.size : Int)
                            ·rw [if_pos c125] at H
                             have c125b0 : decide (x29_4 < (t485.size : Int)) = true := decide_eq_true c125
                             clear c125
                             by_cases c127 : (bt t485 x29_4) = 49
                             ·rw [if_pos c127] at H
                              have c127b0 : ((bt t485 x29_4) == 49) = true := beq_iff_eq.mpr c127
                              have c127b1 : ((bt t485 x29_4) != 49) = false := bne_eq_false_iff_eq.mpr c127
                              clear c127
                              by_cases c129 : (bt t479 x29_4) = 48
                              ·rw [if_pos c129] at H
                               have c129b0 : ((bt t479 x29_4) == 48) = true := beq_iff_eq.mpr c129
                               have c129b1 : ((bt t479 x29_4) != 48) = false := bne_eq_false_iff_eq.mpr c129
                               clear c129
                               exact absurd HRT.out (by rw [laws_FnFiltered.j6_no _ _ _ _ _ _ _ _ _ _ _ H]; decide)
                              ·rw [if_neg c129] at H
                               have c129b0 : ((bt t479 x29_4) == 48) = false := beq_eq_false_iff_ne.mpr c129
                               have c129b1 : ((bt t479 x29_4) != 48) = true := bne_iff_ne.mpr c129
                               by_cases c130 : x29_4 < (t481.size : Int)
                               ·rw [if_pos c130] at H
                                have c130b0 : decide (x29_4 < (t481.size : Int)) = true := decide_eq_true c130
                                clear c130
                                by_cases c132 : (bt t481 x29_4) = 49
                                ·rw [if_pos c132] at H
                                 have c132b0 : ((bt t481 x29_4) == 49) = true := beq_iff_eq.mpr c132
                                 have c132b1 : ((bt t481 x29_4) != 49) = false := bne_eq_false_iff_eq.mpr c132
                                 clear c132
                                 have H' := Aside0.mk H
                                 clear H
                                 have p117 : 0 ≤ (x29_4 : Int) := of_decide_eq_true (by first | (with_reducible assumption) | assumption)
                                 have q117 : x29_4 < (t479.size : Int) := of_decide_eq_true (by first | (with_reducible assumption) | assumption)
                                 have hx117 := bt_at t479 x29_4
                                 replace p117 := eq_true p117
                                 replace q117 := eq_true q117
                                 have p120 : 0 ≤ (x29_4 : Int) := of_decide_eq_true (by first | (with_reducible assumption) | assumption)
                                 have q120 : x29_4 < (t483.size : Int) := of_decide_eq_true (by first | (with_reducible assumption) | assumption)
                                 have hx120 := bt_at t483 x29_4
                                 replace p120 := eq_true p120
                                 replace q120 := eq_true q120
                                 have p123 : 0 ≤ (x29_4 : Int) := of_decide_eq_true (by first | (with_reducible assumption) | assumption)
                                 have q123 : x29_4 < (t487.size : Int) := of_decide_eq_true (by first | (with_reducible assumption) | assumption)
                                 have hx123 := bt_at t487 x29_4
                                 replace p123 := eq_true p123
                                 replace q123 := eq_true q123
                                 have p126 : 0 ≤ (x29_4 : Int) := of_decide_eq_true (by first | (with_reducible assumption) | assumption)
                                 have q126 : x29_4 < (t485.size : Int) := of_decide_eq_true (by first | (with_reducible assumption) | assumption)
                                 have hx126 := bt_at t485 x29_4
                                 replace p126 := eq_true p126
                                 replace q126 := eq_true q126
                                 have p128 : 0 ≤ (x29_4 : Int) := of_decide_eq_true (by first | (with_reducible assumption) | assumption)
                                 have q128 : x29_4 < (t479.size : Int) := of_decide_eq_true (by first | (with_reducible assumption) | assumption)
                                 have hx128 := bt_at t479 x29_4
                                 replace p128 := eq_true p128
                                 replace q128 := eq_true q128
                                 have p131 : 0 ≤ (x29_4 : Int) := of_decide_eq_true (by first | (with_reducible assumption) | assumption)
                                 have q131 : x29_4 < (t481.size : Int) := of_decide_eq_true (by first | (with_reducible assumption) | assumption)
                                 have hx131 := bt_at t481 x29_4
                                 replace p131 := eq_true p131
                                 replace q131 := eq_true q131
                                 go_wp2
                                 repeat (go_quiet (fail); try go_wp2)
                                 go_meet
                                 case rel => exact ⟨_, (decide ((wrap64 (x29_4 + 1)) < (wrap64 (1 + t480)))), (by first | rfl | (simp; done) | (simp [*]; done)), H', ⟨by have := HJ15.out; have := HK2.out; have := HK3.out; have := HK4.out; have := HJ69.out; have := HJ78.out; first | omega | exact Nat.le_refl _⟩, ⟨by repeat (first | (with_reducible first | exact HB.out | apply below_alloc | apply pw_below_drewN | apply below_drew1) | exact HB.out)⟩⟩
                                ·rw [if_neg c132] at H
                                 have c132b0 : ((bt t481 x29_4) == 49) = false := beq_eq_false_iff_ne.mpr c132
                                 have c132b1 : ((bt t481 x29_4) != 49) = true := bne_iff_ne.mpr c132
                                 have H' := Aside0.mk H
                                 clear H
                                 have p117 : 0 ≤ (x29_4 : Int) := of_decide_eq_true (by first | (with_reducible assumption) | assumption)
                                 have q117 : x29_4 < (t479.size : Int) := of_decide_eq_true (by first | (with_reducible assumption) | assumption)
                                 have hx117 := bt_at t479 x29_4
                                 replace p117 := eq_true p117
                                 replace q117 := eq_true q117
                                 have p120 : 0 ≤ (x29_4 : Int) := of_decide_eq_true (by first | (with_reducible assumption) | assumption)
                                 have q120 : x29_4 < (t483.size : Int) := of_decide_eq_true (by first | (with_reducible assumption) | assumption)
                                 have hx120 := bt_at t483 x29_4
                                 replace p120 := eq_true p120
                                 replace q120 := eq_true q120
                                 have p123 : 0 ≤ (x29_4 : Int) := of_decide_eq_true (by first | (with_reducible assumption) | assumption)
                                 have q123 : x29_4 < (t487.size : Int) := of_decide_eq_true (by first | (with_reducible assumption) | assumption)
                                 have hx123 := bt_at t487 x29_4
                                 replace p123 := eq_true p123
                                 replace q123 := eq_true q123
                                 have p126 : 0 ≤ (x29_4 : Int) := of_decide_eq_true (by first | (with_reducible assumption) | assumption)
                                 have q126 : x29_4 < (t485.size : Int) := of_decide_eq_true (by first | (with_reducible assumption) | assumption)
                                 have hx126 := bt_at t485 x29_4
                                 replace p126 := eq_true p126
                                 replace q126 := eq_true q126
                                 have p128 : 0 ≤ (x29_4 : Int) := of_decide_eq_true (by first | (with_reducible assumption) | assumption)
                                 have q128 : x29_4 < (t479.size : Int) := of_decide_eq_true (by first | (with_reducible assumption) | assumption)
                                 have hx128 := bt_at t479 x29_4
                                 replace p128 := eq_true p128
                                 replace q128 := eq_true q128
                                 have p131 : 0 ≤ (x29_4 : Int) := of_decide_eq_true (by first | (with_reducible assumption) | assumption)
                                 have q131 : x29_4 < (t481.size : Int) := of_decide_eq_true (by first | (with_reducible assumption) | assumption)
                                 have hx131 := bt_at t481 x29_4
                                 replace p131 := eq_true p131
                                 replace q131 := eq_true q131
                                 go_wp2
                                 repeat (go_quiet (fail); try go_wp2)
                                 go_meet
                                 case rel => exact ⟨_, (false), (by first | rfl | (simp; done) | (simp [*]; done)), H', ⟨by have := HJ15.out; have := HK2.out; have := HK3.out; have := HK4.out; have := HJ69.out; have := HJ78.out; first | omega | exact Nat.le_refl _⟩, ⟨by repeat (first | (with_reducible first | exact HB.out | apply below_alloc | apply pw_below_drewN | apply below_drew1) | exact HB.out)⟩⟩
                               ·rw [if_neg c130] at H
                                exact absurd H (by simp)
                             ·rw [if_neg c127] at H
                              have c127b0 : ((bt t485 x29_4) == 49) = false := beq_eq_false_iff_ne.mpr c127
                              have c127b1 : ((bt t485 x29_4) != 49) = true := bne_iff_ne.mpr c127
                              by_cases c133 : x29_4 < (t481.size : Int)
                              ·rw [if_pos c133] at H
                               have c133b0 : decide (x29_4 < (t481.size : Int)) = true := decide_eq_true c133
                               clear c133
                               by_cases c135 : (bt t481 x29_4) = 49
                               ·rw [if_pos c135] at H
                                have c135b0 : ((bt t481 x29_4) == 49) = true := beq_iff_eq.mpr c135
                                have c135b1 : ((bt t481 x29_4) != 49) = false := bne_eq_false_iff_eq.mpr c135
                                clear c135
                                have H' := Aside0.mk H
                                clear H
                                have p117 : 0 ≤ (x29_4 : Int) := of_decide_eq_true (by first | (with_reducible assumption) | assumption)
                                have q117 : x29_4 < (t479.size : Int) := of_decide_eq_true (by first | (with_reducible assumption) | assumption)
                                have hx117 := bt_at t479 x29_4
                                replace p117 := eq_true p117
                                replace q117 := eq_true q117
                                have p120 : 0 ≤ (x29_4 : Int) := of_decide_eq_true (by first | (with_reducible assumption) | assumption)
                                have q120 : x29_4 < (t483.size : Int) := of_decide_eq_true (by first | (with_reducible assumption) | assumption)
                                have hx120 := bt_at t483 x29_4
                                replace p120 := eq_true p120
                                replace q120 := eq_true q120
                                have p123 : 0 ≤ (x29_4 : Int) := of_decide_eq_true (by first | (with_reducible assumption) | assumption)
                                have q123 : x29_4 < (t487.size : Int) := of_decide_eq_true (by first | (with_reducible assumption) | assumption)
                                have hx123 := bt_at t487 x29_4
                                replace p123 := eq_true p123
                                replace q123 := eq_true q123
                                have p126 : 0 ≤ (x29_4 : Int) := of_decide_eq_true (by first | (with_reducible assumption) | assumption)
                                have q126 : x29_4 < (t485.size : Int) := of_decide_eq_true (by first | (with_reducible assumption) | assumption)
                                have hx126 := bt_at t485 x29_4
                                replace p126 := eq_true p126
                                replace q126 := eq_true q126
                                have p134 : 0 ≤ (x29_4 : Int) := of_decide_eq_true (by first | (with_reducible assumption) | assumption)
                                have q134 : x29_4 < (t481.size : Int) := of_decide_eq_true (by first | (with_reducible assumption) | assumption)
                                have hx134 := bt_at t481 x29_4
                                replace p134 := eq_true p134
                                replace q134 := eq_true q134
                                go_wp2
                                repeat (go_quiet (fail); try go_wp2)
                                go_meet
                                case rel => exact ⟨_, (decide ((wrap64 (x29_4 + 1)) < (wrap64 (1 + t480)))), (by first | rfl | (simp; done) | (simp [*]; done)), H', ⟨by have := HJ15.out; have := HK2.out; have := HK3.out; have := HK4.out; have := HJ69.out; have := HJ78.out; first | omega | exact Nat.le_refl _⟩, ⟨by repeat (first | (with_reducible first | exact HB.out | apply below_alloc | apply pw_below_drewN | apply below_drew1) | exact HB.out)⟩⟩
                               ·rw [if_neg c135] at H
                                have c135b0 : ((bt t481 x29_4) == 49) = false := beq_eq_false_iff_ne.mpr c135
                                have c135b1 : ((bt t481 x29_4) != 49) = true := bne_iff_ne.mpr c135
                                have H' := Aside0.mk H
                                clear H
                                have p117 : 0 ≤ (x29_4 : Int) := of_decide_eq_true (by first | (with_reducible assumption) | assumption)
                                have q117 : x29_4 < (t479.size : Int) := of_decide_eq_true (by first | (with_reducible assumption) | assumption)
                                have hx117 := bt_at t479 x29_4
                                replace p117 := eq_true p117
                                replace q117 := eq_true q117
                                have p120 : 0 ≤ (x29_4 : Int) := of_decide_eq_true (by first | (with_reducible assumption) | assumption)
                                have q120 : x29_4 < (t483.size : Int) := of_decide_eq_true (by first | (with_reducible assumption) | assumption)
                                have hx120 := bt_at t483 x29_4
                                replace p120 := eq_true p120
                                replace q120 := eq_true q120
                                have p123 : 0 ≤ (x29_4 : Int) := of_decide_eq_true (by first | (with_reducible assumption) | assumption)
                                have q123 : x29_4 < (t487.size : Int) := of_decide_eq_true (by first | (with_reducible assumption) | assumption)
                                have hx123 := bt_at t487 x29_4
                                replace p123 := eq_true p123
                                replace q123 := eq_true q123
                                have p126 : 0 ≤ (x29_4 : Int) := of_decide_eq_true (by first | (with_reducible assumption) | assumption)
                                have q126 : x29_4 < (t485.size : Int) := of_decide_eq_true (by first | (with_reducible assumption) | assumption)
                                have hx126 := bt_at t485 x29_4
                                replace p126 := eq_true p126
                                replace q126 := eq_true q126
                                have p134 : 0 ≤ (x29_4 : Int) := of_decide_eq_true (by first | (with_reducible assumption) | assumption)
                                have q134 : x29_4 < (t481.size : Int) := of_decide_eq_true (by first | (with_reducible assumption) | assumption)
                                have hx134 := bt_at t481 x29_4
                                replace p134 := eq_true p134
                                replace q134 := eq_true q134
                                go_wp2
                                repeat (go_quiet (fail); try go_wp2)
                                go_meet
                                case rel => exact ⟨_, (false), (by first | rfl | (simp; done) | (simp [*]; done)), H', ⟨by have := HJ15.out; have := HK2.out; have := HK3.out; have := HK4.out; have := HJ69.out; have := HJ78.out; first | omega | exact Nat.le_refl _⟩, ⟨by repeat (first | (with_reducible first | exact HB.out | apply below_alloc | apply pw_below_drewN | apply below_drew1) | exact HB.out)⟩⟩
                              ·rw [if_neg c133] at H
                               exact absurd H (by simp)
                            ·rw [if_neg c125] at H
                             exact absurd H (by simp)
                          ·rw [if_neg c122] at H
                           exact absurd H (by simp)
                        ·rw [if_neg c119] at H
                         exact absurd H (by simp)
                       ·rw [if_neg c118] at H
                        have c118b0 : ((bt t479 x29_4) == 49) = false := beq_eq_false_iff_ne.mpr c118
                        have c118b1 : ((bt t479 x29_4) != 49) = true := bne_iff_ne.mpr c118
                        by_cases c136 : x29_4 < (t485.size : Int)
                        ·rw [if_pos c136] at H
                         have c136b0 : decide (x29_4 < (t485.size : Int)) = true := decide_eq_true c136
                         clear c136
                         by_cases c138 : (bt t485 x29_4) = 49
                         ·rw [if_pos c138] at H
                          have c138b0 : ((bt t485 x29_4) == 49) = true := beq_iff_eq.mpr c138
                          have c138b1 : ((bt t485 x29_4) != 49) = false := bne_eq_false_iff_eq.mpr c138
                          clear c138
                          by_cases c140 : (bt t479 x29_4) = 48
                          ·rw [if_pos c140] at H
                           have c140b0 : ((bt t479 x29_4) == 48) = true := beq_iff_eq.mpr c140
                           have c140b1 : ((bt t479 x29_4) != 48) = false := bne_eq_false_iff_eq.mpr c140
                           clear c140
                           exact absurd HRT.out (by rw [laws_FnFiltered.j6_no _ _ _ _ _ _ _ _ _ _ _ H]; decide)
                          ·rw [if_neg c140] at H
                           have c140b0 : ((bt t479 x29_4) == 48) = false := beq_eq_false_iff_ne.mpr c140
                           have c140b1 : ((bt t479 x29_4) != 48) = true := bne_iff_ne.mpr c140
                           by_cases c141 : x29_4 < (t481.size : Int)
                           ·rw [if_pos c141] at H
                            have c141b0 : decide (x29_4 < (t481.size : Int)) = true := decide_eq_true c141
                            clear c141
                            by_cases c143 : (bt t481 x29_4) = 49
                            ·rw [if_pos c143] at H
                             have c143b0 : ((bt t481 x29_4) == 49) = true := beq_iff_eq.mpr c143
                             have c143b1 : ((bt t481 x29_4) != 49) = false := bne_eq_false_iff_eq.mpr c143
                             clear c143
                             have H' := Aside0.mk H
                             clear H
                             have p117 : 0 ≤ (x29_4 : Int) := of_decide_eq_true (by first | (with_reducible assumption) | assumption)
                             have q117 : x29_4 < (t479.size : Int) := of_decide_eq_true (by first | (with_reducible assumption) | assumption)
                             have hx117 := bt_at t479 x29_4
                             replace p117 := eq_true p117
                             replace q117 := eq_true q117
                             have p137 : 0 ≤ (x29_4 : Int) := of_decide_eq_true (by first | (with_reducible assumption) | assumption)
                             have q137 : x29_4 < (t485.size : Int) := of_decide_eq_true (by first | (with_reducible assumption) | assumption)
                             have hx137 := bt_at t485 x29_4
                             replace p137 := eq_true p137
                             replace q137 := eq_true q137
                             have p139 : 0 ≤ (x29_4 : Int) := of_decide_eq_true (by first | (with_reducible assumption) | assumption)
                             have q139 : x29_4 < (t479.size : Int) := of_decide_eq_true (by first | (with_reducible assumption) | assumption)
                             have hx139 := bt_at t479 x29_4
                             replace p139 := eq_true p139
                             replace q139 := eq_true q139
                             have p142 : 0 ≤ (x29_4 : Int) := of_decide_eq_true (by first | (with_reducible assumption) | assumption)
                             have q142 : x29_4 < (t481.size : Int) := of_decide_eq_true (by first | (with_reducible assumption) | assumption)
                             have hx142 := bt_at t481 x29_4
                             replace p142 := eq_true p142
                             replace q142 := eq_true q142
                             go_wp2
                             repeat (go_quiet (fail); try go_wp2)
                             go_meet
                             case rel => exact ⟨_, (decide ((wrap64 (x29_4 + 1)) < (wrap64 (1 + t480)))), (by first | rfl | (simp; done) | (simp [*]; done)), H', ⟨by have := HJ15.out; have := HK2.out; have := HK3.out; have := HK4.out; have := HJ69.out; have := HJ78.out; first | omega | exact Nat.le_refl _⟩, ⟨by repeat (first | (with_reducible first | exact HB.out | apply below_alloc | apply pw_below_drewN | apply below_drew1) | exact HB.out)⟩⟩
                            ·rw [if_neg c143] at H
                             have c143b0 : ((bt t481 x29_4) == 49) = false := beq_eq_false_iff_ne.mpr c143
                             have c143b1 : ((bt t481 x29_4) != 49) = true := bne_iff_ne.mpr c143
                             have H' := Aside0.mk H
                             clear H
                             have p117 : 0 ≤ (x29_4 : Int) := of_decide_eq_true (by first | (with_reducible assumption) | assumption)
                             have q117 : x29_4 < (t479.size : Int) := of_decide_eq_true (by first | (with_reducible assumption) | assumption)
                             have hx117 := bt_at t479 x29_4
                             replace p117 := eq_true p117
                             replace q117 := eq_true q117
                             have p137 : 0 ≤ (x29_4 : Int) := of_decide_eq_true (by first | (with_reducible assumption) | assumption)
                             have q137 : x29_4 < (t485.size : Int) := of_decide_eq_true (by first | (with_reducible assumption) | assumption)
                             have hx137 := bt_at t485 x29_4
                             replace p137 := eq_true p137
                             replace q137 := eq_true q137
                             have p139 : 0 ≤ (x29_4 : Int) := of_decide_eq_true (by first | (with_reducible assumption) | assumption)
                             have q139 : x29_4 < (t479.size : Int) := of_decide_eq_true (by first | (with_reducible assumption) | assumption)
                             have hx139 := bt_at t479 x29_4
                             replace p139 := eq_true p139
                             replace q139 := eq_true q139
                             have p142 : 0 ≤ (x29_4 : Int) := of_decide_eq_true (by first | (with_reducible assumption) | assumption)
                             have q142 : x29_4 < (t481.size : Int) := of_decide_eq_true (by first | (with_reducible assumption) | assumption)
                             have hx142 := bt_at t481 x29_4
                             replace p142 := eq_true p142
                             replace q142 := eq_true q142
                             go_wp2
                             repeat (go_quiet (fail); try go_wp2)
                             go_meet
                             case rel => exact ⟨_, (false), (by first | rfl | (simp; done) | (simp [*]; done)), H', ⟨by have := HJ15.out; have := HK2.out; have := HK3.out; have := HK4.out; have := HJ69.out; have := HJ78.out; first | omega | exact Nat.le_refl _⟩, ⟨by repeat (first | (with_reducible first | exact HB.out | apply below_alloc | apply pw_below_drewN | apply below_drew1) | exact HB.out)⟩⟩
                           ·rw [if_neg c141] at H
                            exact absurd H (by simp)
                         ·rw [if_neg c138] at H
                          have c138b0 : ((bt t485 x29_4) == 49) = false := beq_eq_false_iff_ne.mpr c138
                          have c138b1 : ((bt t485 x29_4) != 49) = true := bne_iff_ne.mpr c138
                          by_cases c144 : x29_4 < (t481.size : Int)
                          ·rw [if_pos c144] at H
                           have c144b0 : decide (x29_4 < (t481.size : Int)) = true := decide_eq_true c144
                           clear c144
                           by_cases c146 : (bt t481 x29_4) = 49
                           ·rw [if_pos c146] at H
                            have c146b0 : ((bt t481 x29_4) == 49) = true := beq_iff_eq.mpr c146
                            have c146b1 : ((bt t481 x29_4) != 49) = false := bne_eq_false_iff_eq.mpr c146
                            clear c146
                            have H' := Aside0.mk H
                            clear H
                            have p117 : 0 ≤ (x29_4 : Int) := of_decide_eq_true (by first | (with_reducible assumption) | assumption)
                            have q117 : x29_4 < (t479.size : Int) := of_decide_eq_true (by first | (with_reducible assumption) | assumption)
                            have hx117 := bt_at t479 x29_4
                            replace p117 := eq_true p117
                            replace q117 := eq_true q117
                            have p137 : 0 ≤ (x29_4 : Int) := of_decide_eq_true (by first | (with_reducible assumption) | assumption)
                            have q137 : x29_4 < (t485.size : Int) := of_decide_eq_true (by first | (with_reducible assumption) | assumption)
                            have hx137 := bt_at t485 x29_4
                            replace p137 := eq_true p137
                            replace q137 := eq_true q137
                            have p145 : 0 ≤ (x29_4 : Int) := of_decide_eq_true (by first | (with_reducible assumption) | assumption)
                            have q145 : x29_4 < (t481.size : Int) := of_decide_eq_true (by first | (with_reducible assumption) | assumption)
                            have hx145 := bt_at t481 x29_4
                            replace p145 := eq_true p145
                            replace q145 := eq_true q145
                            go_wp2
                            repeat (go_quiet (fail); try go_wp2)
                            go_meet
                            case rel => exact ⟨_, (decide ((wrap64 (x29_4 + 1)) < (wrap64 (1 + t480)))), (by first | rfl | (simp; done) | (simp [*]; done)), H', ⟨by have := HJ15.out; have := HK2.out; have := HK3.out; have := HK4.out; have := HJ69.out; have := HJ78.out; first | omega | exact Nat.le_refl _⟩, ⟨by repeat (first | (with_reducible first | exact HB.out | apply below_alloc | apply pw_below_drewN | apply below_drew1) | exact HB.out)⟩⟩
                           ·rw [if_neg c146] at H
                            have c146b0 : ((bt t481 x29_4) == 49) = false := beq_eq_false_iff_ne.mpr c146
                            have c146b1 : ((bt t481 x29_4) != 49) = true := bne_iff_ne.mpr c146
                            have H' := Aside0.mk H
                            clear H
                            have p117 : 0 ≤ (x29_4 : Int) := of_decide_eq_true (by first | (with_reducible assumption) | assumption)
                            have q117 : x29_4 < (t479.size : Int) := of_decide_eq_true (by first | (with_reducible assumption) | assumption)
                            have hx117 := bt_at t479 x29_4
                            replace p117 := eq_true p117
                            replace q117 := eq_true q117
                            have p137 : 0 ≤ (x29_4 : Int) := of_decide_eq_true (by first | (with_reducible assumption) | assumption)
                            have q137 : x29_4 < (t485.size : Int) := of_decide_eq_true (by first | (with_reducible assumption) | assumption)
                            have hx137 := bt_at t485 x29_4
                            replace p137 := eq_true p137
                            replace q137 := eq_true q137
                            have p145 : 0 ≤ (x29_4 : Int) := of_decide_eq_true (by first | (with_reducible assumption) | assumption)
                            have q145 : x29_4 < (t481.size : Int) := of_decide_eq_true (by first | (with_reducible assumption) | assumption)
                            have hx145 := bt_at t481 x29_4
                            replace p145 := eq_true p145
                            replace q145 := eq_true q145
                            go_wp2
                            repeat (go_quiet (fail); try go_wp2)
                            go_meet
                            case rel => exact ⟨_, (false), (by first | rfl | (simp; done) | (simp [*]; done)), H', ⟨by have := HJ15.out; have := HK2.out; have := HK3.out; have := HK4.out; have := HJ69.out; have := HJ78.out; first | omega | exact Nat.le_refl _⟩, ⟨by repeat (first | (with_reducible first | exact HB.out | apply below_alloc | apply pw_below_drewN | apply below_drew1) | exact HB.out)⟩⟩
                          ·rw [if_neg c144] at H
                           exact absurd H (by simp)
                        ·rw [if_neg c136] at H
                         exact absurd H (by simp)
                      ·rw [if_neg c116] at H
                       exact absurd H (by simp)
                     ·rw [if_neg c115] at H
                      exact absurd H (by simp)
                   case rest => as_aux_lemma =>
                    clear HC81
                    try clear c1
                    try clear p1
                    try clear q1
                    try clear hx1
                    try clear p2
                    try clear p6
                    try clear c8
                    try clear p8
                    try clear q8
                    try clear hx8
                    try clear c10
                    try clear p10
                    try clear q10
                    try clear hx10
                    try clear c11
                    try clear p11
                    try clear q11
                    try clear hx11
                    try clear c12
                    try clear p12
                    try clear q12
                    try clear hx12
                    try clear c13
                    try clear p13
                    try clear q13
                    try clear hx13
                    try clear c14
                    try clear p14
                    try clear q14
                    try clear hx14
                    try clear p64
                    try clear c82
                    try clear c82b0
                    try clear c83
                    try clear c84
                    try clear p85
                    try clear q85
                    try clear hx85
                    try clear c86
                    try clear p87
                    try clear q87
                    try clear hx87
                    try clear c88
                    try clear c88b0
                    try clear c88b1
                    try clear p89
                    try clear q89
                    try clear hx89
                    try clear c106
                    try clear p107
                    try clear q107
                    try clear hx107
                    try clear c108
                    try clear c108b0
                    try clear c108b1
                    try clear p109
                    try clear q109
                    try clear hx109
                    try clear p111
                    try clear q111
                    try clear hx111
                    try clear p113
                    try clear q113
                    try clear hx113
                    try clear c114
                    try clear c114b0
                    try clear c114b1
                    try clear c115
                    try clear c115b0
                    try clear c116
                    try clear c116b0
                    try clear p117
                    try clear q117
                    try clear hx117
                    try clear c118
                    try clear c118b0
                    try clear c118b1
                    try clear c119
                    try clear c119b0
                    try clear p120
                    try clear q120
                    try clear hx120
                    try clear c121
                    try clear c121b0
                    try clear c121b1
                    try clear c122
                    try clear c122b0
                    try clear p123
                    try clear q123
                    try clear hx123
                    try clear c124
                    try clear c124b0
                    try clear c124b1
                    try clear c125
                    try clear c125b0
                    try clear p126
                    try clear q126
                    try clear hx126
                    try clear c127
                    try clear c127b0
                    try clear c127b1
                    try clear p128
                    try clear q128
                    try clear hx128
                    try clear c129
                    try clear c129b0
                    try clear c129b1
                    try clear c130
                    try clear c130b0
                    try clear p131
                    try clear q131
                    try clear hx131
                    try clear c132
                    try clear c132b0
                    try clear c132b1
                    try clear c133
                    try clear c133b0
                    try clear p134
                    try clear q134
                    try clear hx134
                    try clear c135
                    try clear c135b0
                    try clear c135b1
                    try clear c136
                    try clear c136b0
                    try clear p137
                    try clear q137
                    try clear hx137
                    try clear c138
                    try clear c138b0
                    try clear c138b1
                    try clear p139
                    try clear q139
                    try clear hx139
                    try clear c140
                    try clear c140b0
                    try clear c140b1
                    try clear c141
                    try clear c141b0
                    try clear p142
                    try clear q142
                    try clear hx142
                    try clear c143
                    try clear c143b0
                    try clear c143b1
                    try clear c144
                    try clear c144b0
                    try clear p145
                    try clear q145
                    try clear hx145
                    try clear c146
                    try clear c146b0
                    try clear c146b1
                    try clear p107
                    try clear p109
                    try clear p111
                    try clear p113
                    try clear p117
                    try clear p120
                    try clear p123
                    try clear p126
                    try clear p128
                    try clear p131
                    try clear p134
                    try clear p137
                    try clear p139
                    try clear p142
                    try clear p145
                    try clear p85
                    try clear p87
                    try clear p89
                    try clear q107
                    try clear q109
                    try clear q111
                    try clear q113
                    try clear q117
                    try clear q120
                    try clear q123
                    try clear q126
                    try clear q128
                    try clear q131
                    try clear q134
                    try clear q137
                    try clear q139
                    try clear q142
                    try clear q145
                    try clear q85
                    try clear q87
                    try clear q89
                    obtain ⟨kq, x263_80, rfl, HA, HJ80, HB⟩ := hcut
                    cases kq with
                    | zero => exact absurd HA.out (by simp [laws_FnFiltered.j6])
                    | succ kj80 =>
                     have H := HA.out
                     clear HA
                     simp only [laws_FnFiltered.j6] at H
                     by_cases c147 : x263_80 = true
                     ·subst c147
                      have H1 : (some false) = some r := by rw [if_pos rfl] at H; exact H
                      clear H
                      have H := H1
                      clear H1
                      exact absurd (Option.some.inj (H.trans (congrArg some HRT.out))) (by decide)
                     ·replace c147 := Bool.eq_false_iff.mpr c147
                      subst c147
                      have H1 : (laws_FnFiltered.l2 kj80 t479 (t479.size : Int) (wrap64 (1 + t480)) t481 t483 t485 t487 (wrap64 (x28_78 + 1)) (wrap64 (x29_4 + 1))) = some r := by rw [if_neg (show ¬ (false = true) by decide)] at H; exact H
                      clear H
                      have H := H1
                      clear H1
                      have H' := Aside0.mk H
                      clear H
                      go_wp2
                      repeat (go_quiet (fail); try go_wp2)
                      go_roundg kj80
                      case measure => have := HJ15.out; have := HK2.out; have := HK3.out; have := HK4.out; have := HJ69.out; have := HJ78.out; have := HJ80.out; omega
                      case rel => exact ⟨((wrap64 (x28_78 + 1))), (wrap64 (x29_4 + 1)), (by first | rfl | (simp; done) | (simp [*]; done)), (by first | rfl | (simp; done) | (simp [*]; done)), H', ⟨by have := HJ15.out; have := HK2.out; have := HK3.out; have := HK4.out; have := HJ69.out; have := HJ78.out; have := HJ80.out; omega⟩, ⟨by repeat (first | (with_reducible first | exact HB.out | apply below_alloc | apply pw_below_drewN | apply below_drew1) | exact HB.out)⟩⟩
              ·rw [if_neg c69] at H
               have c69b0 : decide (x29_4 < (t479.size : Int)) = false := decide_eq_false c69
               clear c69
               obtain rfl := Option.some.inj H
               go_wp2
               repeat (go_quiet (fail); try go_wp2)
               go_ret
               exact ⟨by first | rfl | (simp [errW_none, errW_some] <;> rfl) | (simp [*, errW_none, errW_some] <;> rfl), by repeat (first | (with_reducible first | exact HB.out | apply below_alloc | apply pw_below_drewN | apply below_drew1) | exact HB.out)⟩
        ·replace c60 := Bool.eq_false_iff.mpr c60
         subst c60
         have H1 : (some false) = some r := by rw [if_neg (show ¬ (false = true) by decide)] at H; exact H
         clear H
         have H := H1
         clear H1
         exact absurd (Option.some.inj (H.trans (congrArg some HRT.out))) (by decide)
def laws_FnFiltered.Pure : Prop := ∀ (l0 : List Int) (l1 : List Int), l0.length ≤ maxLen → l0.length * 1 ≤ 140737488351232 → (∀ x ∈ l0, (Lit.int .u8 x).wf = true) → l1.length ≤ maxLen → l1.length * 1 ≤ 140737488351232 → (∀ x ∈ l1, (Lit.int .u8 x).wf = true) → ∃ k, laws_FnFiltered.f k l0 l1 = some true
theorem laws_FnFiltered.walk (P : laws_FnFiltered.Pure) (a0 : Option Addr) (len0 cap0 : Nat) (z0 : List Int) (a1 : Option Addr) (len1 cap1 : Nat) (z1 : List Int) (w : World) (w0 : (a0 = none ∧ len0 = 0 ∧ cap0 = 0 ∧ z0 = []) ∨ ∃ x, a0 = some x ∧ len0 ≤ cap0 ∧ cap0 ≤ maxLen ∧ z0.length = cap0 ∧ (∀ i, i < z0.length → w.cell? (x.add i) = some (.int .u8 (z0.getD i 0))) ∧ ∀ n ∈ z0, (Lit.int .u8 n).wf = true) (y0 : len0 * 1 ≤ 140737488351232) (w1 : (a1 = none ∧ len1 = 0 ∧ cap1 = 0 ∧ z1 = []) ∨ ∃ x, a1 = some x ∧ len1 ≤ cap1 ∧ cap1 ≤ maxLen ∧ z1.length = cap1 ∧ (∀ i, i < z1.length → w.cell? (x.add i) = some (.int .u8 (z1.getD i 0))) ∧ ∀ n ∈ z1, (Lit.int .u8 n).wf = true) (y1 : len1 * 1 ≤ 140737488351232) :
  Calls Tryd.prog 10 #[.slice a0 len0 cap0, .slice a1 len1 cap1] w fun e w' => e = .returned (.bool true) ∧ Below w.heap.size w w' := by
 obtain ⟨l0, rfl, hr0, hm0, hw0, hc0⟩ := ReadsInt.ofRowC w0
 obtain ⟨l1, rfl, hr1, hm1, hw1, hc1⟩ := ReadsInt.ofRowC w1
 obtain ⟨k, h⟩ := P l0 l1 hm0 y0 hw0 hm1 y1 hw1
 refine (laws_FnFiltered.calls k _ _ l0 _ _ l1 true w (Kd.C_of_reads (d := (0 : Int)) (h1 := fun _ => rfl) hr0) hc0 (Kd.C_of_reads (d := (0 : Int)) (h1 := fun _ => rfl) hr1) hc1 h rfl).mono ?_
 rintro e w' ⟨rfl, hd⟩
 exact ⟨rfl, hd⟩
end Go.Proofs.YthkpnbelbaljdaaDoor.X
end
