/- My own texts of this seat, merged: Xp10. Conditions: as each lemma says. -/
import Derived.Test.YtcpfkfaiakpfjaaDoorG0
import Derived.Test.YtcpfkfaiakpfjaaDoorG1
import Derived.Test.YtcpfkfaiakpfjaaDoorG7
import Derived.Test.YtcpfkfaiakpfjaaDoorG5
-- Written by a program of this session out of the kit's print of the loaded functions: a plain function of a Go function, and its contract.
namespace Go.Proofs.YtcpfkfaiakpfjaaDoor.X
open Go.RowKit Go.Proofs.YtcpfkfaiakpfjaaDoorW.PrintWords Go.Proofs.YtcpfkfaiakpfjaaDoorW.PrintLast Go.Proofs.YtcpfkfaiakpfjaaDoorW.PrintMore
attribute [local go_sem] max2_int min2_int max_two min_two max_three min_three max_four min_four   -- for this text's walks alone
set_option linter.unusedVariables false
set_option linter.unusedSimpArgs false

/-! ### laws_FnShots: function 10 -/
mutual
def laws_FnShots.j0 : Nat → ByteArray → Int → Int → ByteArray → ByteArray → List Int → Bool → Option (Bool)
  | 0, _, _, _, _, _, _, _ => none
  | k + 1, x5, x6, x7, x8, x10, x12, x70 => if x70 = true then (some false) else (laws_FnShots.l0 k x5 x6 x7 x8 x10 x12 0 0 0 0)
def laws_FnShots.l0 : Nat → ByteArray → Int → Int → ByteArray → ByteArray → List Int → Int → Int → Int → Int → Option (Bool)
  | 0, _, _, _, _, _, _, _, _, _, _ => none
  | k + 1, x5, x6, x7, x8, x10, x12, x14, x15, x16, x17 => if x17 < x6 then (if 0 ≤ x17 then (if x17 < (x5.size : Int) then (if (bt x5 x17) = 49 then (if x17 = 0 then (laws_FnShots.j2 k x5 x6 x7 x8 x10 x12 x14 x15 x16 x17 true) else (if 0 ≤ (wrap64 (x17 - 1)) then (if (wrap64 (x17 - 1)) < (x5.size : Int) then (laws_FnShots.j2 k x5 x6 x7 x8 x10 x12 x14 x15 x16 x17 ((bt x5 (wrap64 (x17 - 1))) == 48)) else (none)) else (none))) else (laws_FnShots.j2 k x5 x6 x7 x8 x10 x12 x14 x15 x16 x17 false)) else (none)) else (none)) else (some (x16 == (x12.length : Int)))
def laws_FnShots.j2 : Nat → ByteArray → Int → Int → ByteArray → ByteArray → List Int → Int → Int → Int → Int → Bool → Option (Bool)
  | 0, _, _, _, _, _, _, _, _, _, _, _ => none
  | k + 1, x5, x6, x7, x8, x10, x12, x14, x15, x16, x17, x18 => laws_FnShots.l1 k x5 x6 x7 x8 x10 x12 x14 x15 x16 x17 x18 false 0
def laws_FnShots.j4 : Nat → ByteArray → Int → Int → ByteArray → ByteArray → List Int → Int → Int → Int → Int → Bool → Bool → Option (Bool)
  | 0, _, _, _, _, _, _, _, _, _, _, _, _ => none
  | k + 1, x5, x6, x7, x8, x10, x12, x14, x15, x16, x17, x18, x19 => if x18 = true then (laws_FnShots.j5 k x5 x6 x7 x8 x10 x12 x14 x15 x16 x17 x18 x19 (x14 == 0)) else (laws_FnShots.j5 k x5 x6 x7 x8 x10 x12 x14 x15 x16 x17 x18 x19 false)
def laws_FnShots.j5 : Nat → ByteArray → Int → Int → ByteArray → ByteArray → List Int → Int → Int → Int → Int → Bool → Bool → Bool → Option (Bool)
  | 0, _, _, _, _, _, _, _, _, _, _, _, _, _ => none
  | k + 1, x5, x6, x7, x8, x10, x12, x14, x15, x16, x17, x18, x19, x128 => if x128 = true then (laws_FnShots.j6 k x5 x6 x7 x8 x10 x12 x7 x15 x16 x17 x18 x19) else (laws_FnShots.j6 k x5 x6 x7 x8 x10 x12 x14 x15 x16 x17 x18 x19)
def laws_FnShots.j6 : Nat → ByteArray → Int → Int → ByteArray → ByteArray → List Int → Int → Int → Int → Int → Bool → Bool → Option (Bool)
  | 0, _, _, _, _, _, _, _, _, _, _, _, _ => none
  | k + 1, x5, x6, x7, x8, x10, x12, x14, x15, x16, x17, x18, x19 => if 0 ≤ x17 then (if x17 < (x8.size : Int) then (if (((bt x8 x17) == 49) != (decide (x14 > 0))) = true then (laws_FnShots.j7 k x5 x6 x7 x8 x10 x12 x14 x15 x16 x17 x18 true) else (if x17 < (x10.size : Int) then (laws_FnShots.j7 k x5 x6 x7 x8 x10 x12 x14 x15 x16 x17 x18 (((bt x10 x17) == 49) != x19)) else (none))) else (none)) else (none)
def laws_FnShots.j7 : Nat → ByteArray → Int → Int → ByteArray → ByteArray → List Int → Int → Int → Int → Int → Bool → Bool → Option (Bool)
  | 0, _, _, _, _, _, _, _, _, _, _, _, _ => none
  | k + 1, x5, x6, x7, x8, x10, x12, x14, x15, x16, x17, x18, x144 => if x144 = true then (some false) else (if x14 > 0 then (laws_FnShots.j8 k x5 x6 x7 x8 x10 x12 (wrap64 (x14 - 1)) x15 x16 x17 x18) else (laws_FnShots.j8 k x5 x6 x7 x8 x10 x12 x14 x15 x16 x17 x18))
def laws_FnShots.j8 : Nat → ByteArray → Int → Int → ByteArray → ByteArray → List Int → Int → Int → Int → Int → Bool → Option (Bool)
  | 0, _, _, _, _, _, _, _, _, _, _, _ => none
  | k + 1, x5, x6, x7, x8, x10, x12, x14, x15, x16, x17, x18 => if x18 = true then (laws_FnShots.j9 k x5 x6 x7 x8 x10 x12 x14 0 x16 x17) else (laws_FnShots.j9 k x5 x6 x7 x8 x10 x12 x14 (wrap64 (x15 + 1)) x16 x17)
def laws_FnShots.j9 : Nat → ByteArray → Int → Int → ByteArray → ByteArray → List Int → Int → Int → Int → Int → Option (Bool)
  | 0, _, _, _, _, _, _, _, _, _, _ => none
  | k + 1, x5, x6, x7, x8, x10, x12, x14, x15, x16, x17 => if x15 = x7 then (if x16 ≥ (x12.length : Int) then (some false) else (if 0 ≤ x16 then (if x16 < (x12.length : Int) then (if (rd x12 x16) = x17 then (laws_FnShots.l0 k x5 x6 x7 x8 x10 x12 x14 x15 (wrap64 (x16 + 1)) (wrap64 (x17 + 1))) else (some false)) else (none)) else (none))) else (laws_FnShots.l0 k x5 x6 x7 x8 x10 x12 x14 x15 x16 (wrap64 (x17 + 1)))
def laws_FnShots.l1 : Nat → ByteArray → Int → Int → ByteArray → ByteArray → List Int → Int → Int → Int → Int → Bool → Bool → Int → Option (Bool)
  | 0, _, _, _, _, _, _, _, _, _, _, _, _, _ => none
  | k + 1, x5, x6, x7, x8, x10, x12, x14, x15, x16, x17, x18, x19, x20 => if x20 < x7 then (if x20 ≤ x17 then (if x19 = true then (laws_FnShots.l1 k x5 x6 x7 x8 x10 x12 x14 x15 x16 x17 x18 true (wrap64 (x20 + 1))) else (if 0 ≤ (wrap64 (x17 - x20)) then (if (wrap64 (x17 - x20)) < (x5.size : Int) then (if (bt x5 (wrap64 (x17 - x20))) = 49 then (if x17 = x20 then (laws_FnShots.l1 k x5 x6 x7 x8 x10 x12 x14 x15 x16 x17 x18 true (wrap64 (x20 + 1))) else (if 0 ≤ (wrap64 ((wrap64 (x17 - x20)) - 1)) then (if (wrap64 ((wrap64 (x17 - x20)) - 1)) < (x5.size : Int) then (laws_FnShots.l1 k x5 x6 x7 x8 x10 x12 x14 x15 x16 x17 x18 ((bt x5 (wrap64 ((wrap64 (x17 - x20)) - 1))) == 48) (wrap64 (x20 + 1))) else (none)) else (none))) else (laws_FnShots.l1 k x5 x6 x7 x8 x10 x12 x14 x15 x16 x17 x18 false (wrap64 (x20 + 1)))) else (none)) else (none))) else (laws_FnShots.j4 k x5 x6 x7 x8 x10 x12 x14 x15 x16 x17 x18 x19)) else (laws_FnShots.j4 k x5 x6 x7 x8 x10 x12 x14 x15 x16 x17 x18 x19)
end
def laws_FnShots.f (k : Nat) (l0 : List Int) (l1 : List Int) : Option (Bool) := (laws_b10Long.f l0 l1).bind fun t431 => (if t431 = true then (some true) else ((spec_B10Wave.f k l0).bind fun t432 => ((laws_b10At.f l1 0 6).bind fun t433 => ((impl_OneShot.f t432 (wrap64 (1 + t433)) 0).bind fun bt434 => ((impl_OneShot.f t432 (wrap64 (1 + t433)) 1).bind fun bt436 => ((impl_Timeouts.f k t432 (wrap64 (1 + t433))).bind fun bt438 => (if bt434.2 = true then (if bt436.2 = true then (if bt438.2 = true then (if (bt434.1.size : Int) = (t432.size : Int) then (laws_FnShots.j0 k t432 (t432.size : Int) (wrap64 (1 + t433)) bt434.1 bt436.1 bt438.1 ((bt436.1.size : Int) != (t432.size : Int))) else (laws_FnShots.j0 k t432 (t432.size : Int) (wrap64 (1 + t433)) bt434.1 bt436.1 bt438.1 true)) else (laws_FnShots.j0 k t432 (t432.size : Int) (wrap64 (1 + t433)) bt434.1 bt436.1 bt438.1 true)) else (laws_FnShots.j0 k t432 (t432.size : Int) (wrap64 (1 + t433)) bt434.1 bt436.1 bt438.1 true)) else (laws_FnShots.j0 k t432 (t432.size : Int) (wrap64 (1 + t433)) bt434.1 bt436.1 bt438.1 true))))))))
theorem laws_FnShots.mono_l : ∀ k, (∀ y0 y1 y2 y3 y4 y5 y6, LeO (laws_FnShots.j0 k y0 y1 y2 y3 y4 y5 y6) (laws_FnShots.j0 (k + 1) y0 y1 y2 y3 y4 y5 y6)) ∧ (∀ y0 y1 y2 y3 y4 y5 y6 y7 y8 y9, LeO (laws_FnShots.l0 k y0 y1 y2 y3 y4 y5 y6 y7 y8 y9) (laws_FnShots.l0 (k + 1) y0 y1 y2 y3 y4 y5 y6 y7 y8 y9)) ∧ (∀ y0 y1 y2 y3 y4 y5 y6 y7 y8 y9 y10, LeO (laws_FnShots.j2 k y0 y1 y2 y3 y4 y5 y6 y7 y8 y9 y10) (laws_FnShots.j2 (k + 1) y0 y1 y2 y3 y4 y5 y6 y7 y8 y9 y10)) ∧ (∀ y0 y1 y2 y3 y4 y5 y6 y7 y8 y9 y10 y11, LeO (laws_FnShots.j4 k y0 y1 y2 y3 y4 y5 y6 y7 y8 y9 y10 y11) (laws_FnShots.j4 (k + 1) y0 y1 y2 y3 y4 y5 y6 y7 y8 y9 y10 y11)) ∧ (∀ y0 y1 y2 y3 y4 y5 y6 y7 y8 y9 y10 y11 y12, LeO (laws_FnShots.j5 k y0 y1 y2 y3 y4 y5 y6 y7 y8 y9 y10 y11 y12) (laws_FnShots.j5 (k + 1) y0 y1 y2 y3 y4 y5 y6 y7 y8 y9 y10 y11 y12)) ∧ (∀ y0 y1 y2 y3 y4 y5 y6 y7 y8 y9 y10 y11, LeO (laws_FnShots.j6 k y0 y1 y2 y3 y4 y5 y6 y7 y8 y9 y10 y11) (laws_FnShots.j6 (k + 1) y0 y1 y2 y3 y4 y5 y6 y7 y8 y9 y10 y11)) ∧ (∀ y0 y1 y2 y3 y4 y5 y6 y7 y8 y9 y10 y11, LeO (laws_FnShots.j7 k y0 y1 y2 y3 y4 y5 y6 y7 y8 y9 y10 y11) (laws_FnShots.j7 (k + 1) y0 y1 y2 y3 y4 y5 y6 y7 y8 y9 y10 y11)) ∧ (∀ y0 y1 y2 y3 y4 y5 y6 y7 y8 y9 y10, LeO (laws_FnShots.j8 k y0 y1 y2 y3 y4 y5 y6 y7 y8 y9 y10) (laws_FnShots.j8 (k + 1) y0 y1 y2 y3 y4 y5 y6 y7 y8 y9 y10)) ∧ (∀ y0 y1 y2 y3 y4 y5 y6 y7 y8 y9, LeO (laws_FnShots.j9 k y0 y1 y2 y3 y4 y5 y6 y7 y8 y9) (laws_FnShots.j9 (k + 1) y0 y1 y2 y3 y4 y5 y6 y7 y8 y9)) ∧ (∀ y0 y1 y2 y3 y4 y5 y6 y7 y8 y9 y10 y11 y12, LeO (laws_FnShots.l1 k y0 y1 y2 y3 y4 y5 y6 y7 y8 y9 y10 y11 y12) (laws_FnShots.l1 (k + 1) y0 y1 y2 y3 y4 y5 y6 y7 y8 y9 y10 y11 y12))
  | 0 => ⟨fun _ _ _ _ _ _ _ r h => by simp [laws_FnShots.j0] at h, fun _ _ _ _ _ _ _ _ _ _ r h => by simp [laws_FnShots.l0] at h, fun _ _ _ _ _ _ _ _ _ _ _ r h => by simp [laws_FnShots.j2] at h, fun _ _ _ _ _ _ _ _ _ _ _ _ r h => by simp [laws_FnShots.j4] at h, fun _ _ _ _ _ _ _ _ _ _ _ _ _ r h => by simp [laws_FnShots.j5] at h, fun _ _ _ _ _ _ _ _ _ _ _ _ r h => by simp [laws_FnShots.j6] at h, fun _ _ _ _ _ _ _ _ _ _ _ _ r h => by simp [laws_FnShots.j7] at h, fun _ _ _ _ _ _ _ _ _ _ _ r h => by simp [laws_FnShots.j8] at h, fun _ _ _ _ _ _ _ _ _ _ r h => by simp [laws_FnShots.j9] at h, fun _ _ _ _ _ _ _ _ _ _ _ _ _ r h => by simp [laws_FnShots.l1] at h⟩
  | k + 1 => by
    obtain ⟨ih0, ih1, ih2, ih3, ih4, ih5, ih6, ih7, ih8, ih9⟩ := laws_FnShots.mono_l k
    refine ⟨?_, ?_, ?_, ?_, ?_, ?_, ?_, ?_, ?_, ?_⟩
    · intro y0 y1 y2 y3 y4 y5 y6
      unfold laws_FnShots.j0
      repeat' first
      | (with_reducible exact ih0 _ _ _ _ _ _ _)
      | (with_reducible exact ih1 _ _ _ _ _ _ _ _ _ _)
      | (with_reducible exact ih2 _ _ _ _ _ _ _ _ _ _ _)
      | (with_reducible exact ih3 _ _ _ _ _ _ _ _ _ _ _ _)
      | (with_reducible exact ih4 _ _ _ _ _ _ _ _ _ _ _ _ _)
      | (with_reducible exact ih5 _ _ _ _ _ _ _ _ _ _ _ _)
      | (with_reducible exact ih6 _ _ _ _ _ _ _ _ _ _ _ _)
      | (with_reducible exact ih7 _ _ _ _ _ _ _ _ _ _ _)
      | (with_reducible exact ih8 _ _ _ _ _ _ _ _ _ _)
      | (with_reducible exact ih9 _ _ _ _ _ _ _ _ _ _ _ _ _)
      | (with_reducible exact impl_Timeouts.mono _ _ _)
      | (with_reducible exact spec_B10Wave.mono _ _)
      | (with_reducible exact LeO.refl _)
      | (with_reducible exact LeO.none _)
      | (with_reducible refine LeO.ite ?_ ?_)
      | (with_reducible refine LeO.bind ?_ (fun _ => ?_))
      | exact ih0 _ _ _ _ _ _ _
      | exact ih1 _ _ _ _ _ _ _ _ _ _
      | exact ih2 _ _ _ _ _ _ _ _ _ _ _
      | exact ih3 _ _ _ _ _ _ _ _ _ _ _ _
      | exact ih4 _ _ _ _ _ _ _ _ _ _ _ _ _
      | exact ih5 _ _ _ _ _ _ _ _ _ _ _ _
      | exact ih6 _ _ _ _ _ _ _ _ _ _ _ _
      | exact ih7 _ _ _ _ _ _ _ _ _ _ _
      | exact ih8 _ _ _ _ _ _ _ _ _ _
      | exact ih9 _ _ _ _ _ _ _ _ _ _ _ _ _
      | exact impl_Timeouts.mono _ _ _
      | exact spec_B10Wave.mono _ _
      | exact LeO.none _
      | refine LeO.ite ?_ ?_
      | refine LeO.bind ?_ (fun _ => ?_)
    · intro y0 y1 y2 y3 y4 y5 y6 y7 y8 y9
      unfold laws_FnShots.l0
      repeat' first
      | (with_reducible exact ih0 _ _ _ _ _ _ _)
      | (with_reducible exact ih1 _ _ _ _ _ _ _ _ _ _)
      | (with_reducible exact ih2 _ _ _ _ _ _ _ _ _ _ _)
      | (with_reducible exact ih3 _ _ _ _ _ _ _ _ _ _ _ _)
      | (with_reducible exact ih4 _ _ _ _ _ _ _ _ _ _ _ _ _)
      | (with_reducible exact ih5 _ _ _ _ _ _ _ _ _ _ _ _)
      | (with_reducible exact ih6 _ _ _ _ _ _ _ _ _ _ _ _)
      | (with_reducible exact ih7 _ _ _ _ _ _ _ _ _ _ _)
      | (with_reducible exact ih8 _ _ _ _ _ _ _ _ _ _)
      | (with_reducible exact ih9 _ _ _ _ _ _ _ _ _ _ _ _ _)
      | (with_reducible exact impl_Timeouts.mono _ _ _)
      | (with_reducible exact spec_B10Wave.mono _ _)
      | (with_reducible exact LeO.refl _)
      | (with_reducible exact LeO.none _)
      | (with_reducible refine LeO.ite ?_ ?_)
      | (with_reducible refine LeO.bind ?_ (fun _ => ?_))
      | exact ih0 _ _ _ _ _ _ _
      | exact ih1 _ _ _ _ _ _ _ _ _ _
      | exact ih2 _ _ _ _ _ _ _ _ _ _ _
      | exact ih3 _ _ _ _ _ _ _ _ _ _ _ _
      | exact ih4 _ _ _ _ _ _ _ _ _ _ _ _ _
      | exact ih5 _ _ _ _ _ _ _ _ _ _ _ _
      | exact ih6 _ _ _ _ _ _ _ _ _ _ _ _
      | exact ih7 _ _ _ _ _ _ _ _ _ _ _
      | exact ih8 _ _ _ _ _ _ _ _ _ _
      | exact ih9 _ _ _ _ _ _ _ _ _ _ _ _ _
      | exact impl_Timeouts.mono _ _ _
      | exact spec_B10Wave.mono _ _
      | exact LeO.none _
      | refine LeO.ite ?_ ?_
      | refine LeO.bind ?_ (fun _ => ?_)
    · intro y0 y1 y2 y3 y4 y5 y6 y7 y8 y9 y10
      unfold laws_FnShots.j2
      repeat' first
      | (with_reducible exact ih0 _ _ _ _ _ _ _)
      | (with_reducible exact ih1 _ _ _ _ _ _ _ _ _ _)
      | (with_reducible exact ih2 _ _ _ _ _ _ _ _ _ _ _)
      | (with_reducible exact ih3 _ _ _ _ _ _ _ _ _ _ _ _)
      | (with_reducible exact ih4 _ _ _ _ _ _ _ _ _ _ _ _ _)
      | (with_reducible exact ih5 _ _ _ _ _ _ _ _ _ _ _ _)
      | (with_reducible exact ih6 _ _ _ _ _ _ _ _ _ _ _ _)
      | (with_reducible exact ih7 _ _ _ _ _ _ _ _ _ _ _)
      | (with_reducible exact ih8 _ _ _ _ _ _ _ _ _ _)
      | (with_reducible exact ih9 _ _ _ _ _ _ _ _ _ _ _ _ _)
      | (with_reducible exact impl_Timeouts.mono _ _ _)
      | (with_reducible exact spec_B10Wave.mono _ _)
      | (with_reducible exact LeO.refl _)
      | (with_reducible exact LeO.none _)
      | (with_reducible refine LeO.ite ?_ ?_)
      | (with_reducible refine LeO.bind ?_ (fun _ => ?_))
      | exact ih0 _ _ _ _ _ _ _
      | exact ih1 _ _ _ _ _ _ _ _ _ _
      | exact ih2 _ _ _ _ _ _ _ _ _ _ _
      | exact ih3 _ _ _ _ _ _ _ _ _ _ _ _
      | exact ih4 _ _ _ _ _ _ _ _ _ _ _ _ _
      | exact ih5 _ _ _ _ _ _ _ _ _ _ _ _
      | exact ih6 _ _ _ _ _ _ _ _ _ _ _ _
      | exact ih7 _ _ _ _ _ _ _ _ _ _ _
      | exact ih8 _ _ _ _ _ _ _ _ _ _
      | exact ih9 _ _ _ _ _ _ _ _ _ _ _ _ _
      | exact impl_Timeouts.mono _ _ _
      | exact spec_B10Wave.mono _ _
      | exact LeO.none _
      | refine LeO.ite ?_ ?_
      | refine LeO.bind ?_ (fun _ => ?_)
    · intro y0 y1 y2 y3 y4 y5 y6 y7 y8 y9 y10 y11
      unfold laws_FnShots.j4
      repeat' first
      | (with_reducible exact ih0 _ _ _ _ _ _ _)
      | (with_reducible exact ih1 _ _ _ _ _ _ _ _ _ _)
      | (with_reducible exact ih2 _ _ _ _ _ _ _ _ _ _ _)
      | (with_reducible exact ih3 _ _ _ _ _ _ _ _ _ _ _ _)
      | (with_reducible exact ih4 _ _ _ _ _ _ _ _ _ _ _ _ _)
      | (with_reducible exact ih5 _ _ _ _ _ _ _ _ _ _ _ _)
      | (with_reducible exact ih6 _ _ _ _ _ _ _ _ _ _ _ _)
      | (with_reducible exact ih7 _ _ _ _ _ _ _ _ _ _ _)
      | (with_reducible exact ih8 _ _ _ _ _ _ _ _ _ _)
      | (with_reducible exact ih9 _ _ _ _ _ _ _ _ _ _ _ _ _)
      | (with_reducible exact impl_Timeouts.mono _ _ _)
      | (with_reducible exact spec_B10Wave.mono _ _)
      | (with_reducible exact LeO.refl _)
      | (with_reducible exact LeO.none _)
      | (with_reducible refine LeO.ite ?_ ?_)
      | (with_reducible refine LeO.bind ?_ (fun _ => ?_))
      | exact ih0 _ _ _ _ _ _ _
      | exact ih1 _ _ _ _ _ _ _ _ _ _
      | exact ih2 _ _ _ _ _ _ _ _ _ _ _
      | exact ih3 _ _ _ _ _ _ _ _ _ _ _ _
      | exact ih4 _ _ _ _ _ _ _ _ _ _ _ _ _
      | exact ih5 _ _ _ _ _ _ _ _ _ _ _ _
      | exact ih6 _ _ _ _ _ _ _ _ _ _ _ _
      | exact ih7 _ _ _ _ _ _ _ _ _ _ _
      | exact ih8 _ _ _ _ _ _ _ _ _ _
      | exact ih9 _ _ _ _ _ _ _ _ _ _ _ _ _
      | exact impl_Timeouts.mono _ _ _
      | exact spec_B10Wave.mono _ _
      | exact LeO.none _
      | refine LeO.ite ?_ ?_
      | refine LeO.bind ?_ (fun _ => ?_)
    · intro y0 y1 y2 y3 y4 y5 y6 y7 y8 y9 y10 y11 y12
      unfold laws_FnShots.j5
      repeat' first
      | (with_reducible exact ih0 _ _ _ _ _ _ _)
      | (with_reducible exact ih1 _ _ _ _ _ _ _ _ _ _)
      | (with_reducible exact ih2 _ _ _ _ _ _ _ _ _ _ _)
      | (with_reducible exact ih3 _ _ _ _ _ _ _ _ _ _ _ _)
      | (with_reducible exact ih4 _ _ _ _ _ _ _ _ _ _ _ _ _)
      | (with_reducible exact ih5 _ _ _ _ _ _ _ _ _ _ _ _)
      | (with_reducible exact ih6 _ _ _ _ _ _ _ _ _ _ _ _)
      | (with_reducible exact ih7 _ _ _ _ _ _ _ _ _ _ _)
      | (with_reducible exact ih8 _ _ _ _ _ _ _ _ _ _)
      | (with_reducible exact ih9 _ _ _ _ _ _ _ _ _ _ _ _ _)
      | (with_reducible exact impl_Timeouts.mono _ _ _)
      | (with_reducible exact spec_B10Wave.mono _ _)
      | (with_reducible exact LeO.refl _)
      | (with_reducible exact LeO.none _)
      | (with_reducible refine LeO.ite ?_ ?_)
      | (with_reducible refine LeO.bind ?_ (fun _ => ?_))
      | exact ih0 _ _ _ _ _ _ _
      | exact ih1 _ _ _ _ _ _ _ _ _ _
      | exact ih2 _ _ _ _ _ _ _ _ _ _ _
      | exact ih3 _ _ _ _ _ _ _ _ _ _ _ _
      | exact ih4 _ _ _ _ _ _ _ _ _ _ _ _ _
      | exact ih5 _ _ _ _ _ _ _ _ _ _ _ _
      | exact ih6 _ _ _ _ _ _ _ _ _ _ _ _
      | exact ih7 _ _ _ _ _ _ _ _ _ _ _
      | exact ih8 _ _ _ _ _ _ _ _ _ _
      | exact ih9 _ _ _ _ _ _ _ _ _ _ _ _ _
      | exact impl_Timeouts.mono _ _ _
      | exact spec_B10Wave.mono _ _
      | exact LeO.none _
      | refine LeO.ite ?_ ?_
      | refine LeO.bind ?_ (fun _ => ?_)
    · intro y0 y1 y2 y3 y4 y5 y6 y7 y8 y9 y10 y11
      unfold laws_FnShots.j6
      repeat' first
      | (with_reducible exact ih0 _ _ _ _ _ _ _)
      | (with_reducible exact ih1 _ _ _ _ _ _ _ _ _ _)
      | (with_reducible exact ih2 _ _ _ _ _ _ _ _ _ _ _)
      | (with_reducible exact ih3 _ _ _ _ _ _ _ _ _ _ _ _)
      | (with_reducible exact ih4 _ _ _ _ _ _ _ _ _ _ _ _ _)
      | (with_reducible exact ih5 _ _ _ _ _ _ _ _ _ _ _ _)
      | (with_reducible exact ih6 _ _ _ _ _ _ _ _ _ _ _ _)
      | (with_reducible exact ih7 _ _ _ _ _ _ _ _ _ _ _)
      | (with_reducible exact ih8 _ _ _ _ _ _ _ _ _ _)
      | (with_reducible exact ih9 _ _ _ _ _ _ _ _ _ _ _ _ _)
      | (with_reducible exact impl_Timeouts.mono _ _ _)
      | (with_reducible exact spec_B10Wave.mono _ _)
      | (with_reducible exact LeO.refl _)
      | (with_reducible exact LeO.none _)
      | (with_reducible refine LeO.ite ?_ ?_)
      | (with_reducible refine LeO.bind ?_ (fun _ => ?_))
      | exact ih0 _ _ _ _ _ _ _
      | exact ih1 _ _ _ _ _ _ _ _ _ _
      | exact ih2 _ _ _ _ _ _ _ _ _ _ _
      | exact ih3 _ _ _ _ _ _ _ _ _ _ _ _
      | exact ih4 _ _ _ _ _ _ _ _ _ _ _ _ _
      | exact ih5 _ _ _ _ _ _ _ _ _ _ _ _
      | exact ih6 _ _ _ _ _ _ _ _ _ _ _ _
      | exact ih7 _ _ _ _ _ _ _ _ _ _ _
      | exact ih8 _ _ _ _ _ _ _ _ _ _
      | exact ih9 _ _ _ _ _ _ _ _ _ _ _ _ _
      | exact impl_Timeouts.mono _ _ _
      | exact spec_B10Wave.mono _ _
      | exact LeO.none _
      | refine LeO.ite ?_ ?_
      | refine LeO.bind ?_ (fun _ => ?_)
    · intro y0 y1 y2 y3 y4 y5 y6 y7 y8 y9 y10 y11
      unfold laws_FnShots.j7
      repeat' first
      | (with_reducible exact ih0 _ _ _ _ _ _ _)
      | (with_reducible exact ih1 _ _ _ _ _ _ _ _ _ _)
      | (with_reducible exact ih2 _ _ _ _ _ _ _ _ _ _ _)
      | (with_reducible exact ih3 _ _ _ _ _ _ _ _ _ _ _ _)
      | (with_reducible exact ih4 _ _ _ _ _ _ _ _ _ _ _ _ _)
      | (with_reducible exact ih5 _ _ _ _ _ _ _ _ _ _ _ _)
      | (with_reducible exact ih6 _ _ _ _ _ _ _ _ _ _ _ _)
      | (with_reducible exact ih7 _ _ _ _ _ _ _ _ _ _ _)
      | (with_reducible exact ih8 _ _ _ _ _ _ _ _ _ _)
      | (with_reducible exact ih9 _ _ _ _ _ _ _ _ _ _ _ _ _)
      | (with_reducible exact impl_Timeouts.mono _ _ _)
      | (with_reducible exact spec_B10Wave.mono _ _)
      | (with_reducible exact LeO.refl _)
      | (with_reducible exact LeO.none _)
      | (with_reducible refine LeO.ite ?_ ?_)
      | (with_reducible refine LeO.bind ?_ (fun _ => ?_))
      | exact ih0 _ _ _ _ _ _ _
      | exact ih1 _ _ _ _ _ _ _ _ _ _
      | exact ih2 _ _ _ _ _ _ _ _ _ _ _
      | exact ih3 _ _ _ _ _ _ _ _ _ _ _ _
      | exact ih4 _ _ _ _ _ _ _ _ _ _ _ _ _
      | exact ih5 _ _ _ _ _ _ _ _ _ _ _ _
      | exact ih6 _ _ _ _ _ _ _ _ _ _ _ _
      | exact ih7 _ _ _ _ _ _ _ _ _ _ _
      | exact ih8 _ _ _ _ _ _ _ _ _ _
      | exact ih9 _ _ _ _ _ _ _ _ _ _ _ _ _
      | exact impl_Timeouts.mono _ _ _
      | exact spec_B10Wave.mono _ _
      | exact LeO.none _
      | refine LeO.ite ?_ ?_
      | refine LeO.bind ?_ (fun _ => ?_)
    · intro y0 y1 y2 y3 y4 y5 y6 y7 y8 y9 y10
      unfold laws_FnShots.j8
      repeat' first
      | (with_reducible exact ih0 _ _ _ _ _ _ _)
      | (with_reducible exact ih1 _ _ _ _ _ _ _ _ _ _)
      | (with_reducible exact ih2 _ _ _ _ _ _ _ _ _ _ _)
      | (with_reducible exact ih3 _ _ _ _ _ _ _ _ _ _ _ _)
      | (with_reducible exact ih4 _ _ _ _ _ _ _ _ _ _ _ _ _)
      | (with_reducible exact ih5 _ _ _ _ _ _ _ _ _ _ _ _)
      | (with_reducible exact ih6 _ _ _ _ _ _ _ _ _ _ _ _)
      | (with_reducible exact ih7 _ _ _ _ _ _ _ _ _ _ _)
      | (with_reducible exact ih8 _ _ _ _ _ _ _ _ _ _)
      | (with_reducible exact ih9 _ _ _ _ _ _ _ _ _ _ _ _ _)
      | (with_reducible exact impl_Timeouts.mono _ _ _)
      | (with_reducible exact spec_B10Wave.mono _ _)
      | (with_reducible exact LeO.refl _)
      | (with_reducible exact LeO.none _)
      | (with_reducible refine LeO.ite ?_ ?_)
      | (with_reducible refine LeO.bind ?_ (fun _ => ?_))
      | exact ih0 _ _ _ _ _ _ _
      | exact ih1 _ _ _ _ _ _ _ _ _ _
      | exact ih2 _ _ _ _ _ _ _ _ _ _ _
      | exact ih3 _ _ _ _ _ _ _ _ _ _ _ _
      | exact ih4 _ _ _ _ _ _ _ _ _ _ _ _ _
      | exact ih5 _ _ _ _ _ _ _ _ _ _ _ _
      | exact ih6 _ _ _ _ _ _ _ _ _ _ _ _
      | exact ih7 _ _ _ _ _ _ _ _ _ _ _
      | exact ih8 _ _ _ _ _ _ _ _ _ _
      | exact ih9 _ _ _ _ _ _ _ _ _ _ _ _ _
      | exact impl_Timeouts.mono _ _ _
      | exact spec_B10Wave.mono _ _
      | exact LeO.none _
      | refine LeO.ite ?_ ?_
      | refine LeO.bind ?_ (fun _ => ?_)
    · intro y0 y1 y2 y3 y4 y5 y6 y7 y8 y9
      unfold laws_FnShots.j9
      repeat' first
      | (with_reducible exact ih0 _ _ _ _ _ _ _)
      | (with_reducible exact ih1 _ _ _ _ _ _ _ _ _ _)
      | (with_reducible exact ih2 _ _ _ _ _ _ _ _ _ _ _)
      | (with_reducible exact ih3 _ _ _ _ _ _ _ _ _ _ _ _)
      | (with_reducible exact ih4 _ _ _ _ _ _ _ _ _ _ _ _ _)
      | (with_reducible exact ih5 _ _ _ _ _ _ _ _ _ _ _ _)
      | (with_reducible exact ih6 _ _ _ _ _ _ _ _ _ _ _ _)
      | (with_reducible exact ih7 _ _ _ _ _ _ _ _ _ _ _)
      | (with_reducible exact ih8 _ _ _ _ _ _ _ _ _ _)
      | (with_reducible exact ih9 _ _ _ _ _ _ _ _ _ _ _ _ _)
      | (with_reducible exact impl_Timeouts.mono _ _ _)
      | (with_reducible exact spec_B10Wave.mono _ _)
      | (with_reducible exact LeO.refl _)
      | (with_reducible exact LeO.none _)
      | (with_reducible refine LeO.ite ?_ ?_)
      | (with_reducible refine LeO.bind ?_ (fun _ => ?_))
      | exact ih0 _ _ _ _ _ _ _
      | exact ih1 _ _ _ _ _ _ _ _ _ _
      | exact ih2 _ _ _ _ _ _ _ _ _ _ _
      | exact ih3 _ _ _ _ _ _ _ _ _ _ _ _
      | exact ih4 _ _ _ _ _ _ _ _ _ _ _ _ _
      | exact ih5 _ _ _ _ _ _ _ _ _ _ _ _
      | exact ih6 _ _ _ _ _ _ _ _ _ _ _ _
      | exact ih7 _ _ _ _ _ _ _ _ _ _ _
      | exact ih8 _ _ _ _ _ _ _ _ _ _
      | exact ih9 _ _ _ _ _ _ _ _ _ _ _ _ _
      | exact impl_Timeouts.mono _ _ _
      | exact spec_B10Wave.mono _ _
      | exact LeO.none _
      | refine LeO.ite ?_ ?_
      | refine LeO.bind ?_ (fun _ => ?_)
    · intro y0 y1 y2 y3 y4 y5 y6 y7 y8 y9 y10 y11 y12
      unfold laws_FnShots.l1
      repeat' first
      | (with_reducible exact ih0 _ _ _ _ _ _ _)
      | (with_reducible exact ih1 _ _ _ _ _ _ _ _ _ _)
      | (with_reducible exact ih2 _ _ _ _ _ _ _ _ _ _ _)
      | (with_reducible exact ih3 _ _ _ _ _ _ _ _ _ _ _ _)
      | (with_reducible exact ih4 _ _ _ _ _ _ _ _ _ _ _ _ _)
      | (with_reducible exact ih5 _ _ _ _ _ _ _ _ _ _ _ _)
      | (with_reducible exact ih6 _ _ _ _ _ _ _ _ _ _ _ _)
      | (with_reducible exact ih7 _ _ _ _ _ _ _ _ _ _ _)
      | (with_reducible exact ih8 _ _ _ _ _ _ _ _ _ _)
      | (with_reducible exact ih9 _ _ _ _ _ _ _ _ _ _ _ _ _)
      | (with_reducible exact impl_Timeouts.mono _ _ _)
      | (with_reducible exact spec_B10Wave.mono _ _)
      | (with_reducible exact LeO.refl _)
      | (with_reducible exact LeO.none _)
      | (with_reducible refine LeO.ite ?_ ?_)
      | (with_reducible refine LeO.bind ?_ (fun _ => ?_))
      | exact ih0 _ _ _ _ _ _ _
      | exact ih1 _ _ _ _ _ _ _ _ _ _
      | exact ih2 _ _ _ _ _ _ _ _ _ _ _
      | exact ih3 _ _ _ _ _ _ _ _ _ _ _ _
      | exact ih4 _ _ _ _ _ _ _ _ _ _ _ _ _
      | exact ih5 _ _ _ _ _ _ _ _ _ _ _ _
      | exact ih6 _ _ _ _ _ _ _ _ _ _ _ _
      | exact ih7 _ _ _ _ _ _ _ _ _ _ _
      | exact ih8 _ _ _ _ _ _ _ _ _ _
      | exact ih9 _ _ _ _ _ _ _ _ _ _ _ _ _
      | exact impl_Timeouts.mono _ _ _
      | exact spec_B10Wave.mono _ _
      | exact LeO.none _
      | refine LeO.ite ?_ ?_
      | refine LeO.bind ?_ (fun _ => ?_)
theorem laws_FnShots.mono : ∀ a0 a1 k, LeO (laws_FnShots.f k a0 a1) (laws_FnShots.f (k + 1) a0 a1) := by
  intro a0 a1 k
  obtain ⟨ih0, ih1, ih2, ih3, ih4, ih5, ih6, ih7, ih8, ih9⟩ := laws_FnShots.mono_l k
  unfold laws_FnShots.f
  repeat' first
      | (with_reducible exact ih0 _ _ _ _ _ _ _)
      | (with_reducible exact ih1 _ _ _ _ _ _ _ _ _ _)
      | (with_reducible exact ih2 _ _ _ _ _ _ _ _ _ _ _)
      | (with_reducible exact ih3 _ _ _ _ _ _ _ _ _ _ _ _)
      | (with_reducible exact ih4 _ _ _ _ _ _ _ _ _ _ _ _ _)
      | (with_reducible exact ih5 _ _ _ _ _ _ _ _ _ _ _ _)
      | (with_reducible exact ih6 _ _ _ _ _ _ _ _ _ _ _ _)
      | (with_reducible exact ih7 _ _ _ _ _ _ _ _ _ _ _)
      | (with_reducible exact ih8 _ _ _ _ _ _ _ _ _ _)
      | (with_reducible exact ih9 _ _ _ _ _ _ _ _ _ _ _ _ _)
      | (with_reducible exact impl_Timeouts.mono _ _ _)
      | (with_reducible exact spec_B10Wave.mono _ _)
      | (with_reducible exact LeO.refl _)
      | (with_reducible exact LeO.none _)
      | (with_reducible refine LeO.ite ?_ ?_)
      | (with_reducible refine LeO.bind ?_ (fun _ => ?_))
      | exact ih0 _ _ _ _ _ _ _
      | exact ih1 _ _ _ _ _ _ _ _ _ _
      | exact ih2 _ _ _ _ _ _ _ _ _ _ _
      | exact ih3 _ _ _ _ _ _ _ _ _ _ _ _
      | exact ih4 _ _ _ _ _ _ _ _ _ _ _ _ _
      | exact ih5 _ _ _ _ _ _ _ _ _ _ _ _
      | exact ih6 _ _ _ _ _ _ _ _ _ _ _ _
      | exact ih7 _ _ _ _ _ _ _ _ _ _ _
      | exact ih8 _ _ _ _ _ _ _ _ _ _
      | exact ih9 _ _ _ _ _ _ _ _ _ _ _ _ _
      | exact impl_Timeouts.mono _ _ _
      | exact spec_B10Wave.mono _ _
      | exact LeO.none _
      | refine LeO.ite ?_ ?_
      | refine LeO.bind ?_ (fun _ => ?_)
set_option maxHeartbeats 8000000 in
set_option maxRecDepth 100000 in
theorem laws_FnShots.calls (k : Nat) (A0 : Option Addr) (c0 : Nat) (l0 : List Int) (A1 : Option Addr) (c1 : Nat) (l1 : List Int) (r : Bool) (w : World) (hr0 : Kd.C (Kd.int .u8) w A0 l0.length l0) (hc0 : l0.length ≤ c0) (hr1 : Kd.C (Kd.int .u8) w A1 l1.length l1) (hc1 : l1.length ≤ c1) (h : laws_FnShots.f k l0 l1 = some r) :
    Calls Tryd.prog 10 #[.slice A0 l0.length c0, .slice A1 l1.length c1] w fun e w' => e = .returned (.bool r) ∧ Below w.heap.size w w' := by
  have HR0 := Aside0.mk hr0
  have HC0 := Aside0.mk hc0
  clear hr0 hc0
  have HR1 := Aside0.mk hr1
  have HC1 := Aside0.mk hc1
  clear hr1 hc1
  have HB := Aside0.mk (Below.refl w.heap.size w)
  have H : ((laws_b10Long.f l0 l1).bind fun t431 => (if t431 = true then (some true) else ((spec_B10Wave.f k l0).bind fun t432 => ((laws_b10At.f l1 0 6).bind fun t433 => ((impl_OneShot.f t432 (wrap64 (1 + t433)) 0).bind fun bt434 => ((impl_OneShot.f t432 (wrap64 (1 + t433)) 1).bind fun bt436 => ((impl_Timeouts.f k t432 (wrap64 (1 + t433))).bind fun bt438 => (if bt434.2 = true then (if bt436.2 = true then (if bt438.2 = true then (if (bt434.1.size : Int) = (t432.size : Int) then (laws_FnShots.j0 k t432 (t432.size : Int) (wrap64 (1 + t433)) bt434.1 bt436.1 bt438.1 ((bt436.1.size : Int) != (t432.size : Int))) else (laws_FnShots.j0 k t432 (t432.size : Int) (wrap64 (1 + t433)) bt434.1 bt436.1 bt438.1 true)) else (laws_FnShots.j0 k t432 (t432.size : Int) (wrap64 (1 + t433)) bt434.1 bt436.1 bt438.1 true)) else (laws_FnShots.j0 k t432 (t432.size : Int) (wrap64 (1 + t433)) bt434.1 bt436.1 bt438.1 true)) else (laws_FnShots.j0 k t432 (t432.size : Int) (wrap64 (1 + t433)) bt434.1 bt436.1 bt438.1 true))))))))) = some r := h
  clear h
  replace H := Option.bind_eq_some_iff.mp H
  obtain ⟨t431, A30, H⟩ := H
  replace H : (if t431 = true then (some true) else ((spec_B10Wave.f k l0).bind fun t432 => ((laws_b10At.f l1 0 6).bind fun t433 => ((impl_OneShot.f t432 (wrap64 (1 + t433)) 0).bind fun bt434 => ((impl_OneShot.f t432 (wrap64 (1 + t433)) 1).bind fun bt436 => ((impl_Timeouts.f k t432 (wrap64 (1 + t433))).bind fun bt438 => (if bt434.2 = true then (if bt436.2 = true then (if bt438.2 = true then (if (bt434.1.size : Int) = (t432.size : Int) then (laws_FnShots.j0 k t432 (t432.size : Int) (wrap64 (1 + t433)) bt434.1 bt436.1 bt438.1 ((bt436.1.size : Int) != (t432.size : Int))) else (laws_FnShots.j0 k t432 (t432.size : Int) (wrap64 (1 + t433)) bt434.1 bt436.1 bt438.1 true)) else (laws_FnShots.j0 k t432 (t432.size : Int) (wrap64 (1 + t433)) bt434.1 bt436.1 bt438.1 true)) else (laws_FnShots.j0 k t432 (t432.size : Int) (wrap64 (1 + t433)) bt434.1 bt436.1 bt438.1 true)) else (laws_FnShots.j0 k t432 (t432.size : Int) (wrap64 (1 + t433)) bt434.1 bt436.1 bt438.1 true)))))))) = some r := H
  have A3 := Aside0.mk A30
  clear A30
  by_cases c4 : t431 = true
  · subst c4
    have H1 : (some true) = some r := by rw [if_pos rfl] at H; exact H
    clear H
    have H := H1
    clear H1
    obtain rfl := Option.some.inj H
    go_enter Tryd.func10, Tryd.ntmps10
    go_wp2_with (first | ((with_reducible refine gate_callee (f := 31) rfl ?_); refine goesL_ (some 23) rfl rfl Tryd.func31 (by kernel_rfl) rfl #[.slice A0 l0.length c0, .slice A1 l1.length c1] rfl (by (try simp only [List.map_toArray, List.map_cons, List.map_nil]); first | done | rfl | (simp only [List.length_drop, List.length_take]; rfl)) ?_; (with_reducible refine (laws_b10Long.calls _ _ l0 _ _ l1 true _ ?side1 ?side2 ?side3 ?side4 A3.out).mono ?_); (case side1 => repeat (first | exact HR0.out | (with_reducible refine Kd.C_alloc ?_ _) | (with_reducible refine Kd.C_drewN ?_ _) | (with_reducible refine Kd.C_drew ?_))); (case side2 => exact HC0.out); (case side3 => repeat (first | exact HR1.out | (with_reducible refine Kd.C_alloc ?_ _) | (with_reducible refine Kd.C_drewN ?_ _) | (with_reducible refine Kd.C_drew ?_))); (case side4 => exact HC1.out); rintro e w' ⟨rfl, ⟨nd, rfl⟩⟩; refine ⟨_, rfl, ?_⟩))
    go_ret
    exact ⟨by first | rfl | (simp [errW_none, errW_some] <;> rfl) | (simp [*, errW_none, errW_some] <;> rfl), by repeat (first | (with_reducible first | exact HB.out | apply below_alloc | apply pw_below_drewN | apply below_drew1) | exact HB.out)⟩
  · replace c4 := Bool.eq_false_iff.mpr c4
    subst c4
    have H1 : ((spec_B10Wave.f k l0).bind fun t432 => ((laws_b10At.f l1 0 6).bind fun t433 => ((impl_OneShot.f t432 (wrap64 (1 + t433)) 0).bind fun bt434 => ((impl_OneShot.f t432 (wrap64 (1 + t433)) 1).bind fun bt436 => ((impl_Timeouts.f k t432 (wrap64 (1 + t433))).bind fun bt438 => (if bt434.2 = true then (if bt436.2 = true then (if bt438.2 = true then (if (bt434.1.size : Int) = (t432.size : Int) then (laws_FnShots.j0 k t432 (t432.size : Int) (wrap64 (1 + t433)) bt434.1 bt436.1 bt438.1 ((bt436.1.size : Int) != (t432.size : Int))) else (laws_FnShots.j0 k t432 (t432.size : Int) (wrap64 (1 + t433)) bt434.1 bt436.1 bt438.1 true)) else (laws_FnShots.j0 k t432 (t432.size : Int) (wrap64 (1 + t433)) bt434.1 bt436.1 bt438.1 true)) else (laws_FnShots.j0 k t432 (t432.size : Int) (wrap64 (1 + t433)) bt434.1 bt436.1 bt438.1 true)) else (laws_FnShots.j0 k t432 (t432.size : Int) (wrap64 (1 + t433)) bt434.1 bt436.1 bt438.1 true))))))) = some r := by rw [if_neg (show ¬ (false = true) by decide)] at H; exact H
    clear H
    have H := H1
    clear H1
    replace H := Option.bind_eq_some_iff.mp H
    obtain ⟨t432, A50, H⟩ := H
    replace H : ((laws_b10At.f l1 0 6).bind fun t433 => ((impl_OneShot.f t432 (wrap64 (1 + t433)) 0).bind fun bt434 => ((impl_OneShot.f t432 (wrap64 (1 + t433)) 1).bind fun bt436 => ((impl_Timeouts.f k t432 (wrap64 (1 + t433))).bind fun bt438 => (if bt434.2 = true then (if bt436.2 = true then (if bt438.2 = true then (if (bt434.1.size : Int) = (t432.size : Int) then (laws_FnShots.j0 k t432 (t432.size : Int) (wrap64 (1 + t433)) bt434.1 bt436.1 bt438.1 ((bt436.1.size : Int) != (t432.size : Int))) else (laws_FnShots.j0 k t432 (t432.size : Int) (wrap64 (1 + t433)) bt434.1 bt436.1 bt438.1 true)) else (laws_FnShots.j0 k t432 (t432.size : Int) (wrap64 (1 + t433)) bt434.1 bt436.1 bt438.1 true)) else (laws_FnShots.j0 k t432 (t432.size : Int) (wrap64 (1 + t433)) bt434.1 bt436.1 bt438.1 true)) else (laws_FnShots.j0 k t432 (t432.size : Int) (wrap64 (1 + t433)) bt434.1 bt436.1 bt438.1 true)))))) = some r := H
    have A5 := Aside0.mk A50
    clear A50
    replace H := Option.bind_eq_some_iff.mp H
    obtain ⟨t433, A60, H⟩ := H
    replace H : ((impl_OneShot.f t432 (wrap64 (1 + t433)) 0).bind fun bt434 => ((impl_OneShot.f t432 (wrap64 (1 + t433)) 1).bind fun bt436 => ((impl_Timeouts.f k t432 (wrap64 (1 + t433))).bind fun bt438 => (if bt434.2 = true then (if bt436.2 = true then (if bt438.2 = true then (if (bt434.1.size : Int) = (t432.size : Int) then (laws_FnShots.j0 k t432 (t432.size : Int) (wrap64 (1 + t433)) bt434.1 bt436.1 bt438.1 ((bt436.1.size : Int) != (t432.size : Int))) else (laws_FnShots.j0 k t432 (t432.size : Int) (wrap64 (1 + t433)) bt434.1 bt436.1 bt438.1 true)) else (laws_FnShots.j0 k t432 (t432.size : Int) (wrap64 (1 + t433)) bt434.1 bt436.1 bt438.1 true)) else (laws_FnShots.j0 k t432 (t432.size : Int) (wrap64 (1 + t433)) bt434.1 bt436.1 bt438.1 true)) else (laws_FnShots.j0 k t432 (t432.size : Int) (wrap64 (1 + t433)) bt434.1 bt436.1 bt438.1 true))))) = some r := H
    have A6 := Aside0.mk A60
    clear A60
    replace H := Option.bind_eq_some_iff.mp H
    obtain ⟨⟨t434, t435⟩, A70, H⟩ := H
    replace H : ((impl_OneShot.f t432 (wrap64 (1 + t433)) 1).bind fun bt436 => ((impl_Timeouts.f k t432 (wrap64 (1 + t433))).bind fun bt438 => (if t435 = true then (if bt436.2 = true then (if bt438.2 = true then (if (t434.size : Int) = (t432.size : Int) then (laws_FnShots.j0 k t432 (t432.size : Int) (wrap64 (1 + t433)) t434 bt436.1 bt438.1 ((bt436.1.size : Int) != (t432.size : Int))) else (laws_FnShots.j0 k t432 (t432.size : Int) (wrap64 (1 + t433)) t434 bt436.1 bt438.1 true)) else (laws_FnShots.j0 k t432 (t432.size : Int) (wrap64 (1 + t433)) t434 bt436.1 bt438.1 true)) else (laws_FnShots.j0 k t432 (t432.size : Int) (wrap64 (1 + t433)) t434 bt436.1 bt438.1 true)) else (laws_FnShots.j0 k t432 (t432.size : Int) (wrap64 (1 + t433)) t434 bt436.1 bt438.1 true)))) = some r := H
    have A7 := Aside0.mk A70
    clear A70
    replace H := Option.bind_eq_some_iff.mp H
    obtain ⟨⟨t436, t437⟩, A80, H⟩ := H
    replace H : ((impl_Timeouts.f k t432 (wrap64 (1 + t433))).bind fun bt438 => (if t435 = true then (if t437 = true then (if bt438.2 = true then (if (t434.size : Int) = (t432.size : Int) then (laws_FnShots.j0 k t432 (t432.size : Int) (wrap64 (1 + t433)) t434 t436 bt438.1 ((t436.size : Int) != (t432.size : Int))) else (laws_FnShots.j0 k t432 (t432.size : Int) (wrap64 (1 + t433)) t434 t436 bt438.1 true)) else (laws_FnShots.j0 k t432 (t432.size : Int) (wrap64 (1 + t433)) t434 t436 bt438.1 true)) else (laws_FnShots.j0 k t432 (t432.size : Int) (wrap64 (1 + t433)) t434 t436 bt438.1 true)) else (laws_FnShots.j0 k t432 (t432.size : Int) (wrap64 (1 + t433)) t434 t436 bt438.1 true))) = some r := H
    have A8 := Aside0.mk A80
    clear A80
    replace H := Option.bind_eq_some_iff.mp H
    obtain ⟨⟨t438, t439⟩, A90, H⟩ := H
    replace H : (if t435 = true then (if t437 = true then (if t439 = true then (if (t434.size : Int) = (t432.size : Int) then (laws_FnShots.j0 k t432 (t432.size : Int) (wrap64 (1 + t433)) t434 t436 t438 ((t436.size : Int) != (t432.size : Int))) else (laws_FnShots.j0 k t432 (t432.size : Int) (wrap64 (1 + t433)) t434 t436 t438 true)) else (laws_FnShots.j0 k t432 (t432.size : Int) (wrap64 (1 + t433)) t434 t436 t438 true)) else (laws_FnShots.j0 k t432 (t432.size : Int) (wrap64 (1 + t433)) t434 t436 t438 true)) else (laws_FnShots.j0 k t432 (t432.size : Int) (wrap64 (1 + t433)) t434 t436 t438 true)) = some r := H
    have A9 := Aside0.mk A90
    clear A90
    have HC10 := Aside0.mk H
    clear H
    go_enter Tryd.func10, Tryd.ntmps10
    go_upto_region 9 with (first | ((with_reducible refine gate_callee (f := 31) rfl ?_); refine goesL_ (some 23) rfl rfl Tryd.func31 (by kernel_rfl) rfl #[.slice A0 l0.length c0, .slice A1 l1.length c1] rfl (by (try simp only [List.map_toArray, List.map_cons, List.map_nil]); first | done | rfl | (simp only [List.length_drop, List.length_take]; rfl)) ?_; (with_reducible refine (laws_b10Long.calls _ _ l0 _ _ l1 false _ ?side1 ?side2 ?side3 ?side4 A3.out).mono ?_); (case side1 => repeat (first | exact HR0.out | (with_reducible refine Kd.C_alloc ?_ _) | (with_reducible refine Kd.C_drewN ?_ _) | (with_reducible refine Kd.C_drew ?_))); (case side2 => exact HC0.out); (case side3 => repeat (first | exact HR1.out | (with_reducible refine Kd.C_alloc ?_ _) | (with_reducible refine Kd.C_drewN ?_ _) | (with_reducible refine Kd.C_drew ?_))); (case side4 => exact HC1.out); rintro e w' ⟨rfl, ⟨nd, rfl⟩⟩; refine ⟨_, rfl, ?_⟩) | ((with_reducible refine gate_callee (f := 32) rfl ?_); refine goesL_ (some 25) rfl rfl Tryd.func32 (by kernel_rfl) rfl #[.slice A0 l0.length c0] rfl (by (try simp only [List.map_toArray, List.map_cons, List.map_nil]); first | done | rfl | (simp only [List.length_drop, List.length_take]; rfl)) ?_; (with_reducible refine (spec_B10Wave.calls k _ _ l0 t432 _ ?side1 ?side2 A5.out).mono ?_); (case side1 => repeat (first | exact HR0.out | (with_reducible refine Kd.C_alloc ?_ _) | (with_reducible refine Kd.C_drewN ?_ _) | (with_reducible refine Kd.C_drew ?_))); (case side2 => exact HC0.out); rintro e w11 ⟨rfl, hb⟩; refine ⟨_, rfl, ?_⟩; have n0_ := Aside0.mk (below_step (by repeat (first | (with_reducible first | exact HB.out | apply below_alloc | apply pw_below_drewN | apply below_drew1) | exact HB.out)) hb); clear HB; have HB := n0_; clear n0_; (try clear hb); (try clear hb2); (try clear hk); (try clear hi)) | ((with_reducible refine gate_callee (f := 33) rfl ?_); refine goesL_ (some 29) rfl rfl Tryd.func33 (by kernel_rfl) rfl #[.slice A1 l1.length c1, .int .i64 0, .int .i64 6] rfl (by (try simp only [List.map_toArray, List.map_cons, List.map_nil]); first | done | rfl | (simp only [List.length_drop, List.length_take]; rfl)) ?_; (with_reducible refine (laws_b10At.calls _ _ l1 0 6 t433 _ ?side1 ?side2 A6.out).mono ?_); (case side1 => repeat (first | exact (Kd.C_below HR1.out HB.out) | (with_reducible refine Kd.C_alloc ?_ _) | (with_reducible refine Kd.C_drewN ?_ _) | (with_reducible refine Kd.C_drew ?_))); (case side2 => exact HC1.out); rintro e w' ⟨rfl, ⟨nd, rfl⟩⟩; refine ⟨_, rfl, ?_⟩) | ((with_reducible refine gate_callee (f := 19) rfl ?_); refine goesL_ (some 34) rfl rfl Tryd.func19 (by kernel_rfl) rfl #[.string t432, .int .i64 (wrap64 (1 + t433)), .int .i64 0] rfl (by (try simp only [List.map_toArray, List.map_cons, List.map_nil]); first | done | rfl | (simp only [List.length_drop, List.length_take]; rfl)) ?_; (with_reducible refine (impl_OneShot.calls t432 (wrap64 (1 + t433)) 0 t434 t435 _ A7.out).mono ?_); rintro e w12 ⟨rfl, hb⟩; refine ⟨_, rfl, ?_⟩; have n0_ := Aside0.mk (below_step (by repeat (first | (with_reducible first | exact HB.out | apply below_alloc | apply pw_below_drewN | apply below_drew1) | exact HB.out)) hb); clear HB; have HB := n0_; clear n0_; (try clear hb); (try clear hb2); (try clear hk); (try clear hi)) | ((with_reducible refine gate_callee (f := 19) rfl ?_); refine goesL_ (some 40) rfl rfl Tryd.func19 (by kernel_rfl) rfl #[.string t432, .int .i64 (wrap64 (1 + t433)), .int .i64 1] rfl (by (try simp only [List.map_toArray, List.map_cons, List.map_nil]); first | done | rfl | (simp only [List.length_drop, List.length_take]; rfl)) ?_; (with_reducible refine (impl_OneShot.calls t432 (wrap64 (1 + t433)) 1 t436 t437 _ A8.out).mono ?_); rintro e w13 ⟨rfl, hb⟩; refine ⟨_, rfl, ?_⟩; have n0_ := Aside0.mk (below_step (by repeat (first | (with_reducible first | exact HB.out | apply below_alloc | apply pw_below_drewN | apply below_drew1) | exact HB.out)) hb); clear HB; have HB := n0_; clear n0_; (try clear hb); (try clear hb2); (try clear hk); (try clear hi)) | ((with_reducible refine gate_callee (f := 23) rfl ?_); refine goesL_ (some 46) rfl rfl Tryd.func23 (by kernel_rfl) rfl #[.string t432, .int .i64 (wrap64 (1 + t433))] rfl (by (try simp only [List.map_toArray, List.map_cons, List.map_nil]); first | done | rfl | (simp only [List.length_drop, List.length_take]; rfl)) ?_; (with_reducible refine (impl_Timeouts.calls k t432 (wrap64 (1 + t433)) t438 t439 _ A9.out).mono ?_); rintro e w14 ⟨v440, rfl, ho0, hb⟩; refine ⟨_, rfl, ?_⟩; have n0_ := Aside0.mk (Kd.R_lower ho0 (below_size (by repeat (first | (with_reducible first | exact HB.out | apply below_alloc | apply pw_below_drewN | apply below_drew1) | exact HB.out)))); have n1_ := Aside0.mk (below_step (by repeat (first | (with_reducible first | exact HB.out | apply below_alloc | apply pw_below_drewN | apply below_drew1) | exact HB.out)) hb); clear HB; have HO441 := n0_; have HB := n1_; clear n0_ n1_; (try clear hb); (try clear hb2); (try clear hk); (try clear hi); (try clear ho0)))
    (try simp only [Act.put, List.setIfInBounds_toArray, List.set_cons_zero, List.set_cons_succ])
    go_cut [70] (fun v70 wc => ∃ (kq : Nat) (x70_9 : Bool), v70 = .bool x70_9 ∧ Aside0 (laws_FnShots.j0 kq t432 (t432.size : Int) (wrap64 (1 + t433)) t434 t436 t438 x70_9 = some r) ∧ Aside0 (kq ≤ k) ∧ Aside0 (Kd.R (Kd.int .i64) 2 wc w.heap.size (fun _ => True) v440 t438) ∧ Aside0 (Below w.heap.size w wc))
    case first =>
      have H := HC10.out
      clear HC10
      by_cases c15 : t435 = true
      · subst c15
        have H1 : (if t437 = true then (if t439 = true then (if (t434.size : Int) = (t432.size : Int) then (laws_FnShots.j0 k t432 (t432.size : Int) (wrap64 (1 + t433)) t434 t436 t438 ((t436.size : Int) != (t432.size : Int))) else (laws_FnShots.j0 k t432 (t432.size : Int) (wrap64 (1 + t433)) t434 t436 t438 true)) else (laws_FnShots.j0 k t432 (t432.size : Int) (wrap64 (1 + t433)) t434 t436 t438 true)) else (laws_FnShots.j0 k t432 (t432.size : Int) (wrap64 (1 + t433)) t434 t436 t438 true)) = some r := by rw [if_pos rfl] at H; exact H
        clear H
        have H := H1
        clear H1
        by_cases c16 : t437 = true
        · subst c16
          have H1 : (if t439 = true then (if (t434.size : Int) = (t432.size : Int) then (laws_FnShots.j0 k t432 (t432.size : Int) (wrap64 (1 + t433)) t434 t436 t438 ((t436.size : Int) != (t432.size : Int))) else (laws_FnShots.j0 k t432 (t432.size : Int) (wrap64 (1 + t433)) t434 t436 t438 true)) else (laws_FnShots.j0 k t432 (t432.size : Int) (wrap64 (1 + t433)) t434 t436 t438 true)) = some r := by rw [if_pos rfl] at H; exact H
          clear H
          have H := H1
          clear H1
          by_cases c17 : t439 = true
          · subst c17
            have H1 : (if (t434.size : Int) = (t432.size : Int) then (laws_FnShots.j0 k t432 (t432.size : Int) (wrap64 (1 + t433)) t434 t436 t438 ((t436.size : Int) != (t432.size : Int))) else (laws_FnShots.j0 k t432 (t432.size : Int) (wrap64 (1 + t433)) t434 t436 t438 true)) = some r := by rw [if_pos rfl] at H; exact H
            clear H
            have H := H1
            clear H1
            by_cases c18 : (t434.size : Int) = (t432.size : Int)
            · rw [if_pos c18] at H
              have c18b0 : ((t434.size : Int) == (t432.size : Int)) = true := beq_iff_eq.mpr c18
              have c18b1 : ((t434.size : Int) != (t432.size : Int)) = false := bne_eq_false_iff_eq.mpr c18
              have c18b2 : (t434.size == t432.size) = true := by first | simpa using c18 | (simp at c18 ⊢; omega)
              clear c18
              (first | rw [c18b0] | (simp only [i64_w, i32_w]; rw [c18b0]) | skip)
              have H' := Aside0.mk H
              clear H
              go_wp2
              go_meet
              case rel => exact ⟨_, (((t436.size : Int) != (t432.size : Int))), (by first | rfl | (simp; done) | (simp [*]; done)), H', ⟨by first | omega | exact Nat.le_refl _⟩, ⟨by (with_reducible repeat (first | apply Kd.R_alloc | apply Kd.R_drewN | apply Kd.R_drew)); exact HO441.out⟩, ⟨by repeat (first | (with_reducible first | exact HB.out | apply below_alloc | apply pw_below_drewN | apply below_drew1) | exact HB.out)⟩⟩
            · rw [if_neg c18] at H
              have c18b0 : ((t434.size : Int) == (t432.size : Int)) = false := beq_eq_false_iff_ne.mpr c18
              have c18b1 : ((t434.size : Int) != (t432.size : Int)) = true := bne_iff_ne.mpr c18
              have c18b2 : (t434.size == t432.size) = false := by first | simpa using c18 | (simp at c18 ⊢; omega)
              (first | rw [c18b0] | (simp only [i64_w, i32_w]; rw [c18b0]) | skip)
              have H' := Aside0.mk H
              clear H
              go_wp2
              go_meet
              case rel => exact ⟨_, (true), (by first | rfl | (simp; done) | (simp [*]; done)), H', ⟨by first | omega | exact Nat.le_refl _⟩, ⟨by (with_reducible repeat (first | apply Kd.R_alloc | apply Kd.R_drewN | apply Kd.R_drew)); exact HO441.out⟩, ⟨by repeat (first | (with_reducible first | exact HB.out | apply below_alloc | apply pw_below_drewN | apply below_drew1) | exact HB.out)⟩⟩
          · replace c17 := Bool.eq_false_iff.mpr c17
            subst c17
            have H1 : (laws_FnShots.j0 k t432 (t432.size : Int) (wrap64 (1 + t433)) t434 t436 t438 true) = some r := by rw [if_neg (show ¬ (false = true) by decide)] at H; exact H
            clear H
            have H := H1
            clear H1
            have H' := Aside0.mk H
            clear H
            go_wp2
            go_meet
            case rel => exact ⟨_, (true), (by first | rfl | (simp; done) | (simp [*]; done)), H', ⟨by first | omega | exact Nat.le_refl _⟩, ⟨by (with_reducible repeat (first | apply Kd.R_alloc | apply Kd.R_drewN | apply Kd.R_drew)); exact HO441.out⟩, ⟨by repeat (first | (with_reducible first | exact HB.out | apply below_alloc | apply pw_below_drewN | apply below_drew1) | exact HB.out)⟩⟩
        · replace c16 := Bool.eq_false_iff.mpr c16
          subst c16
          have H1 : (laws_FnShots.j0 k t432 (t432.size : Int) (wrap64 (1 + t433)) t434 t436 t438 true) = some r := by rw [if_neg (show ¬ (false = true) by decide)] at H; exact H
          clear H
          have H := H1
          clear H1
          have H' := Aside0.mk H
          clear H
          go_wp2
          go_meet
          case rel => exact ⟨_, (true), (by first | rfl | (simp; done) | (simp [*]; done)), H', ⟨by first | omega | exact Nat.le_refl _⟩, ⟨by (with_reducible repeat (first | apply Kd.R_alloc | apply Kd.R_drewN | apply Kd.R_drew)); exact HO441.out⟩, ⟨by repeat (first | (with_reducible first | exact HB.out | apply below_alloc | apply pw_below_drewN | apply below_drew1) | exact HB.out)⟩⟩
      · replace c15 := Bool.eq_false_iff.mpr c15
        subst c15
        have H1 : (laws_FnShots.j0 k t432 (t432.size : Int) (wrap64 (1 + t433)) t434 t436 t438 true) = some r := by rw [if_neg (show ¬ (false = true) by decide)] at H; exact H
        clear H
        have H := H1
        clear H1
        have H' := Aside0.mk H
        clear H
        go_wp2
        go_meet
        case rel => exact ⟨_, (true), (by first | rfl | (simp; done) | (simp [*]; done)), H', ⟨by first | omega | exact Nat.le_refl _⟩, ⟨by (with_reducible repeat (first | apply Kd.R_alloc | apply Kd.R_drewN | apply Kd.R_drew)); exact HO441.out⟩, ⟨by repeat (first | (with_reducible first | exact HB.out | apply below_alloc | apply pw_below_drewN | apply below_drew1) | exact HB.out)⟩⟩
    case rest =>
      clear HC10
      try clear c1
      try clear c2
      try clear p2
      try clear c3
      try clear c4
      try clear p6
      try clear c10
      try clear c15
      try clear c16
      try clear c17
      try clear c18
      try clear c18b0
      try clear c18b1
      try clear c18b2
      obtain ⟨kq, x70_9, rfl, HA, HJ9, HO_12, HB⟩ := hcut
      cases kq with
      | zero => exact absurd HA.out (by simp [laws_FnShots.j0])
      | succ kj9 =>
        have H := HA.out
        clear HA
        simp only [laws_FnShots.j0] at H
        by_cases c19 : x70_9 = true
        · subst c19
          have H1 : (some false) = some r := by rw [if_pos rfl] at H; exact H
          clear H
          have H := H1
          clear H1
          obtain rfl := Option.some.inj H
          go_wp2
          go_ret
          exact ⟨by first | rfl | (simp [errW_none, errW_some] <;> rfl) | (simp [*, errW_none, errW_some] <;> rfl), by repeat (first | (with_reducible first | exact HB.out | apply below_alloc | apply pw_below_drewN | apply below_drew1) | exact HB.out)⟩
        · replace c19 := Bool.eq_false_iff.mpr c19
          subst c19
          have H1 : (laws_FnShots.l0 kj9 t432 (t432.size : Int) (wrap64 (1 + t433)) t434 t436 t438 0 0 0 0) = some r := by rw [if_neg (show ¬ (false = true) by decide)] at H; exact H
          clear H
          have H := H1
          clear H1
          have H' := Aside0.mk H
          clear H
          go_wp2
          go_loopg [14, 15, 16, 17] kj9 (fun kq v14 v15 v16 v17 w' => ∃ (x14_2 : Int) (x15_2 : Int) (x16_2 : Int) (x17_2 : Int), v14 = .int .i64 x14_2 ∧ v15 = .int .i64 x15_2 ∧ v16 = .int .i64 x16_2 ∧ v17 = .int .i64 x17_2 ∧ Aside0 (laws_FnShots.l0 kq t432 (t432.size : Int) (wrap64 (1 + t433)) t434 t436 t438 x14_2 x15_2 x16_2 x17_2 = some r) ∧ Aside0 (kq ≤ kj9) ∧ Aside0 (Kd.R (Kd.int .i64) 2 w' w.heap.size (fun _ => True) v440 t438) ∧ Aside0 (Below w.heap.size w w'))
          case atStart => exact ⟨(0), (0), (0), (0), (by first | rfl | (simp; done) | (simp [*]; done)), (by first | rfl | (simp; done) | (simp [*]; done)), (by first | rfl | (simp; done) | (simp [*]; done)), (by first | rfl | (simp; done) | (simp [*]; done)), H', ⟨Nat.le_refl _⟩, ⟨by (with_reducible repeat (first | apply Kd.R_alloc | apply Kd.R_drewN | apply Kd.R_drew)); exact HO_12.out⟩, ⟨by repeat (first | (with_reducible first | exact HB.out | apply below_alloc | apply pw_below_drewN | apply below_drew1) | exact HB.out)⟩⟩
          case round =>
            clear H'
            try clear c1
            try clear c2
            try clear p2
            try clear c3
            try clear c4
            try clear p6
            try clear c10
            try clear c15
            try clear c16
            try clear c17
            try clear c18
            try clear c18b0
            try clear c18b1
            try clear c18b2
            try clear c19
            try clear p2
            try clear p6
            obtain ⟨x14_2, x15_2, x16_2, x17_2, rfl, rfl, rfl, rfl, HA, HK2, HO_12, HB⟩ := hrel
            cases gk with
            | zero => exact absurd HA.out (by simp [laws_FnShots.l0])
            | succ k2 =>
              have H := HA.out
              clear HA
              simp only [laws_FnShots.l0] at H
              by_cases c20 : x17_2 < (t432.size : Int)
              · rw [if_pos c20] at H
                have c20b0 : decide (x17_2 < (t432.size : Int)) = true := decide_eq_true c20
                clear c20
                have HC21 := Aside0.mk H
                clear H
                go_upto_region 17 with (fail)
                go_cut [18] (fun v18 wc => ∃ (kq : Nat) (x18_20 : Bool), v18 = .bool x18_20 ∧ Aside0 (laws_FnShots.j2 kq t432 (t432.size : Int) (wrap64 (1 + t433)) t434 t436 t438 x14_2 x15_2 x16_2 x17_2 x18_20 = some r) ∧ Aside0 (kq ≤ k2) ∧ Aside0 (Kd.R (Kd.int .i64) 2 wc w.heap.size (fun _ => True) v440 t438) ∧ Aside0 (Below w.heap.size w wc))
                case first =>
                  have H := HC21.out
                  clear HC21
                  by_cases c22 : 0 ≤ x17_2
                  · rw [if_pos c22] at H
                    have c22b0 : decide (0 ≤ x17_2) = true := decide_eq_true c22
                    clear c22
                    (first | rw [c22b0] | (simp only [i64_w, i32_w]; rw [c22b0]) | skip)
                    by_cases c23 : x17_2 < (t432.size : Int)
                    · rw [if_pos c23] at H
                      have c23b0 : decide (x17_2 < (t432.size : Int)) = true := decide_eq_true c23
                      clear c23
                      by_cases c25 : (bt t432 x17_2) = 49
                      · rw [if_pos c25] at H
                        have c25b0 : ((bt t432 x17_2) == 49) = true := beq_iff_eq.mpr c25
                        have c25b1 : ((bt t432 x17_2) != 49) = false := bne_eq_false_iff_eq.mpr c25
                        clear c25
                        by_cases c26 : x17_2 = 0
                        · rw [if_pos c26] at H
                          have c26b0 : (x17_2 == 0) = true := beq_iff_eq.mpr c26
                          have c26b1 : (x17_2 != 0) = false := bne_eq_false_iff_eq.mpr c26
                          clear c26
                          have H' := Aside0.mk H
                          clear H
                          have p24 : 0 ≤ (x17_2 : Int) := of_decide_eq_true (by first | (with_reducible assumption) | assumption)
                          have q24 : x17_2 < (t432.size : Int) := of_decide_eq_true (by first | (with_reducible assumption) | assumption)
                          have hx24 := bt_at t432 x17_2
                          replace p24 := eq_true p24
                          replace q24 := eq_true q24
                          go_wp2
                          go_meet
                          case rel => exact ⟨_, (true), (by first | rfl | (simp; done) | (simp [*]; done)), H', ⟨by have := HJ9.out; have := HK2.out; first | omega | exact Nat.le_refl _⟩, ⟨by (with_reducible repeat (first | apply Kd.R_alloc | apply Kd.R_drewN | apply Kd.R_drew)); exact HO_12.out⟩, ⟨by repeat (first | (with_reducible first | exact HB.out | apply below_alloc | apply pw_below_drewN | apply below_drew1) | exact HB.out)⟩⟩
                        · rw [if_neg c26] at H
                          have c26b0 : (x17_2 == 0) = false := beq_eq_false_iff_ne.mpr c26
                          have c26b1 : (x17_2 != 0) = true := bne_iff_ne.mpr c26
                          obtain ⟨ji27, hji27⟩ : ∃ j_ : Int, (wrap64 (x17_2 - 1)) = j_ := ⟨_, rfl⟩
                          replace H : (if 0 ≤ (ji27) then (if (ji27) < (t432.size : Int) then (laws_FnShots.j2 k2 t432 (t432.size : Int) (wrap64 (1 + t433)) t434 t436 t438 x14_2 x15_2 x16_2 x17_2 ((bt t432 (ji27)) == 48)) else (none)) else (none)) = some r := by first | (rw [hji27] at H; exact H) | (simp only [hji27] at H ⊢; exact H)
                          have hji27w : (IntKind.i64.wrap (x17_2 - 1)) = ji27 := (i64_w _).trans hji27
                          by_cases c28 : 0 ≤ (ji27)
                          · rw [if_pos c28] at H
                            have c28b0 : decide (0 ≤ (ji27)) = true := decide_eq_true c28
                            clear c28
                            by_cases c29 : (ji27) < (t432.size : Int)
                            · rw [if_pos c29] at H
                              have c29b0 : decide ((ji27) < (t432.size : Int)) = true := decide_eq_true c29
                              clear c29
                              have H' := Aside0.mk H
                              clear H
                              have p24 : 0 ≤ (x17_2 : Int) := of_decide_eq_true (by first | (with_reducible assumption) | assumption)
                              have q24 : x17_2 < (t432.size : Int) := of_decide_eq_true (by first | (with_reducible assumption) | assumption)
                              have hx24 := bt_at t432 x17_2
                              replace p24 := eq_true p24
                              replace q24 := eq_true q24
                              have p30 : 0 ≤ ((ji27) : Int) := of_decide_eq_true (by first | (with_reducible assumption) | assumption)
                              have q30 : (ji27) < (t432.size : Int) := of_decide_eq_true (by first | (with_reducible assumption) | assumption)
                              have hx30 := bt_at t432 (ji27)
                              replace p30 := eq_true p30
                              replace q30 := eq_true q30
                              go_wp2
                              go_meet
                              case rel => exact ⟨_, (((bt t432 (ji27)) == 48)), (by first | rfl | (simp; done) | (simp only [← hji27] <;> (first | rfl | simp)) | (simp [*]; done)), H', ⟨by have := HJ9.out; have := HK2.out; first | omega | exact Nat.le_refl _⟩, ⟨by (with_reducible repeat (first | apply Kd.R_alloc | apply Kd.R_drewN | apply Kd.R_drew)); exact HO_12.out⟩, ⟨by repeat (first | (with_reducible first | exact HB.out | apply below_alloc | apply pw_below_drewN | apply below_drew1) | exact HB.out)⟩⟩
                            · rw [if_neg c29] at H
                              exact absurd H (by simp)
                          · rw [if_neg c28] at H
                            exact absurd H (by simp)
                      · rw [if_neg c25] at H
                        have c25b0 : ((bt t432 x17_2) == 49) = false := beq_eq_false_iff_ne.mpr c25
                        have c25b1 : ((bt t432 x17_2) != 49) = true := bne_iff_ne.mpr c25
                        have H' := Aside0.mk H
                        clear H
                        have p24 : 0 ≤ (x17_2 : Int) := of_decide_eq_true (by first | (with_reducible assumption) | assumption)
                        have q24 : x17_2 < (t432.size : Int) := of_decide_eq_true (by first | (with_reducible assumption) | assumption)
                        have hx24 := bt_at t432 x17_2
                        replace p24 := eq_true p24
                        replace q24 := eq_true q24
                        go_wp2
                        go_meet
                        case rel => exact ⟨_, (false), (by first | rfl | (simp; done) | (simp [*]; done)), H', ⟨by have := HJ9.out; have := HK2.out; first | omega | exact Nat.le_refl _⟩, ⟨by (with_reducible repeat (first | apply Kd.R_alloc | apply Kd.R_drewN | apply Kd.R_drew)); exact HO_12.out⟩, ⟨by repeat (first | (with_reducible first | exact HB.out | apply below_alloc | apply pw_below_drewN | apply below_drew1) | exact HB.out)⟩⟩
                    · rw [if_neg c23] at H
                      exact absurd H (by simp)
                  · rw [if_neg c22] at H
                    exact absurd H (by simp)
                case rest =>
                  clear HC21
                  try clear c1
                  try clear c2
                  try clear p2
                  try clear q2
                  try clear hx2
                  try clear c3
                  try clear p3
                  try clear q3
                  try clear hx3
                  try clear c4
                  try clear p6
                  try clear c10
                  try clear c15
                  try clear c16
                  try clear c17
                  try clear c18
                  try clear c18b0
                  try clear c18b1
                  try clear c18b2
                  try clear c19
                  try clear c20
                  try clear c20b0
                  try clear c22
                  try clear c22b0
                  try clear c23
                  try clear c23b0
                  try clear p24
                  try clear q24
                  try clear hx24
                  try clear c25
                  try clear c25b0
                  try clear c25b1
                  try clear c26
                  try clear c26b0
                  try clear c26b1
                  try clear c28
                  try clear c28b0
                  try clear c29
                  try clear c29b0
                  try clear p30
                  try clear q30
                  try clear hx30
                  try clear p2
                  try clear p24
                  try clear p30
                  try clear p6
                  try clear q24
                  try clear q30
                  obtain ⟨kq, x18_20, rfl, HA, HJ20, HO_12, HB⟩ := hcut
                  cases kq with
                  | zero => exact absurd HA.out (by simp [laws_FnShots.j2])
                  | succ kj20 =>
                    have H := HA.out
                    clear HA
                    simp only [laws_FnShots.j2] at H
                    have HC31 := Aside0.mk H
                    clear H
                    go_upto_block 2 with (fail)
                    go_cut [19] (fun v19 wc => ∃ (kq : Nat) (x19_30 : Bool), v19 = .bool x19_30 ∧ Aside0 (laws_FnShots.j4 kq t432 (t432.size : Int) (wrap64 (1 + t433)) t434 t436 t438 x14_2 x15_2 x16_2 x17_2 x18_20 x19_30 = some r) ∧ Aside0 (kq ≤ kj20) ∧ Aside0 (Kd.R (Kd.int .i64) 2 wc w.heap.size (fun _ => True) v440 t438) ∧ Aside0 (Below w.heap.size w wc))
                    case first =>
                      have H := HC31.out
                      clear HC31
                      have H' := Aside0.mk H
                      clear H
                      go_wp2
                      go_loopg [19, 20] kj20 (fun kq v19 v20 w' => ∃ (x19_4 : Bool) (x20_4 : Int), v19 = .bool x19_4 ∧ v20 = .int .i64 x20_4 ∧ Aside0 (laws_FnShots.l1 kq t432 (t432.size : Int) (wrap64 (1 + t433)) t434 t436 t438 x14_2 x15_2 x16_2 x17_2 x18_20 x19_4 x20_4 = some r) ∧ Aside0 (kq ≤ kj20) ∧ Aside0 (Kd.R (Kd.int .i64) 2 w' w.heap.size (fun _ => True) v440 t438) ∧ Aside0 (Below w.heap.size w w'))
                      case atStart => exact ⟨(false), (0), (by first | rfl | (simp; done) | (simp [*]; done)), (by first | rfl | (simp; done) | (simp [*]; done)), H', ⟨Nat.le_refl _⟩, ⟨by (with_reducible repeat (first | apply Kd.R_alloc | apply Kd.R_drewN | apply Kd.R_drew)); exact HO_12.out⟩, ⟨by repeat (first | (with_reducible first | exact HB.out | apply below_alloc | apply pw_below_drewN | apply below_drew1) | exact HB.out)⟩⟩
                      case round =>
                        clear H'
                        try clear c1
                        try clear c2
                        try clear p2
                        try clear q2
                        try clear hx2
                        try clear c3
                        try clear p3
                        try clear q3
                        try clear hx3
                        try clear c4
                        try clear p6
                        try clear c10
                        try clear c15
                        try clear c16
                        try clear c17
                        try clear c18
                        try clear c18b0
                        try clear c18b1
                        try clear c18b2
                        try clear c19
                        try clear c20
                        try clear c20b0
                        try clear c22
                        try clear c22b0
                        try clear c23
                        try clear c23b0
                        try clear p24
                        try clear q24
                        try clear hx24
                        try clear c25
                        try clear c25b0
                        try clear c25b1
                        try clear c26
                        try clear c26b0
                        try clear c26b1
                        try clear c28
                        try clear c28b0
                        try clear c29
                        try clear c29b0
                        try clear p30
                        try clear q30
                        try clear hx30
                        try clear c31
                        try clear p2
                        try clear p24
                        try clear p3
                        try clear p30
                        try clear p6
                        try clear q2
                        try clear q24
                        try clear q3
                        try clear q30
                        obtain ⟨x19_4, x20_4, rfl, rfl, HA, HK4, HO_12, HB⟩ := hrel
                        cases gk with
                        | zero => exact absurd HA.out (by simp [laws_FnShots.l1])
                        | succ k4 =>
                          have H := HA.out
                          clear HA
                          simp only [laws_FnShots.l1] at H
                          by_cases c32 : x20_4 < (wrap64 (1 + t433))
                          · rw [if_pos c32] at H
                            have c32b0 : decide (x20_4 < (wrap64 (1 + t433))) = true := decide_eq_true c32
                            clear c32
                            (first | rw [c32b0] | (simp only [i64_w, i32_w]; rw [c32b0]) | skip)
                            by_cases c33 : x20_4 ≤ x17_2
                            · rw [if_pos c33] at H
                              have c33b0 : decide (x20_4 ≤ x17_2) = true := decide_eq_true c33
                              clear c33
                              by_cases c34 : x19_4 = true
                              · subst c34
                                have H1 : (laws_FnShots.l1 k4 t432 (t432.size : Int) (wrap64 (1 + t433)) t434 t436 t438 x14_2 x15_2 x16_2 x17_2 x18_20 true (wrap64 (x20_4 + 1))) = some r := by rw [if_pos rfl] at H; exact H
                                clear H
                                have H := H1
                                clear H1
                                have H' := Aside0.mk H
                                clear H
                                go_wp2
                                go_roundg k4
                                case measure => have := HJ9.out; have := HK2.out; have := HJ20.out; have := HK4.out; omega
                                case rel => exact ⟨(true), (wrap64 (x20_4 + 1)), (by first | rfl | (simp; done) | (simp [*]; done)), (by first | rfl | (simp; done) | (simp [*]; done)), H', ⟨by have := HJ9.out; have := HK2.out; have := HJ20.out; have := HK4.out; omega⟩, ⟨by (with_reducible repeat (first | apply Kd.R_alloc | apply Kd.R_drewN | apply Kd.R_drew)); exact HO_12.out⟩, ⟨by repeat (first | (with_reducible first | exact HB.out | apply below_alloc | apply pw_below_drewN | apply below_drew1) | exact HB.out)⟩⟩
                              · replace c34 := Bool.eq_false_iff.mpr c34
                                subst c34
                                have H1 : (if 0 ≤ (wrap64 (x17_2 - x20_4)) then (if (wrap64 (x17_2 - x20_4)) < (t432.size : Int) then (if (bt t432 (wrap64 (x17_2 - x20_4))) = 49 then (if x17_2 = x20_4 then (laws_FnShots.l1 k4 t432 (t432.size : Int) (wrap64 (1 + t433)) t434 t436 t438 x14_2 x15_2 x16_2 x17_2 x18_20 true (wrap64 (x20_4 + 1))) else (if 0 ≤ (wrap64 ((wrap64 (x17_2 - x20_4)) - 1)) then (if (wrap64 ((wrap64 (x17_2 - x20_4)) - 1)) < (t432.size : Int) then (laws_FnShots.l1 k4 t432 (t432.size : Int) (wrap64 (1 + t433)) t434 t436 t438 x14_2 x15_2 x16_2 x17_2 x18_20 ((bt t432 (wrap64 ((wrap64 (x17_2 - x20_4)) - 1))) == 48) (wrap64 (x20_4 + 1))) else (none)) else (none))) else (laws_FnShots.l1 k4 t432 (t432.size : Int) (wrap64 (1 + t433)) t434 t436 t438 x14_2 x15_2 x16_2 x17_2 x18_20 false (wrap64 (x20_4 + 1)))) else (none)) else (none)) = some r := by rw [if_neg (show ¬ (false = true) by decide)] at H; exact H
                                clear H
                                have H := H1
                                clear H1
                                obtain ⟨ji35, hji35⟩ : ∃ j_ : Int, (wrap64 (x17_2 - x20_4)) = j_ := ⟨_, rfl⟩
                                replace H : (if 0 ≤ (ji35) then (if (ji35) < (t432.size : Int) then (if (bt t432 (ji35)) = 49 then (if x17_2 = x20_4 then (laws_FnShots.l1 k4 t432 (t432.size : Int) (wrap64 (1 + t433)) t434 t436 t438 x14_2 x15_2 x16_2 x17_2 x18_20 true (wrap64 (x20_4 + 1))) else (if 0 ≤ (wrap64 ((ji35) - 1)) then (if (wrap64 ((ji35) - 1)) < (t432.size : Int) then (laws_FnShots.l1 k4 t432 (t432.size : Int) (wrap64 (1 + t433)) t434 t436 t438 x14_2 x15_2 x16_2 x17_2 x18_20 ((bt t432 (wrap64 ((ji35) - 1))) == 48) (wrap64 (x20_4 + 1))) else (none)) else (none))) else (laws_FnShots.l1 k4 t432 (t432.size : Int) (wrap64 (1 + t433)) t434 t436 t438 x14_2 x15_2 x16_2 x17_2 x18_20 false (wrap64 (x20_4 + 1)))) else (none)) else (none)) = some r := by first | (rw [hji35] at H; exact H) | (simp only [hji35] at H ⊢; exact H)
                                have hji35w : (IntKind.i64.wrap (x17_2 - x20_4)) = ji35 := (i64_w _).trans hji35
                                by_cases c36 : 0 ≤ (ji35)
                                · rw [if_pos c36] at H
                                  have c36b0 : decide (0 ≤ (ji35)) = true := decide_eq_true c36
                                  clear c36
                                  by_cases c37 : (ji35) < (t432.size : Int)
                                  · rw [if_pos c37] at H
                                    have c37b0 : decide ((ji35) < (t432.size : Int)) = true := decide_eq_true c37
                                    clear c37
                                    by_cases c39 : (bt t432 (ji35)) = 49
                                    · rw [if_pos c39] at H
                                      have c39b0 : ((bt t432 (ji35)) == 49) = true := beq_iff_eq.mpr c39
                                      have c39b1 : ((bt t432 (ji35)) != 49) = false := bne_eq_false_iff_eq.mpr c39
                                      clear c39
                                      by_cases c40 : x17_2 = x20_4
                                      · rw [if_pos c40] at H
                                        have c40b0 : (x17_2 == x20_4) = true := beq_iff_eq.mpr c40
                                        have c40b1 : (x17_2 != x20_4) = false := bne_eq_false_iff_eq.mpr c40
                                        clear c40
                                        have H' := Aside0.mk H
                                        clear H
                                        have p38 : 0 ≤ ((ji35) : Int) := of_decide_eq_true (by first | (with_reducible assumption) | assumption)
                                        have q38 : (ji35) < (t432.size : Int) := of_decide_eq_true (by first | (with_reducible assumption) | assumption)
                                        have hx38 := bt_at t432 (ji35)
                                        replace p38 := eq_true p38
                                        replace q38 := eq_true q38
                                        go_wp2
                                        go_roundg k4
                                        case measure => have := HJ9.out; have := HK2.out; have := HJ20.out; have := HK4.out; omega
                                        case rel => exact ⟨(true), (wrap64 (x20_4 + 1)), (by first | rfl | (simp; done) | (simp [*]; done)), (by first | rfl | (simp; done) | (simp [*]; done)), H', ⟨by have := HJ9.out; have := HK2.out; have := HJ20.out; have := HK4.out; omega⟩, ⟨by (with_reducible repeat (first | apply Kd.R_alloc | apply Kd.R_drewN | apply Kd.R_drew)); exact HO_12.out⟩, ⟨by repeat (first | (with_reducible first | exact HB.out | apply below_alloc | apply pw_below_drewN | apply below_drew1) | exact HB.out)⟩⟩
                                      · rw [if_neg c40] at H
                                        have c40b0 : (x17_2 == x20_4) = false := beq_eq_false_iff_ne.mpr c40
                                        have c40b1 : (x17_2 != x20_4) = true := bne_iff_ne.mpr c40
                                        obtain ⟨ji41, hji41⟩ : ∃ j_ : Int, (wrap64 ((ji35) - 1)) = j_ := ⟨_, rfl⟩
                                        replace H : (if 0 ≤ (ji41) then (if (ji41) < (t432.size : Int) then (laws_FnShots.l1 k4 t432 (t432.size : Int) (wrap64 (1 + t433)) t434 t436 t438 x14_2 x15_2 x16_2 x17_2 x18_20 ((bt t432 (ji41)) == 48) (wrap64 (x20_4 + 1))) else (none)) else (none)) = some r := by first | (rw [hji41] at H; exact H) | (simp only [hji41] at H ⊢; exact H)
                                        have hji41w : (IntKind.i64.wrap ((ji35) - 1)) = ji41 := (i64_w _).trans hji41
                                        by_cases c42 : 0 ≤ (ji41)
                                        · rw [if_pos c42] at H
                                          have c42b0 : decide (0 ≤ (ji41)) = true := decide_eq_true c42
                                          clear c42
                                          by_cases c43 : (ji41) < (t432.size : Int)
                                          · rw [if_pos c43] at H
                                            have c43b0 : decide ((ji41) < (t432.size : Int)) = true := decide_eq_true c43
                                            clear c43
                                            have H' := Aside0.mk H
                                            clear H
                                            have p38 : 0 ≤ ((ji35) : Int) := of_decide_eq_true (by first | (with_reducible assumption) | assumption)
                                            have q38 : (ji35) < (t432.size : Int) := of_decide_eq_true (by first | (with_reducible assumption) | assumption)
                                            have hx38 := bt_at t432 (ji35)
                                            replace p38 := eq_true p38
                                            replace q38 := eq_true q38
                                            have p44 : 0 ≤ ((ji41) : Int) := of_decide_eq_true (by first | (with_reducible assumption) | assumption)
                                            have q44 : (ji41) < (t432.size : Int) := of_decide_eq_true (by first | (with_reducible assumption) | assumption)
                                            have hx44 := bt_at t432 (ji41)
                                            replace p44 := eq_true p44
                                            replace q44 := eq_true q44
                                            go_wp2
                                            go_roundg k4
                                            case measure => have := HJ9.out; have := HK2.out; have := HJ20.out; have := HK4.out; omega
                                            case rel => exact ⟨(((bt t432 (ji41)) == 48)), (wrap64 (x20_4 + 1)), (by first | rfl | (simp; done) | (simp only [← hji41] <;> (first | rfl | simp)) | (simp [*]; done)), (by first | rfl | (simp; done) | (simp [*]; done)), H', ⟨by have := HJ9.out; have := HK2.out; have := HJ20.out; have := HK4.out; omega⟩, ⟨by (with_reducible repeat (first | apply Kd.R_alloc | apply Kd.R_drewN | apply Kd.R_drew)); exact HO_12.out⟩, ⟨by repeat (first | (with_reducible first | exact HB.out | apply below_alloc | apply pw_below_drewN | apply below_drew1) | exact HB.out)⟩⟩
                                          · rw [if_neg c43] at H
                                            exact absurd H (by simp)
                                        · rw [if_neg c42] at H
                                          exact absurd H (by simp)
                                    · rw [if_neg c39] at H
                                      have c39b0 : ((bt t432 (ji35)) == 49) = false := beq_eq_false_iff_ne.mpr c39
                                      have c39b1 : ((bt t432 (ji35)) != 49) = true := bne_iff_ne.mpr c39
                                      have H' := Aside0.mk H
                                      clear H
                                      have p38 : 0 ≤ ((ji35) : Int) := of_decide_eq_true (by first | (with_reducible assumption) | assumption)
                                      have q38 : (ji35) < (t432.size : Int) := of_decide_eq_true (by first | (with_reducible assumption) | assumption)
                                      have hx38 := bt_at t432 (ji35)
                                      replace p38 := eq_true p38
                                      replace q38 := eq_true q38
                                      go_wp2
                                      go_roundg k4
                                      case measure => have := HJ9.out; have := HK2.out; have := HJ20.out; have := HK4.out; omega
                                      case rel => exact ⟨(false), (wrap64 (x20_4 + 1)), (by first | rfl | (simp; done) | (simp [*]; done)), (by first | rfl | (simp; done) | (simp [*]; done)), H', ⟨by have := HJ9.out; have := HK2.out; have := HJ20.out; have := HK4.out; omega⟩, ⟨by (with_reducible repeat (first | apply Kd.R_alloc | apply Kd.R_drewN | apply Kd.R_drew)); exact HO_12.out⟩, ⟨by repeat (first | (with_reducible first | exact HB.out | apply below_alloc | apply pw_below_drewN | apply below_drew1) | exact HB.out)⟩⟩
                                  · rw [if_neg c37] at H
                                    exact absurd H (by simp)
                                · rw [if_neg c36] at H
                                  exact absurd H (by simp)
                            · rw [if_neg c33] at H
                              have c33b0 : decide (x20_4 ≤ x17_2) = false := decide_eq_false c33
                              clear c33
                              have H' := Aside0.mk H
                              clear H
                              go_wp2
                              go_meet
                              case rel => exact ⟨_, (x19_4), (by first | rfl | (simp; done) | (simp [*]; done)), H', ⟨by have := HJ9.out; have := HK2.out; have := HJ20.out; have := HK4.out; first | omega | exact Nat.le_refl _⟩, ⟨by (with_reducible repeat (first | apply Kd.R_alloc | apply Kd.R_drewN | apply Kd.R_drew)); exact HO_12.out⟩, ⟨by repeat (first | (with_reducible first | exact HB.out | apply below_alloc | apply pw_below_drewN | apply below_drew1) | exact HB.out)⟩⟩
                          · rw [if_neg c32] at H
                            have c32b0 : decide (x20_4 < (wrap64 (1 + t433))) = false := decide_eq_false c32
                            clear c32
                            (first | rw [c32b0] | (simp only [i64_w, i32_w]; rw [c32b0]) | skip)
                            have H' := Aside0.mk H
                            clear H
                            go_wp2
                            go_meet
                            case rel => exact ⟨_, (x19_4), (by first | rfl | (simp; done) | (simp [*]; done)), H', ⟨by have := HJ9.out; have := HK2.out; have := HJ20.out; have := HK4.out; first | omega | exact Nat.le_refl _⟩, ⟨by (with_reducible repeat (first | apply Kd.R_alloc | apply Kd.R_drewN | apply Kd.R_drew)); exact HO_12.out⟩, ⟨by repeat (first | (with_reducible first | exact HB.out | apply below_alloc | apply pw_below_drewN | apply below_drew1) | exact HB.out)⟩⟩
                    case rest =>
                      clear HC31
                      try clear c1
                      try clear c2
                      try clear p2
                      try clear q2
                      try clear hx2
                      try clear c3
                      try clear p3
                      try clear q3
                      try clear hx3
                      try clear c4
                      try clear p4
                      try clear q4
                      try clear hx4
                      try clear p6
                      try clear c10
                      try clear c15
                      try clear c16
                      try clear c17
                      try clear c18
                      try clear c18b0
                      try clear c18b1
                      try clear c18b2
                      try clear c19
                      try clear c20
                      try clear c20b0
                      try clear c22
                      try clear c22b0
                      try clear c23
                      try clear c23b0
                      try clear p24
                      try clear q24
                      try clear hx24
                      try clear c25
                      try clear c25b0
                      try clear c25b1
                      try clear c26
                      try clear c26b0
                      try clear c26b1
                      try clear c28
                      try clear c28b0
                      try clear c29
                      try clear c29b0
                      try clear p30
                      try clear q30
                      try clear hx30
                      try clear c31
                      try clear c32
                      try clear c32b0
                      try clear c33
                      try clear c33b0
                      try clear c34
                      try clear c36
                      try clear c36b0
                      try clear c37
                      try clear c37b0
                      try clear p38
                      try clear q38
                      try clear hx38
                      try clear c39
                      try clear c39b0
                      try clear c39b1
                      try clear c40
                      try clear c40b0
                      try clear c40b1
                      try clear c42
                      try clear c42b0
                      try clear c43
                      try clear c43b0
                      try clear p44
                      try clear q44
                      try clear hx44
                      try clear p2
                      try clear p24
                      try clear p3
                      try clear p30
                      try clear p38
                      try clear p44
                      try clear p6
                      try clear q2
                      try clear q24
                      try clear q3
                      try clear q30
                      try clear q38
                      try clear q44
                      obtain ⟨kq, x19_30, rfl, HA, HJ30, HO_12, HB⟩ := hcut
                      cases kq with
                      | zero => exact absurd HA.out (by simp [laws_FnShots.j4])
                      | succ kj30 =>
                        have H := HA.out
                        clear HA
                        simp only [laws_FnShots.j4] at H
                        have HC45 := Aside0.mk H
                        clear H
                        go_upto_region 23 with (fail)
                        go_cut [128] (fun v128 wc => ∃ (kq : Nat) (x128_44 : Bool), v128 = .bool x128_44 ∧ Aside0 (laws_FnShots.j5 kq t432 (t432.size : Int) (wrap64 (1 + t433)) t434 t436 t438 x14_2 x15_2 x16_2 x17_2 x18_20 x19_30 x128_44 = some r) ∧ Aside0 (kq ≤ kj30) ∧ Aside0 (Kd.R (Kd.int .i64) 2 wc w.heap.size (fun _ => True) v440 t438) ∧ Aside0 (Below w.heap.size w wc))
                        case first =>
                          have H := HC45.out
                          clear HC45
                          by_cases c46 : x18_20 = true
                          · subst c46
                            have H1 : (laws_FnShots.j5 kj30 t432 (t432.size : Int) (wrap64 (1 + t433)) t434 t436 t438 x14_2 x15_2 x16_2 x17_2 true x19_30 (x14_2 == 0)) = some r := by rw [if_pos rfl] at H; exact H
                            clear H
                            have H := H1
                            clear H1
                            have H' := Aside0.mk H
                            clear H
                            go_wp2
                            go_meet
                            case rel => exact ⟨_, ((x14_2 == 0)), (by first | rfl | (simp; done) | (simp [*]; done)), H', ⟨by have := HJ9.out; have := HK2.out; have := HJ20.out; have := HJ30.out; first | omega | exact Nat.le_refl _⟩, ⟨by (with_reducible repeat (first | apply Kd.R_alloc | apply Kd.R_drewN | apply Kd.R_drew)); exact HO_12.out⟩, ⟨by repeat (first | (with_reducible first | exact HB.out | apply below_alloc | apply pw_below_drewN | apply below_drew1) | exact HB.out)⟩⟩
                          · replace c46 := Bool.eq_false_iff.mpr c46
                            subst c46
                            have H1 : (laws_FnShots.j5 kj30 t432 (t432.size : Int) (wrap64 (1 + t433)) t434 t436 t438 x14_2 x15_2 x16_2 x17_2 false x19_30 false) = some r := by rw [if_neg (show ¬ (false = true) by decide)] at H; exact H
                            clear H
                            have H := H1
                            clear H1
                            have H' := Aside0.mk H
                            clear H
                            go_wp2
                            go_meet
                            case rel => exact ⟨_, (false), (by first | rfl | (simp; done) | (simp [*]; done)), H', ⟨by have := HJ9.out; have := HK2.out; have := HJ20.out; have := HJ30.out; first | omega | exact Nat.le_refl _⟩, ⟨by (with_reducible repeat (first | apply Kd.R_alloc | apply Kd.R_drewN | apply Kd.R_drew)); exact HO_12.out⟩, ⟨by repeat (first | (with_reducible first | exact HB.out | apply below_alloc | apply pw_below_drewN | apply below_drew1) | exact HB.out)⟩⟩
                        case rest =>
                          clear HC45
                          try clear c1
                          try clear c2
                          try clear p2
                          try clear q2
                          try clear hx2
                          try clear c3
                          try clear p3
                          try clear q3
                          try clear hx3
                          try clear c4
                          try clear p4
                          try clear q4
                          try clear hx4
                          try clear p6
                          try clear c10
                          try clear c15
                          try clear c16
                          try clear c17
                          try clear c18
                          try clear c18b0
                          try clear c18b1
                          try clear c18b2
                          try clear c19
                          try clear c20
                          try clear c20b0
                          try clear c22
                          try clear c22b0
                          try clear c23
                          try clear c23b0
                          try clear p24
                          try clear q24
                          try clear hx24
                          try clear c25
                          try clear c25b0
                          try clear c25b1
                          try clear c26
                          try clear c26b0
                          try clear c26b1
                          try clear c28
                          try clear c28b0
                          try clear c29
                          try clear c29b0
                          try clear p30
                          try clear q30
                          try clear hx30
                          try clear c31
                          try clear c32
                          try clear c32b0
                          try clear c33
                          try clear c33b0
                          try clear c34
                          try clear c36
                          try clear c36b0
                          try clear c37
                          try clear c37b0
                          try clear p38
                          try clear q38
                          try clear hx38
                          try clear c39
                          try clear c39b0
                          try clear c39b1
                          try clear c40
                          try clear c40b0
                          try clear c40b1
                          try clear c42
                          try clear c42b0
                          try clear c43
                          try clear c43b0
                          try clear p44
                          try clear q44
                          try clear hx44
                          try clear c46
                          try clear p2
                          try clear p24
                          try clear p3
                          try clear p30
                          try clear p38
                          try clear p4
                          try clear p44
                          try clear p6
                          try clear q2
                          try clear q24
                          try clear q3
                          try clear q30
                          try clear q38
                          try clear q4
                          try clear q44
                          obtain ⟨kq, x128_44, rfl, HA, HJ44, HO_12, HB⟩ := hcut
                          cases kq with
                          | zero => exact absurd HA.out (by simp [laws_FnShots.j5])
                          | succ kj44 =>
                            have H := HA.out
                            clear HA
                            simp only [laws_FnShots.j5] at H
                            have HC47 := Aside0.mk H
                            clear H
                            go_upto_if 128 with (fail)
                            go_cut [14] (fun v14 wc => ∃ (kq : Nat) (x14_46 : Int), v14 = .int .i64 x14_46 ∧ Aside0 (laws_FnShots.j6 kq t432 (t432.size : Int) (wrap64 (1 + t433)) t434 t436 t438 x14_46 x15_2 x16_2 x17_2 x18_20 x19_30 = some r) ∧ Aside0 (kq ≤ kj44) ∧ Aside0 (Kd.R (Kd.int .i64) 2 wc w.heap.size (fun _ => True) v440 t438) ∧ Aside0 (Below w.heap.size w wc))
                            case first =>
                              have H := HC47.out
                              clear HC47
                              by_cases c48 : x128_44 = true
                              · subst c48
                                have H1 : (laws_FnShots.j6 kj44 t432 (t432.size : Int) (wrap64 (1 + t433)) t434 t436 t438 (wrap64 (1 + t433)) x15_2 x16_2 x17_2 x18_20 x19_30) = some r := by rw [if_pos rfl] at H; exact H
                                clear H
                                have H := H1
                                clear H1
                                have H' := Aside0.mk H
                                clear H
                                go_wp2
                                go_meet
                                case rel => exact ⟨_, ((wrap64 (1 + t433))), (by first | rfl | (simp; done) | (simp [*]; done)), H', ⟨by have := HJ9.out; have := HK2.out; have := HJ20.out; have := HJ30.out; have := HJ44.out; first | omega | exact Nat.le_refl _⟩, ⟨by (with_reducible repeat (first | apply Kd.R_alloc | apply Kd.R_drewN | apply Kd.R_drew)); exact HO_12.out⟩, ⟨by repeat (first | (with_reducible first | exact HB.out | apply below_alloc | apply pw_below_drewN | apply below_drew1) | exact HB.out)⟩⟩
                              · replace c48 := Bool.eq_false_iff.mpr c48
                                subst c48
                                have H1 : (laws_FnShots.j6 kj44 t432 (t432.size : Int) (wrap64 (1 + t433)) t434 t436 t438 x14_2 x15_2 x16_2 x17_2 x18_20 x19_30) = some r := by rw [if_neg (show ¬ (false = true) by decide)] at H; exact H
                                clear H
                                have H := H1
                                clear H1
                                have H' := Aside0.mk H
                                clear H
                                go_wp2
                                go_meet
                                case rel => exact ⟨_, (x14_2), (by first | rfl | (simp; done) | (simp [*]; done)), H', ⟨by have := HJ9.out; have := HK2.out; have := HJ20.out; have := HJ30.out; have := HJ44.out; first | omega | exact Nat.le_refl _⟩, ⟨by (with_reducible repeat (first | apply Kd.R_alloc | apply Kd.R_drewN | apply Kd.R_drew)); exact HO_12.out⟩, ⟨by repeat (first | (with_reducible first | exact HB.out | apply below_alloc | apply pw_below_drewN | apply below_drew1) | exact HB.out)⟩⟩
                            case rest =>
                              clear HC47
                              try clear c1
                              try clear c2
                              try clear p2
                              try clear q2
                              try clear hx2
                              try clear c3
                              try clear p3
                              try clear q3
                              try clear hx3
                              try clear c4
                              try clear p4
                              try clear q4
                              try clear hx4
                              try clear p6
                              try clear c10
                              try clear c15
                              try clear c16
                              try clear c17
                              try clear c18
                              try clear c18b0
                              try clear c18b1
                              try clear c18b2
                              try clear c19
                              try clear c20
                              try clear c20b0
                              try clear c22
                              try clear c22b0
                              try clear c23
                              try clear c23b0
                              try clear p24
                              try clear q24
                              try clear hx24
                              try clear c25
                              try clear c25b0
                              try clear c25b1
                              try clear c26
                              try clear c26b0
                              try clear c26b1
                              try clear c28
                              try clear c28b0
                              try clear c29
                              try clear c29b0
                              try clear p30
                              try clear q30
                              try clear hx30
                              try clear c31
                              try clear c32
                              try clear c32b0
                              try clear c33
                              try clear c33b0
                              try clear c34
                              try clear c36
                              try clear c36b0
                              try clear c37
                              try clear c37b0
                              try clear p38
                              try clear q38
                              try clear hx38
                              try clear c39
                              try clear c39b0
                              try clear c39b1
                              try clear c40
                              try clear c40b0
                              try clear c40b1
                              try clear c42
                              try clear c42b0
                              try clear c43
                              try clear c43b0
                              try clear p44
                              try clear q44
                              try clear hx44
                              try clear c46
                              try clear c48
                              try clear p2
                              try clear p24
                              try clear p3
                              try clear p30
                              try clear p38
                              try clear p4
                              try clear p44
                              try clear p6
                              try clear q2
                              try clear q24
                              try clear q3
                              try clear q30
                              try clear q38
                              try clear q4
                              try clear q44
                              obtain ⟨kq, x14_46, rfl, HA, HJ46, HO_12, HB⟩ := hcut
                              cases kq with
                              | zero => exact absurd HA.out (by simp [laws_FnShots.j6])
                              | succ kj46 =>
                                have H := HA.out
                                clear HA
                                simp only [laws_FnShots.j6] at H
                                have HC49 := Aside0.mk H
                                clear H
                                go_upto_region 25 with (fail)
                                go_cut [144] (fun v144 wc => ∃ (kq : Nat) (x144_48 : Bool), v144 = .bool x144_48 ∧ Aside0 (laws_FnShots.j7 kq t432 (t432.size : Int) (wrap64 (1 + t433)) t434 t436 t438 x14_46 x15_2 x16_2 x17_2 x18_20 x144_48 = some r) ∧ Aside0 (kq ≤ kj46) ∧ Aside0 (Kd.R (Kd.int .i64) 2 wc w.heap.size (fun _ => True) v440 t438) ∧ Aside0 (Below w.heap.size w wc))
                                case first =>
                                  have H := HC49.out
                                  clear HC49
                                  by_cases c50 : 0 ≤ x17_2
                                  · rw [if_pos c50] at H
                                    have c50b0 : decide (0 ≤ x17_2) = true := decide_eq_true c50
                                    clear c50
                                    (first | rw [c50b0] | (simp only [i64_w, i32_w]; rw [c50b0]) | skip)
                                    by_cases c51 : x17_2 < (t434.size : Int)
                                    · rw [if_pos c51] at H
                                      have c51b0 : decide (x17_2 < (t434.size : Int)) = true := decide_eq_true c51
                                      clear c51
                                      by_cases c53 : (((bt t434 x17_2) == 49) != (decide (x14_46 > 0))) = true
                                      · rw [if_pos c53] at H
                                        have c53b0 : (((bt t434 x17_2) == 49) != (decide (x14_46 > 0))) = true := c53
                                        (try (have c53b1 : decide (((bt t434 x17_2) == 49) = (decide (x14_46 > 0))) = false := by simpa using c53))
                                        (try (have c53b2 : (((bt t434 x17_2) == 49) == (decide (x14_46 > 0))) = false := by simpa using c53))
                                        (try (have c53b3 : ¬ (((bt t434 x17_2) == 49) = (decide (x14_46 > 0))) := by simpa using c53))
                                        clear c53
                                        have H' := Aside0.mk H
                                        clear H
                                        have p52 : 0 ≤ (x17_2 : Int) := of_decide_eq_true (by first | (with_reducible assumption) | assumption)
                                        have q52 : x17_2 < (t434.size : Int) := of_decide_eq_true (by first | (with_reducible assumption) | assumption)
                                        have hx52 := bt_at t434 x17_2
                                        replace p52 := eq_true p52
                                        replace q52 := eq_true q52
                                        go_wp2
                                        go_meet
                                        case rel => exact ⟨_, (true), (by first | rfl | (simp; done) | (simp [*]; done)), H', ⟨by have := HJ9.out; have := HK2.out; have := HJ20.out; have := HJ30.out; have := HJ44.out; have := HJ46.out; first | omega | exact Nat.le_refl _⟩, ⟨by (with_reducible repeat (first | apply Kd.R_alloc | apply Kd.R_drewN | apply Kd.R_drew)); exact HO_12.out⟩, ⟨by repeat (first | (with_reducible first | exact HB.out | apply below_alloc | apply pw_below_drewN | apply below_drew1) | exact HB.out)⟩⟩
                                      · rw [if_neg c53] at H
                                        have c53b0 : (((bt t434 x17_2) == 49) != (decide (x14_46 > 0))) = false := by simpa using c53
                                        (try (have c53b1 : decide (((bt t434 x17_2) == 49) = (decide (x14_46 > 0))) = true := by simpa using c53))
                                        (try (have c53b2 : (((bt t434 x17_2) == 49) == (decide (x14_46 > 0))) = true := by simpa using c53))
                                        clear c53
                                        by_cases c54 : x17_2 < (t436.size : Int)
                                        · rw [if_pos c54] at H
                                          have c54b0 : decide (x17_2 < (t436.size : Int)) = true := decide_eq_true c54
                                          clear c54
                                          have H' := Aside0.mk H
                                          clear H
                                          have p52 : 0 ≤ (x17_2 : Int) := of_decide_eq_true (by first | (with_reducible assumption) | assumption)
                                          have q52 : x17_2 < (t434.size : Int) := of_decide_eq_true (by first | (with_reducible assumption) | assumption)
                                          have hx52 := bt_at t434 x17_2
                                          replace p52 := eq_true p52
                                          replace q52 := eq_true q52
                                          have p55 : 0 ≤ (x17_2 : Int) := of_decide_eq_true (by first | (with_reducible assumption) | assumption)
                                          have q55 : x17_2 < (t436.size : Int) := of_decide_eq_true (by first | (with_reducible assumption) | assumption)
                                          have hx55 := bt_at t436 x17_2
                                          replace p55 := eq_true p55
                                          replace q55 := eq_true q55
                                          go_wp2
                                          go_meet
                                          case rel => exact ⟨_, ((((bt t436 x17_2) == 49) != x19_30)), (by first | rfl | (simp; done) | (simp [*]; done)), H', ⟨by have := HJ9.out; have := HK2.out; have := HJ20.out; have := HJ30.out; have := HJ44.out; have := HJ46.out; first | omega | exact Nat.le_refl _⟩, ⟨by (with_reducible repeat (first | apply Kd.R_alloc | apply Kd.R_drewN | apply Kd.R_drew)); exact HO_12.out⟩, ⟨by repeat (first | (with_reducible first | exact HB.out | apply below_alloc | apply pw_below_drewN | apply below_drew1) | exact HB.out)⟩⟩
                                        · rw [if_neg c54] at H
                                          exact absurd H (by simp)
                                    · rw [if_neg c51] at H
                                      exact absurd H (by simp)
                                  · rw [if_neg c50] at H
                                    exact absurd H (by simp)
                                case rest =>
                                  clear HC49
                                  try clear c1
                                  try clear c2
                                  try clear p2
                                  try clear q2
                                  try clear hx2
                                  try clear c3
                                  try clear p3
                                  try clear q3
                                  try clear hx3
                                  try clear c4
                                  try clear p4
                                  try clear q4
                                  try clear hx4
                                  try clear c5
                                  try clear p5
                                  try clear q5
                                  try clear hx5
                                  try clear p6
                                  try clear c10
                                  try clear c15
                                  try clear c16
                                  try clear c17
                                  try clear c18
                                  try clear c18b0
                                  try clear c18b1
                                  try clear c18b2
                                  try clear c19
                                  try clear c20
                                  try clear c20b0
                                  try clear c22
                                  try clear c22b0
                                  try clear c23
                                  try clear c23b0
                                  try clear p24
                                  try clear q24
                                  try clear hx24
                                  try clear c25
                                  try clear c25b0
                                  try clear c25b1
                                  try clear c26
                                  try clear c26b0
                                  try clear c26b1
                                  try clear c28
                                  try clear c28b0
                                  try clear c29
                                  try clear c29b0
                                  try clear p30
                                  try clear q30
                                  try clear hx30
                                  try clear c31
                                  try clear c32
                                  try clear c32b0
                                  try clear c33
                                  try clear c33b0
                                  try clear c34
                                  try clear c36
                                  try clear c36b0
                                  try clear c37
                                  try clear c37b0
                                  try clear p38
                                  try clear q38
                                  try clear hx38
                                  try clear c39
                                  try clear c39b0
                                  try clear c39b1
                                  try clear c40
                                  try clear c40b0
                                  try clear c40b1
                                  try clear c42
                                  try clear c42b0
                                  try clear c43
                                  try clear c43b0
                                  try clear p44
                                  try clear q44
                                  try clear hx44
                                  try clear c46
                                  try clear c48
                                  try clear c50
                                  try clear c50b0
                                  try clear c51
                                  try clear c51b0
                                  try clear p52
                                  try clear q52
                                  try clear hx52
                                  try clear c53
                                  try clear c53b0
                                  try clear c53b1
                                  try clear c53b2
                                  try clear c54
                                  try clear c54b0
                                  try clear p55
                                  try clear q55
                                  try clear hx55
                                  try clear p2
                                  try clear p24
                                  try clear p3
                                  try clear p30
                                  try clear p38
                                  try clear p4
                                  try clear p44
                                  try clear p52
                                  try clear p55
                                  try clear p6
                                  try clear q2
                                  try clear q24
                                  try clear q3
                                  try clear q30
                                  try clear q38
                                  try clear q4
                                  try clear q44
                                  try clear q52
                                  try clear q55
                                  obtain ⟨kq, x144_48, rfl, HA, HJ48, HO_12, HB⟩ := hcut
                                  cases kq with
                                  | zero => exact absurd HA.out (by simp [laws_FnShots.j7])
                                  | succ kj48 =>
                                    have H := HA.out
                                    clear HA
                                    simp only [laws_FnShots.j7] at H
                                    by_cases c56 : x144_48 = true
                                    · subst c56
                                      have H1 : (some false) = some r := by rw [if_pos rfl] at H; exact H
                                      clear H
                                      have H := H1
                                      clear H1
                                      obtain rfl := Option.some.inj H
                                      go_wp2
                                      go_ret
                                      exact ⟨by first | rfl | (simp [errW_none, errW_some] <;> rfl) | (simp [*, errW_none, errW_some] <;> rfl), by repeat (first | (with_reducible first | exact HB.out | apply below_alloc | apply pw_below_drewN | apply below_drew1) | exact HB.out)⟩
                                    · replace c56 := Bool.eq_false_iff.mpr c56
                                      subst c56
                                      have H1 : (if x14_46 > 0 then (laws_FnShots.j8 kj48 t432 (t432.size : Int) (wrap64 (1 + t433)) t434 t436 t438 (wrap64 (x14_46 - 1)) x15_2 x16_2 x17_2 x18_20) else (laws_FnShots.j8 kj48 t432 (t432.size : Int) (wrap64 (1 + t433)) t434 t436 t438 x14_46 x15_2 x16_2 x17_2 x18_20)) = some r := by rw [if_neg (show ¬ (false = true) by decide)] at H; exact H
                                      clear H
                                      have H := H1
                                      clear H1
                                      have HC57 := Aside0.mk H
                                      clear H
                                      go_upto_if 146 with (fail)
                                      go_cut [14] (fun v14 wc => ∃ (kq : Nat) (x14_56 : Int), v14 = .int .i64 x14_56 ∧ Aside0 (laws_FnShots.j8 kq t432 (t432.size : Int) (wrap64 (1 + t433)) t434 t436 t438 x14_56 x15_2 x16_2 x17_2 x18_20 = some r) ∧ Aside0 (kq ≤ kj48) ∧ Aside0 (Kd.R (Kd.int .i64) 2 wc w.heap.size (fun _ => True) v440 t438) ∧ Aside0 (Below w.heap.size w wc))
                                      case first =>
                                        have H := HC57.out
                                        clear HC57
                                        by_cases c58 : x14_46 > 0
                                        · rw [if_pos c58] at H
                                          have c58b0 : decide (0 < x14_46) = true := decide_eq_true c58
                                          clear c58
                                          (first | rw [c58b0] | (simp only [i64_w, i32_w]; rw [c58b0]) | skip)
                                          have H' := Aside0.mk H
                                          clear H
                                          go_wp2
                                          go_meet
                                          case rel => exact ⟨_, (wrap64 (x14_46 - 1)), (by first | rfl | (simp; done) | (simp [*]; done)), H', ⟨by have := HJ9.out; have := HK2.out; have := HJ20.out; have := HJ30.out; have := HJ44.out; have := HJ46.out; have := HJ48.out; first | omega | exact Nat.le_refl _⟩, ⟨by (with_reducible repeat (first | apply Kd.R_alloc | apply Kd.R_drewN | apply Kd.R_drew)); exact HO_12.out⟩, ⟨by repeat (first | (with_reducible first | exact HB.out | apply below_alloc | apply pw_below_drewN | apply below_drew1) | exact HB.out)⟩⟩
                                        · rw [if_neg c58] at H
                                          have c58b0 : decide (0 < x14_46) = false := decide_eq_false c58
                                          clear c58
                                          (first | rw [c58b0] | (simp only [i64_w, i32_w]; rw [c58b0]) | skip)
                                          have H' := Aside0.mk H
                                          clear H
                                          go_wp2
                                          go_meet
                                          case rel => exact ⟨_, (x14_46), (by first | rfl | (simp; done) | (simp [*]; done)), H', ⟨by have := HJ9.out; have := HK2.out; have := HJ20.out; have := HJ30.out; have := HJ44.out; have := HJ46.out; have := HJ48.out; first | omega | exact Nat.le_refl _⟩, ⟨by (with_reducible repeat (first | apply Kd.R_alloc | apply Kd.R_drewN | apply Kd.R_drew)); exact HO_12.out⟩, ⟨by repeat (first | (with_reducible first | exact HB.out | apply below_alloc | apply pw_below_drewN | apply below_drew1) | exact HB.out)⟩⟩
                                      case rest =>
                                        clear HC57
                                        try clear c1
                                        try clear c2
                                        try clear p2
                                        try clear q2
                                        try clear hx2
                                        try clear c3
                                        try clear p3
                                        try clear q3
                                        try clear hx3
                                        try clear c4
                                        try clear p4
                                        try clear q4
                                        try clear hx4
                                        try clear c5
                                        try clear p5
                                        try clear q5
                                        try clear hx5
                                        try clear p6
                                        try clear c10
                                        try clear c15
                                        try clear c16
                                        try clear c17
                                        try clear c18
                                        try clear c18b0
                                        try clear c18b1
                                        try clear c18b2
                                        try clear c19
                                        try clear c20
                                        try clear c20b0
                                        try clear c22
                                        try clear c22b0
                                        try clear c23
                                        try clear c23b0
                                        try clear p24
                                        try clear q24
                                        try clear hx24
                                        try clear c25
                                        try clear c25b0
                                        try clear c25b1
                                        try clear c26
                                        try clear c26b0
                                        try clear c26b1
                                        try clear c28
                                        try clear c28b0
                                        try clear c29
                                        try clear c29b0
                                        try clear p30
                                        try clear q30
                                        try clear hx30
                                        try clear c31
                                        try clear c32
                                        try clear c32b0
                                        try clear c33
                                        try clear c33b0
                                        try clear c34
                                        try clear c36
                                        try clear c36b0
                                        try clear c37
                                        try clear c37b0
                                        try clear p38
                                        try clear q38
                                        try clear hx38
                                        try clear c39
                                        try clear c39b0
                                        try clear c39b1
                                        try clear c40
                                        try clear c40b0
                                        try clear c40b1
                                        try clear c42
                                        try clear c42b0
                                        try clear c43
                                        try clear c43b0
                                        try clear p44
                                        try clear q44
                                        try clear hx44
                                        try clear c46
                                        try clear c48
                                        try clear c50
                                        try clear c50b0
                                        try clear c51
                                        try clear c51b0
                                        try clear p52
                                        try clear q52
                                        try clear hx52
                                        try clear c53
                                        try clear c53b0
                                        try clear c53b1
                                        try clear c53b2
                                        try clear c54
                                        try clear c54b0
                                        try clear p55
                                        try clear q55
                                        try clear hx55
                                        try clear c56
                                        try clear c58
                                        try clear c58b0
                                        try clear p2
                                        try clear p24
                                        try clear p3
                                        try clear p30
                                        try clear p38
                                        try clear p4
                                        try clear p44
                                        try clear p5
                                        try clear p52
                                        try clear p55
                                        try clear p6
                                        try clear q2
                                        try clear q24
                                        try clear q3
                                        try clear q30
                                        try clear q38
                                        try clear q4
                                        try clear q44
                                        try clear q5
                                        try clear q52
                                        try clear q55
                                        obtain ⟨kq, x14_56, rfl, HA, HJ56, HO_12, HB⟩ := hcut
                                        cases kq with
                                        | zero => exact absurd HA.out (by simp [laws_FnShots.j8])
                                        | succ kj56 =>
                                          have H := HA.out
                                          clear HA
                                          simp only [laws_FnShots.j8] at H
                                          have HC59 := Aside0.mk H
                                          clear H
                                          go_upto_if 151 with (fail)
                                          go_cut [15] (fun v15 wc => ∃ (kq : Nat) (x15_58 : Int), v15 = .int .i64 x15_58 ∧ Aside0 (laws_FnShots.j9 kq t432 (t432.size : Int) (wrap64 (1 + t433)) t434 t436 t438 x14_56 x15_58 x16_2 x17_2 = some r) ∧ Aside0 (kq ≤ kj56) ∧ Aside0 (Kd.R (Kd.int .i64) 2 wc w.heap.size (fun _ => True) v440 t438) ∧ Aside0 (Below w.heap.size w wc))
                                          case first =>
                                            have H := HC59.out
                                            clear HC59
                                            by_cases c60 : x18_20 = true
                                            · subst c60
                                              have H1 : (laws_FnShots.j9 kj56 t432 (t432.size : Int) (wrap64 (1 + t433)) t434 t436 t438 x14_56 0 x16_2 x17_2) = some r := by rw [if_pos rfl] at H; exact H
                                              clear H
                                              have H := H1
                                              clear H1
                                              have H' := Aside0.mk H
                                              clear H
                                              go_wp2
                                              go_meet
                                              case rel => exact ⟨_, (0), (by first | rfl | (simp; done) | (simp [*]; done)), H', ⟨by have := HJ9.out; have := HK2.out; have := HJ20.out; have := HJ30.out; have := HJ44.out; have := HJ46.out; have := HJ48.out; have := HJ56.out; first | omega | exact Nat.le_refl _⟩, ⟨by (with_reducible repeat (first | apply Kd.R_alloc | apply Kd.R_drewN | apply Kd.R_drew)); exact HO_12.out⟩, ⟨by repeat (first | (with_reducible first | exact HB.out | apply below_alloc | apply pw_below_drewN | apply below_drew1) | exact HB.out)⟩⟩
                                            · replace c60 := Bool.eq_false_iff.mpr c60
                                              subst c60
                                              have H1 : (laws_FnShots.j9 kj56 t432 (t432.size : Int) (wrap64 (1 + t433)) t434 t436 t438 x14_56 (wrap64 (x15_2 + 1)) x16_2 x17_2) = some r := by rw [if_neg (show ¬ (false = true) by decide)] at H; exact H
                                              clear H
                                              have H := H1
                                              clear H1
                                              have H' := Aside0.mk H
                                              clear H
                                              go_wp2
                                              go_meet
                                              case rel => exact ⟨_, (wrap64 (x15_2 + 1)), (by first | rfl | (simp; done) | (simp [*]; done)), H', ⟨by have := HJ9.out; have := HK2.out; have := HJ20.out; have := HJ30.out; have := HJ44.out; have := HJ46.out; have := HJ48.out; have := HJ56.out; first | omega | exact Nat.le_refl _⟩, ⟨by (with_reducible repeat (first | apply Kd.R_alloc | apply Kd.R_drewN | apply Kd.R_drew)); exact HO_12.out⟩, ⟨by repeat (first | (with_reducible first | exact HB.out | apply below_alloc | apply pw_below_drewN | apply below_drew1) | exact HB.out)⟩⟩
                                          case rest =>
                                            clear HC59
                                            try clear c1
                                            try clear c2
                                            try clear p2
                                            try clear q2
                                            try clear hx2
                                            try clear c3
                                            try clear p3
                                            try clear q3
                                            try clear hx3
                                            try clear c4
                                            try clear p4
                                            try clear q4
                                            try clear hx4
                                            try clear c5
                                            try clear p5
                                            try clear q5
                                            try clear hx5
                                            try clear c6
                                            try clear p6
                                            try clear c10
                                            try clear c15
                                            try clear c16
                                            try clear c17
                                            try clear c18
                                            try clear c18b0
                                            try clear c18b1
                                            try clear c18b2
                                            try clear c19
                                            try clear c20
                                            try clear c20b0
                                            try clear c22
                                            try clear c22b0
                                            try clear c23
                                            try clear c23b0
                                            try clear p24
                                            try clear q24
                                            try clear hx24
                                            try clear c25
                                            try clear c25b0
                                            try clear c25b1
                                            try clear c26
                                            try clear c26b0
                                            try clear c26b1
                                            try clear c28
                                            try clear c28b0
                                            try clear c29
                                            try clear c29b0
                                            try clear p30
                                            try clear q30
                                            try clear hx30
                                            try clear c31
                                            try clear c32
                                            try clear c32b0
                                            try clear c33
                                            try clear c33b0
                                            try clear c34
                                            try clear c36
                                            try clear c36b0
                                            try clear c37
                                            try clear c37b0
                                            try clear p38
                                            try clear q38
                                            try clear hx38
                                            try clear c39
                                            try clear c39b0
                                            try clear c39b1
                                            try clear c40
                                            try clear c40b0
                                            try clear c40b1
                                            try clear c42
                                            try clear c42b0
                                            try clear c43
                                            try clear c43b0
                                            try clear p44
                                            try clear q44
                                            try clear hx44
                                            try clear c46
                                            try clear c48
                                            try clear c50
                                            try clear c50b0
                                            try clear c51
                                            try clear c51b0
                                            try clear p52
                                            try clear q52
                                            try clear hx52
                                            try clear c53
                                            try clear c53b0
                                            try clear c53b1
                                            try clear c53b2
                                            try clear c54
                                            try clear c54b0
                                            try clear p55
                                            try clear q55
                                            try clear hx55
                                            try clear c56
                                            try clear c58
                                            try clear c58b0
                                            try clear c60
                                            try clear p2
                                            try clear p24
                                            try clear p3
                                            try clear p30
                                            try clear p38
                                            try clear p4
                                            try clear p44
                                            try clear p5
                                            try clear p52
                                            try clear p55
                                            try clear p6
                                            try clear q2
                                            try clear q24
                                            try clear q3
                                            try clear q30
                                            try clear q38
                                            try clear q4
                                            try clear q44
                                            try clear q5
                                            try clear q52
                                            try clear q55
                                            obtain ⟨kq, x15_58, rfl, HA, HJ58, HO_12, HB⟩ := hcut
                                            cases kq with
                                            | zero => exact absurd HA.out (by simp [laws_FnShots.j9])
                                            | succ kj58 =>
                                              have H := HA.out
                                              clear HA
                                              simp only [laws_FnShots.j9] at H
                                              by_cases c61 : x15_58 = (wrap64 (1 + t433))
                                              · rw [if_pos c61] at H
                                                have c61b0 : (x15_58 == (wrap64 (1 + t433))) = true := beq_iff_eq.mpr c61
                                                have c61b1 : (x15_58 != (wrap64 (1 + t433))) = false := bne_eq_false_iff_eq.mpr c61
                                                clear c61
                                                by_cases c62 : x16_2 ≥ (t438.length : Int)
                                                · rw [if_pos c62] at H
                                                  have c62b0 : decide ((t438.length : Int) ≤ x16_2) = true := decide_eq_true c62
                                                  clear c62
                                                  obtain rfl := Option.some.inj H
                                                  obtain ⟨Ao63, co63, eo63⟩ := Kd.R_slice HO_12.out
                                                  subst eo63
                                                  go_wp2
                                                  go_ret
                                                  exact ⟨by first | rfl | (simp [errW_none, errW_some] <;> rfl) | (simp [*, errW_none, errW_some] <;> rfl), by repeat (first | (with_reducible first | exact HB.out | apply below_alloc | apply pw_below_drewN | apply below_drew1) | exact HB.out)⟩
                                                · rw [if_neg c62] at H
                                                  have c62b0 : decide ((t438.length : Int) ≤ x16_2) = false := decide_eq_false c62
                                                  clear c62
                                                  by_cases c64 : 0 ≤ x16_2
                                                  · rw [if_pos c64] at H
                                                    have c64b0 : decide (0 ≤ x16_2) = true := decide_eq_true c64
                                                    clear c64
                                                    by_cases c65 : x16_2 < (t438.length : Int)
                                                    · rw [if_pos c65] at H
                                                      have c65b0 : decide (x16_2 < (t438.length : Int)) = true := decide_eq_true c65
                                                      clear c65
                                                      by_cases c66 : (rd t438 x16_2) = x17_2
                                                      · rw [if_pos c66] at H
                                                        have c66b0 : ((rd t438 x16_2) == x17_2) = true := beq_iff_eq.mpr c66
                                                        have c66b1 : ((rd t438 x16_2) != x17_2) = false := bne_eq_false_iff_eq.mpr c66
                                                        clear c66
                                                        have H' := Aside0.mk H
                                                        clear H
                                                        obtain ⟨Ao67, co67, eo67⟩ := Kd.R_slice HO_12.out
                                                        subst eo67
                                                        have p442 : 0 ≤ (x16_2 : Int) := of_decide_eq_true (by first | (with_reducible assumption) | assumption)
                                                        have q442 : x16_2 < (t438.length : Int) := of_decide_eq_true (by first | (with_reducible assumption) | assumption)
                                                        obtain ⟨ad442, e442, hx442_0⟩ := Kd.at_int (Kd.R_reads' HO_12.out).2.2 x16_2 p442 q442
                                                        cases e442
                                                        replace p442 := eq_true p442
                                                        replace q442 := eq_true q442
                                                        go_wp2
                                                        go_roundg kj58
                                                        case measure => have := HJ9.out; have := HK2.out; have := HJ20.out; have := HJ30.out; have := HJ44.out; have := HJ46.out; have := HJ48.out; have := HJ56.out; have := HJ58.out; omega
                                                        case rel => exact ⟨(x14_56), (x15_58), (wrap64 (x16_2 + 1)), (wrap64 (x17_2 + 1)), (by first | rfl | (simp; done) | (simp [*]; done)), (by first | rfl | (simp; done) | (simp [*]; done)), (by first | rfl | (simp; done) | (simp [*]; done)), (by first | rfl | (simp; done) | (simp [*]; done)), H', ⟨by have := HJ9.out; have := HK2.out; have := HJ20.out; have := HJ30.out; have := HJ44.out; have := HJ46.out; have := HJ48.out; have := HJ56.out; have := HJ58.out; omega⟩, ⟨by (with_reducible repeat (first | apply Kd.R_alloc | apply Kd.R_drewN | apply Kd.R_drew)); exact HO_12.out⟩, ⟨by repeat (first | (with_reducible first | exact HB.out | apply below_alloc | apply pw_below_drewN | apply below_drew1) | exact HB.out)⟩⟩
                                                      · rw [if_neg c66] at H
                                                        have c66b0 : ((rd t438 x16_2) == x17_2) = false := beq_eq_false_iff_ne.mpr c66
                                                        have c66b1 : ((rd t438 x16_2) != x17_2) = true := bne_iff_ne.mpr c66
                                                        obtain rfl := Option.some.inj H
                                                        obtain ⟨Ao68, co68, eo68⟩ := Kd.R_slice HO_12.out
                                                        subst eo68
                                                        have p442 : 0 ≤ (x16_2 : Int) := of_decide_eq_true (by first | (with_reducible assumption) | assumption)
                                                        have q442 : x16_2 < (t438.length : Int) := of_decide_eq_true (by first | (with_reducible assumption) | assumption)
                                                        obtain ⟨ad442, e442, hx442_0⟩ := Kd.at_int (Kd.R_reads' HO_12.out).2.2 x16_2 p442 q442
                                                        cases e442
                                                        replace p442 := eq_true p442
                                                        replace q442 := eq_true q442
                                                        go_wp2
                                                        go_ret
                                                        exact ⟨by first | rfl | (simp [errW_none, errW_some] <;> rfl) | (simp [*, errW_none, errW_some] <;> rfl), by repeat (first | (with_reducible first | exact HB.out | apply below_alloc | apply pw_below_drewN | apply below_drew1) | exact HB.out)⟩
                                                    · rw [if_neg c65] at H
                                                      exact absurd H (by simp)
                                                  · rw [if_neg c64] at H
                                                    exact absurd H (by simp)
                                              · rw [if_neg c61] at H
                                                have c61b0 : (x15_58 == (wrap64 (1 + t433))) = false := beq_eq_false_iff_ne.mpr c61
                                                have c61b1 : (x15_58 != (wrap64 (1 + t433))) = true := bne_iff_ne.mpr c61
                                                have H' := Aside0.mk H
                                                clear H
                                                go_wp2
                                                go_roundg kj58
                                                case measure => have := HJ9.out; have := HK2.out; have := HJ20.out; have := HJ30.out; have := HJ44.out; have := HJ46.out; have := HJ48.out; have := HJ56.out; have := HJ58.out; omega
                                                case rel => exact ⟨(x14_56), (x15_58), (x16_2), (wrap64 (x17_2 + 1)), (by first | rfl | (simp; done) | (simp [*]; done)), (by first | rfl | (simp; done) | (simp [*]; done)), (by first | rfl | (simp; done) | (simp [*]; done)), (by first | rfl | (simp; done) | (simp [*]; done)), H', ⟨by have := HJ9.out; have := HK2.out; have := HJ20.out; have := HJ30.out; have := HJ44.out; have := HJ46.out; have := HJ48.out; have := HJ56.out; have := HJ58.out; omega⟩, ⟨by (with_reducible repeat (first | apply Kd.R_alloc | apply Kd.R_drewN | apply Kd.R_drew)); exact HO_12.out⟩, ⟨by repeat (first | (with_reducible first | exact HB.out | apply below_alloc | apply pw_below_drewN | apply below_drew1) | exact HB.out)⟩⟩
              · rw [if_neg c20] at H
                have c20b0 : decide (x17_2 < (t432.size : Int)) = false := decide_eq_false c20
                clear c20
                obtain rfl := Option.some.inj H
                obtain ⟨Ao69, co69, eo69⟩ := Kd.R_slice HO_12.out
                subst eo69
                go_wp2
                go_ret
                exact ⟨by first | rfl | (simp [errW_none, errW_some] <;> rfl) | (simp [*, errW_none, errW_some] <;> rfl), by repeat (first | (with_reducible first | exact HB.out | apply below_alloc | apply pw_below_drewN | apply below_drew1) | exact HB.out)⟩

/-- THE ONE PURE STATEMENT of laws_FnShots: yours. -/
def laws_FnShots.Pure : Prop := ∀ (l0 : List Int) (l1 : List Int), l0.length ≤ maxLen → l0.length * 1 ≤ 140737488351232 → (∀ x ∈ l0, (Lit.int .u8 x).wf = true) → l1.length ≤ maxLen → l1.length * 1 ≤ 140737488351232 → (∀ x ∈ l1, (Lit.int .u8 x).wf = true) → ∃ k, laws_FnShots.f k l0 l1 = some true
theorem laws_FnShots.walk (P : laws_FnShots.Pure) (a0 : Option Addr) (len0 cap0 : Nat) (z0 : List Int) (a1 : Option Addr) (len1 cap1 : Nat) (z1 : List Int) (w : World) (w0 : (a0 = none ∧ len0 = 0 ∧ cap0 = 0 ∧ z0 = []) ∨ ∃ x, a0 = some x ∧ len0 ≤ cap0 ∧ cap0 ≤ maxLen ∧ z0.length = cap0 ∧ (∀ i, i < z0.length → w.cell? (x.add i) = some (.int .u8 (z0.getD i 0))) ∧ ∀ n ∈ z0, (Lit.int .u8 n).wf = true) (y0 : len0 * 1 ≤ 140737488351232) (w1 : (a1 = none ∧ len1 = 0 ∧ cap1 = 0 ∧ z1 = []) ∨ ∃ x, a1 = some x ∧ len1 ≤ cap1 ∧ cap1 ≤ maxLen ∧ z1.length = cap1 ∧ (∀ i, i < z1.length → w.cell? (x.add i) = some (.int .u8 (z1.getD i 0))) ∧ ∀ n ∈ z1, (Lit.int .u8 n).wf = true) (y1 : len1 * 1 ≤ 140737488351232) :
    Calls Tryd.prog 10 #[.slice a0 len0 cap0, .slice a1 len1 cap1] w fun e w' => e = .returned (.bool true) ∧ Below w.heap.size w w' := by
  obtain ⟨l0, rfl, hr0, hm0, hw0, hc0⟩ := ReadsInt.ofRowC w0
  obtain ⟨l1, rfl, hr1, hm1, hw1, hc1⟩ := ReadsInt.ofRowC w1
  obtain ⟨k, h⟩ := P l0 l1 hm0 y0 hw0 hm1 y1 hw1
  refine (laws_FnShots.calls k _ _ l0 _ _ l1 true w (Kd.C_of_reads (d := (0 : Int)) (h1 := fun _ => rfl) hr0) hc0 (Kd.C_of_reads (d := (0 : Int)) (h1 := fun _ => rfl) hr1) hc1 h).mono ?_
  rintro e w' ⟨rfl, hd⟩
  exact ⟨rfl, hd⟩

end Go.Proofs.YtcpfkfaiakpfjaaDoor.X

