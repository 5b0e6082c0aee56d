/- My own texts of this seat, merged: Xp7. Conditions: as each lemma says. -/
import Derived.Test.YtnpgmkikdnlnaaaH0
import Derived.Test.YtnpgmkikdnlnaaaH1
import Derived.Test.YtnpgmkikdnlnaaaH2
import Derived.Test.YtnpgmkikdnlnaaaH3
-- Written by a program of this session out of the kit's print of the loaded functions: a plain function of a Go function, and its contract.
namespace Go.Proofs.Ytnpgmkikdnlnaaa.X
open Go.RowKit Go.Proofs.YtnpgmkikdnlnaaaW.PrintWords Go.Proofs.YtnpgmkikdnlnaaaW.PrintLast Go.Proofs.YtnpgmkikdnlnaaaW.PrintMore
attribute [local go_sem] max2_int min2_int max_two min_two max_three min_three max_four min_four   -- for this text's walks alone
set_option linter.unusedVariables false
set_option linter.unusedSimpArgs false

/-! ### laws_FnKnownCounters: function 7 -/
mutual
def laws_FnKnownCounters.j0 : Nat → List Int → Int → Int → Int → Bool → Int → List Int → Int → List Int → Int → List Int → Int → List Int → Option (Bool)
  | 0, _, _, _, _, _, _, _, _, _, _, _, _, _ => none
  | k + 1, x1, x5, x6, x13, x84, x372000, x372001, x378000, x378001, x384000, x384001, x391000, x391001 => if x84 = true then (some false) else ((impl_StateAfter.f k x372000 x372001 1 x5).bind fun bt391 => ((impl_StateAfter.f k x378000 x378001 0 (wrap64 (2 * x5))).bind fun bt393 => ((impl_StateAfter.f k x378000 x378001 0 x5).bind fun bt395 => ((impl_MostChanged.f k x384000 x384001 0).bind fun bt397 => ((impl_RingsOf.f k x384000 x384001).bind fun bt399 => ((impl_StateAfter.f k x391000 x391001 0 x13).bind fun bt403 => (if bt391.2 = true then (if bt393.2 = true then (if bt395.2 = true then (if bt397.2 = true then (if bt399.2 = true then (if bt403.2 = true then (if bt391.1 = 1 then (if bt393.1 = 0 then (if bt395.1 = (wrap64 (x6 - 1)) then (if bt397.1 = 1 then (if (bt399.1.length : Int) = 1 then (if 0 < (bt399.1.length : Int) then (if ((rd_L2 bt399.1 0).length : Int) = x6 then (if bt403.1 = 0 then ((impl_IsSelfStarting.f k x391000 x391001 0).bind fun t406 => (laws_FnKnownCounters.j1 k x1 x5 x6 (!t406) x384000 x384001)) else (laws_FnKnownCounters.j1 k x1 x5 x6 true x384000 x384001)) else (laws_FnKnownCounters.j1 k x1 x5 x6 true x384000 x384001)) else (none)) else (laws_FnKnownCounters.j1 k x1 x5 x6 true x384000 x384001)) else (laws_FnKnownCounters.j1 k x1 x5 x6 true x384000 x384001)) else (laws_FnKnownCounters.j1 k x1 x5 x6 true x384000 x384001)) else (laws_FnKnownCounters.j1 k x1 x5 x6 true x384000 x384001)) else (laws_FnKnownCounters.j1 k x1 x5 x6 true x384000 x384001)) else (laws_FnKnownCounters.j1 k x1 x5 x6 true x384000 x384001)) else (laws_FnKnownCounters.j1 k x1 x5 x6 true x384000 x384001)) else (laws_FnKnownCounters.j1 k x1 x5 x6 true x384000 x384001)) else (laws_FnKnownCounters.j1 k x1 x5 x6 true x384000 x384001)) else (laws_FnKnownCounters.j1 k x1 x5 x6 true x384000 x384001)) else (laws_FnKnownCounters.j1 k x1 x5 x6 true x384000 x384001))))))))
def laws_FnKnownCounters.j1 : Nat → List Int → Int → Int → Bool → Int → List Int → Option (Bool)
  | 0, _, _, _, _, _, _ => none
  | k + 1, x1, x5, x6, x181, x384000, x384001 => if x181 = true then (some false) else ((laws_r8At.f x1 1 x6).bind fun t407 => ((impl_ReflectedOf.f x5 t407).bind fun bt408 => ((impl_FromReflected.f k x5 bt408.1).bind fun bt410 => (if x6 = 0 then (none) else ((impl_ReflectedOf.f x5 (Int.tmod (wrap64 (t407 + 1)) x6)).bind fun bt412 => ((impl_StateAfter.f k x384000 x384001 bt408.1 1).bind fun bt414 => (if bt408.2 = true then (if bt410.2 = true then (if bt412.2 = true then (if bt414.2 = true then (if bt410.1 = t407 then (some (bt414.1 == bt412.1)) else (some false)) else (some false)) else (some false)) else (some false)) else (some false))))))))
end
def laws_FnKnownCounters.f (k : Nat) (l0 : List Int) (l1 : List Int) : Option (Bool) := (laws_r8Long.f l0 l1).bind fun t364 => (if t364 = true then (some true) else ((laws_r8At.f l0 0 6).bind fun t365 => (if 0 ≤ (IntKind.u64.wrap (wrap64 (1 + t365))) then ((impl_RingCounter.f k (wrap64 (1 + t365))).bind fun bt366 => ((impl_TwistedCounter.f k (wrap64 (1 + t365))).bind fun bt372 => ((impl_ReflectedCounter.f k (wrap64 (1 + t365))).bind fun bt378 => ((laws_r8At.f l1 0 (shl .i64 1 (IntKind.u64.wrap (wrap64 (1 + t365))))).bind fun t384 => ((impl_BinaryCounter.f k (wrap64 (1 + t365)) (wrap64 (1 + t384))).bind fun bt385 => (if bt366.2.2 = true then (if bt372.2.2 = true then (if bt378.2.2 = true then (laws_FnKnownCounters.j0 k l1 (wrap64 (1 + t365)) (shl .i64 1 (IntKind.u64.wrap (wrap64 (1 + t365)))) (wrap64 (1 + t384)) (!bt385.2.2) bt366.1 bt366.2.1 bt372.1 bt372.2.1 bt378.1 bt378.2.1 bt385.1 bt385.2.1) else (laws_FnKnownCounters.j0 k l1 (wrap64 (1 + t365)) (shl .i64 1 (IntKind.u64.wrap (wrap64 (1 + t365)))) (wrap64 (1 + t384)) true bt366.1 bt366.2.1 bt372.1 bt372.2.1 bt378.1 bt378.2.1 bt385.1 bt385.2.1)) else (laws_FnKnownCounters.j0 k l1 (wrap64 (1 + t365)) (shl .i64 1 (IntKind.u64.wrap (wrap64 (1 + t365)))) (wrap64 (1 + t384)) true bt366.1 bt366.2.1 bt372.1 bt372.2.1 bt378.1 bt378.2.1 bt385.1 bt385.2.1)) else (laws_FnKnownCounters.j0 k l1 (wrap64 (1 + t365)) (shl .i64 1 (IntKind.u64.wrap (wrap64 (1 + t365)))) (wrap64 (1 + t384)) true bt366.1 bt366.2.1 bt372.1 bt372.2.1 bt378.1 bt378.2.1 bt385.1 bt385.2.1))))))) else (none))))
theorem laws_FnKnownCounters.mono_l : ∀ k, (∀ y0 y1 y2 y3 y4 y5 y6 y7 y8 y9 y10 y11 y12, LeO (laws_FnKnownCounters.j0 k y0 y1 y2 y3 y4 y5 y6 y7 y8 y9 y10 y11 y12) (laws_FnKnownCounters.j0 (k + 1) y0 y1 y2 y3 y4 y5 y6 y7 y8 y9 y10 y11 y12)) ∧ (∀ y0 y1 y2 y3 y4 y5, LeO (laws_FnKnownCounters.j1 k y0 y1 y2 y3 y4 y5) (laws_FnKnownCounters.j1 (k + 1) y0 y1 y2 y3 y4 y5))
  | 0 => ⟨fun _ _ _ _ _ _ _ _ _ _ _ _ _ r h => by simp [laws_FnKnownCounters.j0] at h, fun _ _ _ _ _ _ r h => by simp [laws_FnKnownCounters.j1] at h⟩
  | k + 1 => by
    obtain ⟨ih0, ih1⟩ := laws_FnKnownCounters.mono_l k
    refine ⟨?_, ?_⟩
    · intro y0 y1 y2 y3 y4 y5 y6 y7 y8 y9 y10 y11 y12
      unfold laws_FnKnownCounters.j0
      repeat' first
      | (with_reducible exact ih0 _ _ _ _ _ _ _ _ _ _ _ _ _)
      | (with_reducible exact ih1 _ _ _ _ _ _)
      | (with_reducible exact impl_BinaryCounter.mono _ _ _)
      | (with_reducible exact impl_FromReflected.mono _ _ _)
      | (with_reducible exact impl_IsSelfStarting.mono _ _ _ _)
      | (with_reducible exact impl_MostChanged.mono _ _ _ _)
      | (with_reducible exact impl_ReflectedCounter.mono _ _)
      | (with_reducible exact impl_RingCounter.mono _ _)
      | (with_reducible exact impl_RingsOf.mono _ _ _)
      | (with_reducible exact impl_StateAfter.mono _ _ _ _ _)
      | (with_reducible exact impl_TwistedCounter.mono _ _)
      | (with_reducible exact LeO.refl _)
      | (with_reducible exact LeO.none _)
      | (with_reducible refine LeO.ite ?_ ?_)
      | (with_reducible refine LeO.bind ?_ (fun _ => ?_))
      | exact ih0 _ _ _ _ _ _ _ _ _ _ _ _ _
      | exact ih1 _ _ _ _ _ _
      | exact impl_BinaryCounter.mono _ _ _
      | exact impl_FromReflected.mono _ _ _
      | exact impl_IsSelfStarting.mono _ _ _ _
      | exact impl_MostChanged.mono _ _ _ _
      | exact impl_ReflectedCounter.mono _ _
      | exact impl_RingCounter.mono _ _
      | exact impl_RingsOf.mono _ _ _
      | exact impl_StateAfter.mono _ _ _ _ _
      | exact impl_TwistedCounter.mono _ _
      | exact LeO.none _
      | refine LeO.ite ?_ ?_
      | refine LeO.bind ?_ (fun _ => ?_)
    · intro y0 y1 y2 y3 y4 y5
      unfold laws_FnKnownCounters.j1
      repeat' first
      | (with_reducible exact ih0 _ _ _ _ _ _ _ _ _ _ _ _ _)
      | (with_reducible exact ih1 _ _ _ _ _ _)
      | (with_reducible exact impl_BinaryCounter.mono _ _ _)
      | (with_reducible exact impl_FromReflected.mono _ _ _)
      | (with_reducible exact impl_IsSelfStarting.mono _ _ _ _)
      | (with_reducible exact impl_MostChanged.mono _ _ _ _)
      | (with_reducible exact impl_ReflectedCounter.mono _ _)
      | (with_reducible exact impl_RingCounter.mono _ _)
      | (with_reducible exact impl_RingsOf.mono _ _ _)
      | (with_reducible exact impl_StateAfter.mono _ _ _ _ _)
      | (with_reducible exact impl_TwistedCounter.mono _ _)
      | (with_reducible exact LeO.refl _)
      | (with_reducible exact LeO.none _)
      | (with_reducible refine LeO.ite ?_ ?_)
      | (with_reducible refine LeO.bind ?_ (fun _ => ?_))
      | exact ih0 _ _ _ _ _ _ _ _ _ _ _ _ _
      | exact ih1 _ _ _ _ _ _
      | exact impl_BinaryCounter.mono _ _ _
      | exact impl_FromReflected.mono _ _ _
      | exact impl_IsSelfStarting.mono _ _ _ _
      | exact impl_MostChanged.mono _ _ _ _
      | exact impl_ReflectedCounter.mono _ _
      | exact impl_RingCounter.mono _ _
      | exact impl_RingsOf.mono _ _ _
      | exact impl_StateAfter.mono _ _ _ _ _
      | exact impl_TwistedCounter.mono _ _
      | exact LeO.none _
      | refine LeO.ite ?_ ?_
      | refine LeO.bind ?_ (fun _ => ?_)
theorem laws_FnKnownCounters.mono : ∀ a0 a1 k, LeO (laws_FnKnownCounters.f k a0 a1) (laws_FnKnownCounters.f (k + 1) a0 a1) := by
  intro a0 a1 k
  obtain ⟨ih0, ih1⟩ := laws_FnKnownCounters.mono_l k
  unfold laws_FnKnownCounters.f
  repeat' first
      | (with_reducible exact ih0 _ _ _ _ _ _ _ _ _ _ _ _ _)
      | (with_reducible exact ih1 _ _ _ _ _ _)
      | (with_reducible exact impl_BinaryCounter.mono _ _ _)
      | (with_reducible exact impl_FromReflected.mono _ _ _)
      | (with_reducible exact impl_IsSelfStarting.mono _ _ _ _)
      | (with_reducible exact impl_MostChanged.mono _ _ _ _)
      | (with_reducible exact impl_ReflectedCounter.mono _ _)
      | (with_reducible exact impl_RingCounter.mono _ _)
      | (with_reducible exact impl_RingsOf.mono _ _ _)
      | (with_reducible exact impl_StateAfter.mono _ _ _ _ _)
      | (with_reducible exact impl_TwistedCounter.mono _ _)
      | (with_reducible exact LeO.refl _)
      | (with_reducible exact LeO.none _)
      | (with_reducible refine LeO.ite ?_ ?_)
      | (with_reducible refine LeO.bind ?_ (fun _ => ?_))
      | exact ih0 _ _ _ _ _ _ _ _ _ _ _ _ _
      | exact ih1 _ _ _ _ _ _
      | exact impl_BinaryCounter.mono _ _ _
      | exact impl_FromReflected.mono _ _ _
      | exact impl_IsSelfStarting.mono _ _ _ _
      | exact impl_MostChanged.mono _ _ _ _
      | exact impl_ReflectedCounter.mono _ _
      | exact impl_RingCounter.mono _ _
      | exact impl_RingsOf.mono _ _ _
      | exact impl_StateAfter.mono _ _ _ _ _
      | exact impl_TwistedCounter.mono _ _
      | exact LeO.none _
      | refine LeO.ite ?_ ?_
      | refine LeO.bind ?_ (fun _ => ?_)
theorem laws_FnKnownCounters.j0_no (k : Nat) (y0 : List Int) (y1 : Int) (y2 : Int) (y3 : Int) (y5 : Int) (y6 : List Int) (y7 : Int) (y8 : List Int) (y9 : Int) (y10 : List Int) (y11 : Int) (y12 : List Int) (r : Bool) (h : laws_FnKnownCounters.j0 k y0 y1 y2 y3 true y5 y6 y7 y8 y9 y10 y11 y12 = some r) : r = false := by
  cases k with
  | zero => simp [laws_FnKnownCounters.j0] at h
  | succ k => rw [laws_FnKnownCounters.j0, if_pos rfl] at h; exact (Option.some.inj h).symm
theorem laws_FnKnownCounters.j1_no (k : Nat) (y0 : List Int) (y1 : Int) (y2 : Int) (y4 : Int) (y5 : List Int) (r : Bool) (h : laws_FnKnownCounters.j1 k y0 y1 y2 true y4 y5 = some r) : r = false := by
  cases k with
  | zero => simp [laws_FnKnownCounters.j1] at h
  | succ k => rw [laws_FnKnownCounters.j1, if_pos rfl] at h; exact (Option.some.inj h).symm
set_option maxHeartbeats 8000000 in
set_option maxRecDepth 100000 in
theorem laws_FnKnownCounters.calls (k : Nat) (A0 : Option Addr) (c0 : Nat) (l0 : List Int) (A1 : Option Addr) (c1 : Nat) (l1 : List Int) (r : Bool) (w : World) (hr0 : Kd.C (Kd.int .u8) w A0 l0.length l0) (hc0 : l0.length ≤ c0) (hr1 : Kd.C (Kd.int .u8) w A1 l1.length l1) (hc1 : l1.length ≤ c1) (h : laws_FnKnownCounters.f k l0 l1 = some r) (hrT : r = true) :
    Calls Try.prog 7 #[.slice A0 l0.length c0, .slice A1 l1.length c1] w fun e w' => e = .returned (.bool r) ∧ Below w.heap.size w w' := by
  have HRT := Aside0.mk hrT
  clear hrT
  have hu28 := Try.underlying28
  have HR0 := Aside0.mk hr0
  have HC0 := Aside0.mk hc0
  clear hr0 hc0
  have HR1 := Aside0.mk hr1
  have HC1 := Aside0.mk hc1
  clear hr1 hc1
  have HB := Aside0.mk (Below.refl w.heap.size w)
  have H : ((laws_r8Long.f l0 l1).bind fun t364 => (if t364 = true then (some true) else ((laws_r8At.f l0 0 6).bind fun t365 => (if 0 ≤ (IntKind.u64.wrap (wrap64 (1 + t365))) then ((impl_RingCounter.f k (wrap64 (1 + t365))).bind fun bt366 => ((impl_TwistedCounter.f k (wrap64 (1 + t365))).bind fun bt372 => ((impl_ReflectedCounter.f k (wrap64 (1 + t365))).bind fun bt378 => ((laws_r8At.f l1 0 (shl .i64 1 (IntKind.u64.wrap (wrap64 (1 + t365))))).bind fun t384 => ((impl_BinaryCounter.f k (wrap64 (1 + t365)) (wrap64 (1 + t384))).bind fun bt385 => (if bt366.2.2 = true then (if bt372.2.2 = true then (if bt378.2.2 = true then (laws_FnKnownCounters.j0 k l1 (wrap64 (1 + t365)) (shl .i64 1 (IntKind.u64.wrap (wrap64 (1 + t365)))) (wrap64 (1 + t384)) (!bt385.2.2) bt366.1 bt366.2.1 bt372.1 bt372.2.1 bt378.1 bt378.2.1 bt385.1 bt385.2.1) else (laws_FnKnownCounters.j0 k l1 (wrap64 (1 + t365)) (shl .i64 1 (IntKind.u64.wrap (wrap64 (1 + t365)))) (wrap64 (1 + t384)) true bt366.1 bt366.2.1 bt372.1 bt372.2.1 bt378.1 bt378.2.1 bt385.1 bt385.2.1)) else (laws_FnKnownCounters.j0 k l1 (wrap64 (1 + t365)) (shl .i64 1 (IntKind.u64.wrap (wrap64 (1 + t365)))) (wrap64 (1 + t384)) true bt366.1 bt366.2.1 bt372.1 bt372.2.1 bt378.1 bt378.2.1 bt385.1 bt385.2.1)) else (laws_FnKnownCounters.j0 k l1 (wrap64 (1 + t365)) (shl .i64 1 (IntKind.u64.wrap (wrap64 (1 + t365)))) (wrap64 (1 + t384)) true bt366.1 bt366.2.1 bt372.1 bt372.2.1 bt378.1 bt378.2.1 bt385.1 bt385.2.1))))))) else (none))))) = some r := h
  clear h
  replace H := Option.bind_eq_some_iff.mp H
  obtain ⟨t364, A30, H⟩ := H
  replace H : (if t364 = true then (some true) else ((laws_r8At.f l0 0 6).bind fun t365 => (if 0 ≤ (IntKind.u64.wrap (wrap64 (1 + t365))) then ((impl_RingCounter.f k (wrap64 (1 + t365))).bind fun bt366 => ((impl_TwistedCounter.f k (wrap64 (1 + t365))).bind fun bt372 => ((impl_ReflectedCounter.f k (wrap64 (1 + t365))).bind fun bt378 => ((laws_r8At.f l1 0 (shl .i64 1 (IntKind.u64.wrap (wrap64 (1 + t365))))).bind fun t384 => ((impl_BinaryCounter.f k (wrap64 (1 + t365)) (wrap64 (1 + t384))).bind fun bt385 => (if bt366.2.2 = true then (if bt372.2.2 = true then (if bt378.2.2 = true then (laws_FnKnownCounters.j0 k l1 (wrap64 (1 + t365)) (shl .i64 1 (IntKind.u64.wrap (wrap64 (1 + t365)))) (wrap64 (1 + t384)) (!bt385.2.2) bt366.1 bt366.2.1 bt372.1 bt372.2.1 bt378.1 bt378.2.1 bt385.1 bt385.2.1) else (laws_FnKnownCounters.j0 k l1 (wrap64 (1 + t365)) (shl .i64 1 (IntKind.u64.wrap (wrap64 (1 + t365)))) (wrap64 (1 + t384)) true bt366.1 bt366.2.1 bt372.1 bt372.2.1 bt378.1 bt378.2.1 bt385.1 bt385.2.1)) else (laws_FnKnownCounters.j0 k l1 (wrap64 (1 + t365)) (shl .i64 1 (IntKind.u64.wrap (wrap64 (1 + t365)))) (wrap64 (1 + t384)) true bt366.1 bt366.2.1 bt372.1 bt372.2.1 bt378.1 bt378.2.1 bt385.1 bt385.2.1)) else (laws_FnKnownCounters.j0 k l1 (wrap64 (1 + t365)) (shl .i64 1 (IntKind.u64.wrap (wrap64 (1 + t365)))) (wrap64 (1 + t384)) true bt366.1 bt366.2.1 bt372.1 bt372.2.1 bt378.1 bt378.2.1 bt385.1 bt385.2.1))))))) else (none)))) = some r := H
  have A3 := Aside0.mk A30
  clear A30
  by_cases c4 : t364 = true
  · subst c4
    have H1 : (some true) = some r := by rw [if_pos rfl] at H; exact H
    clear H
    have H := H1
    clear H1
    obtain rfl := Option.some.inj H
    go_enter Try.func7, Try.ntmps7
    go_wp2_with (first | ((with_reducible refine gate_callee (f := 8) rfl ?_); refine goesL_ (some 39) rfl rfl Try.func8 (by kernel_rfl) rfl #[.slice A0 l0.length c0, .slice A1 l1.length c1] rfl (by (try simp only [List.map_toArray, List.map_cons, List.map_nil]); first | done | rfl | (simp only [List.length_drop, List.length_take]; rfl)) ?_; (with_reducible refine (laws_r8Long.calls _ _ l0 _ _ l1 true _ ?side1 ?side2 ?side3 ?side4 A3.out).mono ?_); (case side1 => repeat (first | exact HR0.out | (with_reducible refine Kd.C_alloc ?_ _) | (with_reducible refine Kd.C_drewN ?_ _) | (with_reducible refine Kd.C_drew ?_))); (case side2 => first | exact trivial | (exact HC0.out)); (case side3 => repeat (first | exact HR1.out | (with_reducible refine Kd.C_alloc ?_ _) | (with_reducible refine Kd.C_drewN ?_ _) | (with_reducible refine Kd.C_drew ?_))); (case side4 => first | exact trivial | (exact HC1.out)); rintro e w' ⟨rfl, ⟨nd, rfl⟩⟩; refine ⟨_, rfl, ?_⟩))
    go_ret
    exact ⟨by first | rfl | (simp [errW_none, errW_some] <;> rfl) | (simp [*, errW_none, errW_some] <;> rfl), by repeat (first | (with_reducible first | exact HB.out | apply below_alloc | apply pw_below_drewN | apply below_drew1) | exact HB.out)⟩
  · replace c4 := Bool.eq_false_iff.mpr c4
    subst c4
    have H1 : ((laws_r8At.f l0 0 6).bind fun t365 => (if 0 ≤ (IntKind.u64.wrap (wrap64 (1 + t365))) then ((impl_RingCounter.f k (wrap64 (1 + t365))).bind fun bt366 => ((impl_TwistedCounter.f k (wrap64 (1 + t365))).bind fun bt372 => ((impl_ReflectedCounter.f k (wrap64 (1 + t365))).bind fun bt378 => ((laws_r8At.f l1 0 (shl .i64 1 (IntKind.u64.wrap (wrap64 (1 + t365))))).bind fun t384 => ((impl_BinaryCounter.f k (wrap64 (1 + t365)) (wrap64 (1 + t384))).bind fun bt385 => (if bt366.2.2 = true then (if bt372.2.2 = true then (if bt378.2.2 = true then (laws_FnKnownCounters.j0 k l1 (wrap64 (1 + t365)) (shl .i64 1 (IntKind.u64.wrap (wrap64 (1 + t365)))) (wrap64 (1 + t384)) (!bt385.2.2) bt366.1 bt366.2.1 bt372.1 bt372.2.1 bt378.1 bt378.2.1 bt385.1 bt385.2.1) else (laws_FnKnownCounters.j0 k l1 (wrap64 (1 + t365)) (shl .i64 1 (IntKind.u64.wrap (wrap64 (1 + t365)))) (wrap64 (1 + t384)) true bt366.1 bt366.2.1 bt372.1 bt372.2.1 bt378.1 bt378.2.1 bt385.1 bt385.2.1)) else (laws_FnKnownCounters.j0 k l1 (wrap64 (1 + t365)) (shl .i64 1 (IntKind.u64.wrap (wrap64 (1 + t365)))) (wrap64 (1 + t384)) true bt366.1 bt366.2.1 bt372.1 bt372.2.1 bt378.1 bt378.2.1 bt385.1 bt385.2.1)) else (laws_FnKnownCounters.j0 k l1 (wrap64 (1 + t365)) (shl .i64 1 (IntKind.u64.wrap (wrap64 (1 + t365)))) (wrap64 (1 + t384)) true bt366.1 bt366.2.1 bt372.1 bt372.2.1 bt378.1 bt378.2.1 bt385.1 bt385.2.1))))))) else (none))) = some r := by rw [if_neg (show ¬ (false = true) by decide)] at H; exact H
    clear H
    have H := H1
    clear H1
    replace H := Option.bind_eq_some_iff.mp H
    obtain ⟨t365, A50, H⟩ := H
    replace H : (if 0 ≤ (IntKind.u64.wrap (wrap64 (1 + t365))) then ((impl_RingCounter.f k (wrap64 (1 + t365))).bind fun bt366 => ((impl_TwistedCounter.f k (wrap64 (1 + t365))).bind fun bt372 => ((impl_ReflectedCounter.f k (wrap64 (1 + t365))).bind fun bt378 => ((laws_r8At.f l1 0 (shl .i64 1 (IntKind.u64.wrap (wrap64 (1 + t365))))).bind fun t384 => ((impl_BinaryCounter.f k (wrap64 (1 + t365)) (wrap64 (1 + t384))).bind fun bt385 => (if bt366.2.2 = true then (if bt372.2.2 = true then (if bt378.2.2 = true then (laws_FnKnownCounters.j0 k l1 (wrap64 (1 + t365)) (shl .i64 1 (IntKind.u64.wrap (wrap64 (1 + t365)))) (wrap64 (1 + t384)) (!bt385.2.2) bt366.1 bt366.2.1 bt372.1 bt372.2.1 bt378.1 bt378.2.1 bt385.1 bt385.2.1) else (laws_FnKnownCounters.j0 k l1 (wrap64 (1 + t365)) (shl .i64 1 (IntKind.u64.wrap (wrap64 (1 + t365)))) (wrap64 (1 + t384)) true bt366.1 bt366.2.1 bt372.1 bt372.2.1 bt378.1 bt378.2.1 bt385.1 bt385.2.1)) else (laws_FnKnownCounters.j0 k l1 (wrap64 (1 + t365)) (shl .i64 1 (IntKind.u64.wrap (wrap64 (1 + t365)))) (wrap64 (1 + t384)) true bt366.1 bt366.2.1 bt372.1 bt372.2.1 bt378.1 bt378.2.1 bt385.1 bt385.2.1)) else (laws_FnKnownCounters.j0 k l1 (wrap64 (1 + t365)) (shl .i64 1 (IntKind.u64.wrap (wrap64 (1 + t365)))) (wrap64 (1 + t384)) true bt366.1 bt366.2.1 bt372.1 bt372.2.1 bt378.1 bt378.2.1 bt385.1 bt385.2.1))))))) else (none)) = some r := H
    have A5 := Aside0.mk A50
    clear A50
    obtain ⟨ji6, hji6⟩ : ∃ j_ : Int, (IntKind.u64.wrap (wrap64 (1 + t365))) = j_ := ⟨_, rfl⟩
    replace H : (if 0 ≤ (ji6) then ((impl_RingCounter.f k (wrap64 (1 + t365))).bind fun bt366 => ((impl_TwistedCounter.f k (wrap64 (1 + t365))).bind fun bt372 => ((impl_ReflectedCounter.f k (wrap64 (1 + t365))).bind fun bt378 => ((laws_r8At.f l1 0 (shl .i64 1 (ji6))).bind fun t384 => ((impl_BinaryCounter.f k (wrap64 (1 + t365)) (wrap64 (1 + t384))).bind fun bt385 => (if bt366.2.2 = true then (if bt372.2.2 = true then (if bt378.2.2 = true then (laws_FnKnownCounters.j0 k l1 (wrap64 (1 + t365)) (shl .i64 1 (ji6)) (wrap64 (1 + t384)) (!bt385.2.2) bt366.1 bt366.2.1 bt372.1 bt372.2.1 bt378.1 bt378.2.1 bt385.1 bt385.2.1) else (laws_FnKnownCounters.j0 k l1 (wrap64 (1 + t365)) (shl .i64 1 (ji6)) (wrap64 (1 + t384)) true bt366.1 bt366.2.1 bt372.1 bt372.2.1 bt378.1 bt378.2.1 bt385.1 bt385.2.1)) else (laws_FnKnownCounters.j0 k l1 (wrap64 (1 + t365)) (shl .i64 1 (ji6)) (wrap64 (1 + t384)) true bt366.1 bt366.2.1 bt372.1 bt372.2.1 bt378.1 bt378.2.1 bt385.1 bt385.2.1)) else (laws_FnKnownCounters.j0 k l1 (wrap64 (1 + t365)) (shl .i64 1 (ji6)) (wrap64 (1 + t384)) true bt366.1 bt366.2.1 bt372.1 bt372.2.1 bt378.1 bt378.2.1 bt385.1 bt385.2.1))))))) else (none)) = some r := by first | (rw [hji6] at H; exact H) | (simp only [hji6] at H ⊢; exact H)
    (try rw [hji6] at A3)
    (try rw [hji6] at A5)
    by_cases c7 : 0 ≤ (ji6)
    · rw [if_pos c7] at H
      have c7b0 := eq_true c7
      have c7b1 : decide (0 ≤ (ji6)) = true := decide_eq_true c7
      clear c7
      obtain ⟨ji8, hji8⟩ : ∃ j_ : Int, (shl .i64 1 (ji6)) = j_ := ⟨_, rfl⟩
      replace H : ((impl_RingCounter.f k (wrap64 (1 + t365))).bind fun bt366 => ((impl_TwistedCounter.f k (wrap64 (1 + t365))).bind fun bt372 => ((impl_ReflectedCounter.f k (wrap64 (1 + t365))).bind fun bt378 => ((laws_r8At.f l1 0 (ji8)).bind fun t384 => ((impl_BinaryCounter.f k (wrap64 (1 + t365)) (wrap64 (1 + t384))).bind fun bt385 => (if bt366.2.2 = true then (if bt372.2.2 = true then (if bt378.2.2 = true then (laws_FnKnownCounters.j0 k l1 (wrap64 (1 + t365)) ji8 (wrap64 (1 + t384)) (!bt385.2.2) bt366.1 bt366.2.1 bt372.1 bt372.2.1 bt378.1 bt378.2.1 bt385.1 bt385.2.1) else (laws_FnKnownCounters.j0 k l1 (wrap64 (1 + t365)) ji8 (wrap64 (1 + t384)) true bt366.1 bt366.2.1 bt372.1 bt372.2.1 bt378.1 bt378.2.1 bt385.1 bt385.2.1)) else (laws_FnKnownCounters.j0 k l1 (wrap64 (1 + t365)) ji8 (wrap64 (1 + t384)) true bt366.1 bt366.2.1 bt372.1 bt372.2.1 bt378.1 bt378.2.1 bt385.1 bt385.2.1)) else (laws_FnKnownCounters.j0 k l1 (wrap64 (1 + t365)) ji8 (wrap64 (1 + t384)) true bt366.1 bt366.2.1 bt372.1 bt372.2.1 bt378.1 bt378.2.1 bt385.1 bt385.2.1))))))) = some r := by first | (rw [hji8] at H; exact H) | (simp only [hji8] at H ⊢; exact H)
      (try rw [hji8] at A3)
      (try rw [hji8] at A5)
      have hji8_ : (IntKind.i64.wrap (1 * 2 ^ min (ji6).toNat 64)) = ji8 := hji8
      have hji8z : (ji6) ≤ 64 → (IntKind.i64.wrap (1 * 2 ^ (ji6).toNat)) = ji8 := shl_small hji8
      have hji8u : (IntKind.i64.wrap (2 ^ min (ji6).toNat 64)) = ji8 := by have h_ := hji8_; rw [Int.one_mul] at h_; exact h_
      have hji8v : (ji6) ≤ 64 → (IntKind.i64.wrap (2 ^ (ji6).toNat)) = ji8 := fun hle_ => by have h_ := hji8z hle_; rw [Int.one_mul] at h_; exact h_
      have hji8y : (wrap64 (1 * 2 ^ min (ji6).toNat 64)) = ji8 := (i64_w _).symm.trans hji8_
      have hji8x : (ji6) ≤ 64 → (wrap64 (1 * 2 ^ (ji6).toNat)) = ji8 := fun h_ => (i64_w _).symm.trans (hji8z h_)
      replace H := Option.bind_eq_some_iff.mp H
      obtain ⟨⟨t366, t367, t370⟩, A90, H⟩ := H
      replace H : ((impl_TwistedCounter.f k (wrap64 (1 + t365))).bind fun bt372 => ((impl_ReflectedCounter.f k (wrap64 (1 + t365))).bind fun bt378 => ((laws_r8At.f l1 0 (ji8)).bind fun t384 => ((impl_BinaryCounter.f k (wrap64 (1 + t365)) (wrap64 (1 + t384))).bind fun bt385 => (if t370 = true then (if bt372.2.2 = true then (if bt378.2.2 = true then (laws_FnKnownCounters.j0 k l1 (wrap64 (1 + t365)) ji8 (wrap64 (1 + t384)) (!bt385.2.2) t366 t367 bt372.1 bt372.2.1 bt378.1 bt378.2.1 bt385.1 bt385.2.1) else (laws_FnKnownCounters.j0 k l1 (wrap64 (1 + t365)) ji8 (wrap64 (1 + t384)) true t366 t367 bt372.1 bt372.2.1 bt378.1 bt378.2.1 bt385.1 bt385.2.1)) else (laws_FnKnownCounters.j0 k l1 (wrap64 (1 + t365)) ji8 (wrap64 (1 + t384)) true t366 t367 bt372.1 bt372.2.1 bt378.1 bt378.2.1 bt385.1 bt385.2.1)) else (laws_FnKnownCounters.j0 k l1 (wrap64 (1 + t365)) ji8 (wrap64 (1 + t384)) true t366 t367 bt372.1 bt372.2.1 bt378.1 bt378.2.1 bt385.1 bt385.2.1)))))) = some r := H
      have A9 := Aside0.mk A90
      clear A90
      replace H := Option.bind_eq_some_iff.mp H
      obtain ⟨⟨t372, t373, t376⟩, A100, H⟩ := H
      replace H : ((impl_ReflectedCounter.f k (wrap64 (1 + t365))).bind fun bt378 => ((laws_r8At.f l1 0 (ji8)).bind fun t384 => ((impl_BinaryCounter.f k (wrap64 (1 + t365)) (wrap64 (1 + t384))).bind fun bt385 => (if t370 = true then (if t376 = true then (if bt378.2.2 = true then (laws_FnKnownCounters.j0 k l1 (wrap64 (1 + t365)) ji8 (wrap64 (1 + t384)) (!bt385.2.2) t366 t367 t372 t373 bt378.1 bt378.2.1 bt385.1 bt385.2.1) else (laws_FnKnownCounters.j0 k l1 (wrap64 (1 + t365)) ji8 (wrap64 (1 + t384)) true t366 t367 t372 t373 bt378.1 bt378.2.1 bt385.1 bt385.2.1)) else (laws_FnKnownCounters.j0 k l1 (wrap64 (1 + t365)) ji8 (wrap64 (1 + t384)) true t366 t367 t372 t373 bt378.1 bt378.2.1 bt385.1 bt385.2.1)) else (laws_FnKnownCounters.j0 k l1 (wrap64 (1 + t365)) ji8 (wrap64 (1 + t384)) true t366 t367 t372 t373 bt378.1 bt378.2.1 bt385.1 bt385.2.1))))) = some r := H
      have A10 := Aside0.mk A100
      clear A100
      replace H := Option.bind_eq_some_iff.mp H
      obtain ⟨⟨t378, t379, t382⟩, A110, H⟩ := H
      replace H : ((laws_r8At.f l1 0 (ji8)).bind fun t384 => ((impl_BinaryCounter.f k (wrap64 (1 + t365)) (wrap64 (1 + t384))).bind fun bt385 => (if t370 = true then (if t376 = true then (if t382 = true then (laws_FnKnownCounters.j0 k l1 (wrap64 (1 + t365)) ji8 (wrap64 (1 + t384)) (!bt385.2.2) t366 t367 t372 t373 t378 t379 bt385.1 bt385.2.1) else (laws_FnKnownCounters.j0 k l1 (wrap64 (1 + t365)) ji8 (wrap64 (1 + t384)) true t366 t367 t372 t373 t378 t379 bt385.1 bt385.2.1)) else (laws_FnKnownCounters.j0 k l1 (wrap64 (1 + t365)) ji8 (wrap64 (1 + t384)) true t366 t367 t372 t373 t378 t379 bt385.1 bt385.2.1)) else (laws_FnKnownCounters.j0 k l1 (wrap64 (1 + t365)) ji8 (wrap64 (1 + t384)) true t366 t367 t372 t373 t378 t379 bt385.1 bt385.2.1)))) = some r := H
      have A11 := Aside0.mk A110
      clear A110
      replace H := Option.bind_eq_some_iff.mp H
      obtain ⟨t384, A120, H⟩ := H
      replace H : ((impl_BinaryCounter.f k (wrap64 (1 + t365)) (wrap64 (1 + t384))).bind fun bt385 => (if t370 = true then (if t376 = true then (if t382 = true then (laws_FnKnownCounters.j0 k l1 (wrap64 (1 + t365)) ji8 (wrap64 (1 + t384)) (!bt385.2.2) t366 t367 t372 t373 t378 t379 bt385.1 bt385.2.1) else (laws_FnKnownCounters.j0 k l1 (wrap64 (1 + t365)) ji8 (wrap64 (1 + t384)) true t366 t367 t372 t373 t378 t379 bt385.1 bt385.2.1)) else (laws_FnKnownCounters.j0 k l1 (wrap64 (1 + t365)) ji8 (wrap64 (1 + t384)) true t366 t367 t372 t373 t378 t379 bt385.1 bt385.2.1)) else (laws_FnKnownCounters.j0 k l1 (wrap64 (1 + t365)) ji8 (wrap64 (1 + t384)) true t366 t367 t372 t373 t378 t379 bt385.1 bt385.2.1))) = some r := H
      have A12 := Aside0.mk A120
      clear A120
      replace H := Option.bind_eq_some_iff.mp H
      obtain ⟨⟨t385, t386, t389⟩, A130, H⟩ := H
      replace H : (if t370 = true then (if t376 = true then (if t382 = true then (laws_FnKnownCounters.j0 k l1 (wrap64 (1 + t365)) ji8 (wrap64 (1 + t384)) (!t389) t366 t367 t372 t373 t378 t379 t385 t386) else (laws_FnKnownCounters.j0 k l1 (wrap64 (1 + t365)) ji8 (wrap64 (1 + t384)) true t366 t367 t372 t373 t378 t379 t385 t386)) else (laws_FnKnownCounters.j0 k l1 (wrap64 (1 + t365)) ji8 (wrap64 (1 + t384)) true t366 t367 t372 t373 t378 t379 t385 t386)) else (laws_FnKnownCounters.j0 k l1 (wrap64 (1 + t365)) ji8 (wrap64 (1 + t384)) true t366 t367 t372 t373 t378 t379 t385 t386)) = some r := H
      have A13 := Aside0.mk A130
      clear A130
      have HC14 := Aside0.mk H
      clear H
      go_enter Try.func7, Try.ntmps7
      go_upto_region 10 with (first | ((with_reducible refine gate_callee (f := 8) rfl ?_); refine goesL_ (some 39) rfl rfl Try.func8 (by kernel_rfl) rfl #[.slice A0 l0.length c0, .slice A1 l1.length c1] rfl (by (try simp only [List.map_toArray, List.map_cons, List.map_nil]); first | done | rfl | (simp only [List.length_drop, List.length_take]; rfl)) ?_; (with_reducible refine (laws_r8Long.calls _ _ l0 _ _ l1 false _ ?side1 ?side2 ?side3 ?side4 A3.out).mono ?_); (case side1 => repeat (first | exact HR0.out | (with_reducible refine Kd.C_alloc ?_ _) | (with_reducible refine Kd.C_drewN ?_ _) | (with_reducible refine Kd.C_drew ?_))); (case side2 => first | exact trivial | (exact HC0.out)); (case side3 => repeat (first | exact HR1.out | (with_reducible refine Kd.C_alloc ?_ _) | (with_reducible refine Kd.C_drewN ?_ _) | (with_reducible refine Kd.C_drew ?_))); (case side4 => first | exact trivial | (exact HC1.out)); rintro e w' ⟨rfl, ⟨nd, rfl⟩⟩; refine ⟨_, rfl, ?_⟩) | ((with_reducible refine gate_callee (f := 9) rfl ?_); refine goesL_ (some 41) rfl rfl Try.func9 (by kernel_rfl) rfl #[.slice A0 l0.length c0, .int .i64 0, .int .i64 6] rfl (by (try simp only [List.map_toArray, List.map_cons, List.map_nil]); first | done | rfl | (simp only [List.length_drop, List.length_take]; rfl)) ?_; (with_reducible refine (laws_r8At.calls _ _ l0 0 6 t365 _ ?side1 ?side2 A5.out).mono ?_); (case side1 => repeat (first | exact HR0.out | (with_reducible refine Kd.C_alloc ?_ _) | (with_reducible refine Kd.C_drewN ?_ _) | (with_reducible refine Kd.C_drew ?_))); (case side2 => first | exact trivial | (exact HC0.out)); rintro e w' ⟨rfl, ⟨nd, rfl⟩⟩; refine ⟨_, rfl, ?_⟩) | ((with_reducible refine gate_callee (f := 13) rfl ?_); refine goesL_ (some 48) rfl rfl Try.func13 (by kernel_rfl) rfl #[.int .i64 (wrap64 (1 + t365))] rfl (by (try simp only [List.map_toArray, List.map_cons, List.map_nil]); first | done | rfl | (simp only [List.length_drop, List.length_take]; rfl)) ?_; (with_reducible refine (impl_RingCounter.calls k (wrap64 (1 + t365)) t366 t367 t370 _ A9.out).mono ?_); rintro e w15 ⟨v368, rfl, ho0, hb⟩; refine ⟨_, rfl, ?_⟩; have n0_ := Aside0.mk (Kd.R_lower ho0 (below_size (by repeat (first | (with_reducible first | exact HB.out | apply below_alloc | apply pw_below_drewN | apply below_drew1) | exact HB.out)))); have n1_ := Aside0.mk (below_step (by repeat (first | (with_reducible first | exact HB.out | apply below_alloc | apply pw_below_drewN | apply below_drew1) | exact HB.out)) hb); clear HB; have HO369 := n0_; have HB := n1_; clear n0_ n1_; (try clear hb); (try clear hb2); (try clear hk); (try clear hi); (try clear ho0)) | ((with_reducible refine gate_dst (N := 7) rfl ?_); (try (refine gate_guard (by rfl) ?_; dsimp only)); refine box_event ?hg (N := 7) ?hd (cs := #[.int .i64 0, .slice none 0 0]) (t := 28) ?hr ?_; (case hd => rfl); (case hg => rfl); (case hr => first | (go_simp; done) | (go_simp; rfl)); intro gb371 hg w16 hbox hb; have n0_ := Aside0.mk (Kd.R_below (by (with_reducible repeat (first | apply Kd.R_alloc | apply Kd.R_drewN | apply Kd.R_drew)); exact HO369.out) hb); have n1_ := Aside0.mk (below_step (by repeat (first | (with_reducible first | exact HB.out | apply below_alloc | apply pw_below_drewN | apply below_drew1) | exact HB.out)) hb); have n2_ := Aside0.mk (hbox); have n3_ := Aside0.mk ((by rw [hg]; exact (below_size (by repeat (first | (with_reducible first | exact HB.out | apply below_alloc | apply pw_below_drewN | apply below_drew1) | exact HB.out))) : w.heap.size ≤ gb371)); have n4_ := Aside0.mk ((by rw [hg]; exact (below_size (by repeat (first | (with_reducible first | exact HB.out | apply below_alloc | apply pw_below_drewN | apply below_drew1) | exact HB.out))) : w.heap.size ≤ gb371)); clear HO369; clear HB; have HO369 := n0_; have HB := n1_; have BK371 := n2_; have GW371 := n3_; have GE371 := n4_; clear n0_ n1_ n2_ n3_ n4_; clear hb hbox hg; have hcz17_0 : w16.cell? ⟨gb371, 0, none⟩ = some (.int .i64 0) := (blk_cell BK371.out 0).trans rfl; have hcz17_1 : w16.cell? ⟨gb371, 1, none⟩ = some (.slice none 0 0) := (blk_cell BK371.out 1).trans rfl; have hfz17_0 := blk_frozen BK371.out 0; have hfz17_1 := blk_frozen BK371.out 1; obtain ⟨Ao18, co18, eo18⟩ := Kd.R_slice HO369.out; subst eo18) | ((with_reducible refine gate_callee (f := 18) rfl ?_); refine goesL_ (some 53) rfl rfl Try.func18 (by kernel_rfl) rfl #[.int .i64 (wrap64 (1 + t365))] rfl (by (try simp only [List.map_toArray, List.map_cons, List.map_nil]); first | done | rfl | (simp only [List.length_drop, List.length_take]; rfl)) ?_; (with_reducible refine (impl_TwistedCounter.calls k (wrap64 (1 + t365)) t372 t373 t376 _ A10.out).mono ?_); rintro e w19 ⟨v374, rfl, ho0, hb⟩; refine ⟨_, rfl, ?_⟩; have n0_ := Aside0.mk (Kd.R_elder' (by (with_reducible repeat (first | apply Kd.R_alloc | apply Kd.R_drewN | apply Kd.R_drew)); exact (Kd.R_mono (Kd.R_far (p := ⟨gb371, 1, none⟩) (Kd.R_far (p := ⟨gb371, 0, none⟩) (Kd.R_types HO369.out BK371.out (by decide)) (fun _ hk => hk.2) (.int .i64 t366)) (fun _ hk => hk.2) (.slice Ao18 t367.length co18)) (fun _ h_ => h_.1))) (Kd.R_base ho0) hb); have n1_ := Aside0.mk (Kd.R_lower (Kd.R_new' ho0 (Kd.R_lt (by (with_reducible repeat (first | apply Kd.R_alloc | apply Kd.R_drewN | apply Kd.R_drew)); exact (Kd.R_mono (Kd.R_far (p := ⟨gb371, 1, none⟩) (Kd.R_far (p := ⟨gb371, 0, none⟩) (Kd.R_types HO369.out BK371.out (by decide)) (fun _ hk => hk.2) (.int .i64 t366)) (fun _ hk => hk.2) (.slice Ao18 t367.length co18)) (fun _ h_ => h_.1))))) (below_size (by repeat (first | (with_reducible first | exact HB.out | apply below_alloc | apply pw_below_drewN | apply below_drew1 | refine below_set ?_ GE371.out) | exact HB.out)))); have n2_ := Aside0.mk (blk_below (g := gb371) (o := .cells #[.int .i64 t366, .slice Ao18 t367.length co18] 28 (0, 0)) (by (with_reducible repeat (first | refine blk_drewN ?_ _ | refine blk_drew ?_ | refine blk_alloc ?_ _)); refine blk_put (cs := #[.int .i64 t366, .slice none 0 0]) ?_ 1 _ rfl; (with_reducible repeat (first | refine blk_drewN ?_ _ | refine blk_drew ?_ | refine blk_alloc ?_ _)); refine blk_put (cs := #[.int .i64 0, .slice none 0 0]) ?_ 0 _ rfl; (with_reducible repeat (first | refine blk_drewN ?_ _ | refine blk_drew ?_ | refine blk_alloc ?_ _)); exact BK371.out) hb); have n3_ := Aside0.mk (below_step (by repeat (first | (with_reducible first | exact HB.out | apply below_alloc | apply pw_below_drewN | apply below_drew1 | refine below_set ?_ GE371.out) | exact HB.out)) hb); clear HO369; clear BK371; clear HB; have HO369 := n0_; have HO375 := n1_; have BK371 := n2_; have HB := n3_; clear n0_ n1_ n2_ n3_; (try clear hb); (try clear hb2); (try clear hk); (try clear hi); (try clear ho0)) | ((with_reducible refine gate_dst (N := 9) rfl ?_); (try (refine gate_guard (by rfl) ?_; dsimp only)); refine box_event ?hg (N := 9) ?hd (cs := #[.int .i64 0, .slice none 0 0]) (t := 28) ?hr ?_; (case hd => rfl); (case hg => rfl); (case hr => first | (go_simp; done) | (go_simp; rfl)); intro gb377 hg w20 hbox hb; have n0_ := Aside0.mk (Kd.R_below (by (with_reducible repeat (first | apply Kd.R_alloc | apply Kd.R_drewN | apply Kd.R_drew)); exact HO369.out) hb); have n1_ := Aside0.mk (Kd.R_below (by (with_reducible repeat (first | apply Kd.R_alloc | apply Kd.R_drewN | apply Kd.R_drew)); exact HO375.out) hb); have n2_ := Aside0.mk (blk_below (g := gb371) (o := .cells #[.int .i64 t366, .slice Ao18 t367.length co18] 28 (0, 0)) (by (with_reducible repeat (first | refine blk_drewN ?_ _ | refine blk_drew ?_ | refine blk_alloc ?_ _)); exact BK371.out) hb); have n3_ := Aside0.mk (below_step (by repeat (first | (with_reducible first | exact HB.out | apply below_alloc | apply pw_below_drewN | apply below_drew1 | refine below_set ?_ GE371.out) | exact HB.out)) hb); have n4_ := Aside0.mk (hbox); have n5_ := Aside0.mk ((by rw [hg]; exact (below_size (by repeat (first | (with_reducible first | exact HB.out | apply below_alloc | apply pw_below_drewN | apply below_drew1 | refine below_set ?_ GE371.out) | exact HB.out))) : w.heap.size ≤ gb377)); have n6_ := Aside0.mk ((by rw [hg]; exact (below_size (by repeat (first | (with_reducible first | exact HB.out | apply below_alloc | apply pw_below_drewN | apply below_drew1 | refine below_set ?_ GE371.out) | exact HB.out))) : w.heap.size ≤ gb377)); have n7_ := Aside0.mk ((by rw [hg]; exact Nat.ne_of_lt (blk_lt (g := gb371) (o := .cells #[.int .i64 t366, .slice Ao18 t367.length co18] 28 (0, 0)) (by (with_reducible repeat (first | refine blk_drewN ?_ _ | refine blk_drew ?_ | refine blk_alloc ?_ _)); exact BK371.out)) : gb371 ≠ gb377)); have n8_ := Aside0.mk ((by rw [hg]; exact Nat.ne_of_gt (blk_lt (g := gb371) (o := .cells #[.int .i64 t366, .slice Ao18 t367.length co18] 28 (0, 0)) (by (with_reducible repeat (first | refine blk_drewN ?_ _ | refine blk_drew ?_ | refine blk_alloc ?_ _)); exact BK371.out)) : gb377 ≠ gb371)); clear HO369; clear HO375; clear BK371; clear HB; have HO369 := n0_; have HO375 := n1_; have BK371 := n2_; have HB := n3_; have BK377 := n4_; have GW377 := n5_; have GE377 := n6_; have NB371_377 := n7_; have NB377_371 := n8_; clear n0_ n1_ n2_ n3_ n4_ n5_ n6_ n7_ n8_; clear hb hbox hg; have hnb21 := NB377_371.out; have hnc21 := NB371_377.out; have hcz22_0 : w20.cell? ⟨gb377, 0, none⟩ = some (.int .i64 0) := (blk_cell BK377.out 0).trans rfl; have hcz22_1 : w20.cell? ⟨gb377, 1, none⟩ = some (.slice none 0 0) := (blk_cell BK377.out 1).trans rfl; have hfz22_0 := blk_frozen BK377.out 0; have hfz22_1 := blk_frozen BK377.out 1; obtain ⟨Ao23, co23, eo23⟩ := Kd.R_slice HO375.out; subst eo23) | ((with_reducible refine gate_callee (f := 20) rfl ?_); refine goesL_ (some 58) rfl rfl Try.func20 (by kernel_rfl) rfl #[.int .i64 (wrap64 (1 + t365))] rfl (by (try simp only [List.map_toArray, List.map_cons, List.map_nil]); first | done | rfl | (simp only [List.length_drop, List.length_take]; rfl)) ?_; (with_reducible refine (impl_ReflectedCounter.calls k (wrap64 (1 + t365)) t378 t379 t382 _ A11.out).mono ?_); rintro e w24 ⟨v380, rfl, ho0, hb⟩; refine ⟨_, rfl, ?_⟩; have n0_ := Aside0.mk (Kd.R_elder' (by (with_reducible repeat (first | apply Kd.R_alloc | apply Kd.R_drewN | apply Kd.R_drew)); exact (Kd.R_mono (Kd.R_far (p := ⟨gb377, 1, none⟩) (Kd.R_far (p := ⟨gb377, 0, none⟩) (Kd.R_types HO369.out BK377.out (by decide)) (fun _ hk => hk.2) (.int .i64 t372)) (fun _ hk => hk.2) (.slice Ao23 t373.length co23)) (fun _ h_ => h_.1))) (Kd.R_base ho0) hb); have n1_ := Aside0.mk (Kd.R_elder' (by (with_reducible repeat (first | apply Kd.R_alloc | apply Kd.R_drewN | apply Kd.R_drew)); exact (Kd.R_mono (Kd.R_far (p := ⟨gb377, 1, none⟩) (Kd.R_far (p := ⟨gb377, 0, none⟩) (Kd.R_types HO375.out BK377.out (by decide)) (fun _ hk => hk.2) (.int .i64 t372)) (fun _ hk => hk.2) (.slice Ao23 t373.length co23)) (fun _ h_ => h_.1))) (Kd.R_base ho0) hb); have n2_ := Aside0.mk (Kd.R_lower (Kd.R_new' (Kd.R_new' ho0 (Kd.R_lt (by (with_reducible repeat (first | apply Kd.R_alloc | apply Kd.R_drewN | apply Kd.R_drew)); exact (Kd.R_mono (Kd.R_far (p := ⟨gb377, 1, none⟩) (Kd.R_far (p := ⟨gb377, 0, none⟩) (Kd.R_types HO369.out BK377.out (by decide)) (fun _ hk => hk.2) (.int .i64 t372)) (fun _ hk => hk.2) (.slice Ao23 t373.length co23)) (fun _ h_ => h_.1))))) (Kd.R_lt (by (with_reducible repeat (first | apply Kd.R_alloc | apply Kd.R_drewN | apply Kd.R_drew)); exact (Kd.R_mono (Kd.R_far (p := ⟨gb377, 1, none⟩) (Kd.R_far (p := ⟨gb377, 0, none⟩) (Kd.R_types HO375.out BK377.out (by decide)) (fun _ hk => hk.2) (.int .i64 t372)) (fun _ hk => hk.2) (.slice Ao23 t373.length co23)) (fun _ h_ => h_.1))))) (below_size (by repeat (first | (with_reducible first | exact HB.out | apply below_alloc | apply pw_below_drewN | apply below_drew1 | refine below_set ?_ GE371.out | refine below_set ?_ GE377.out) | exact HB.out)))); have n3_ := Aside0.mk (blk_below (g := gb371) (o := .cells #[.int .i64 t366, .slice Ao18 t367.length co18] 28 (0, 0)) (by (with_reducible repeat (first | refine blk_drewN ?_ _ | refine blk_drew ?_ | refine blk_alloc ?_ _)); refine blk_far ?_ NB371_377.out _; (with_reducible repeat (first | refine blk_drewN ?_ _ | refine blk_drew ?_ | refine blk_alloc ?_ _)); refine blk_far ?_ NB371_377.out _; (with_reducible repeat (first | refine blk_drewN ?_ _ | refine blk_drew ?_ | refine blk_alloc ?_ _)); exact BK371.out) hb); have n4_ := Aside0.mk (blk_below (g := gb377) (o := .cells #[.int .i64 t372, .slice Ao23 t373.length co23] 28 (0, 0)) (by (with_reducible repeat (first | refine blk_drewN ?_ _ | refine blk_drew ?_ | refine blk_alloc ?_ _)); refine blk_put (cs := #[.int .i64 t372, .slice none 0 0]) ?_ 1 _ rfl; (with_reducible repeat (first | refine blk_drewN ?_ _ | refine blk_drew ?_ | refine blk_alloc ?_ _)); refine blk_put (cs := #[.int .i64 0, .slice none 0 0]) ?_ 0 _ rfl; (with_reducible repeat (first | refine blk_drewN ?_ _ | refine blk_drew ?_ | refine blk_alloc ?_ _)); exact BK377.out) hb); have n5_ := Aside0.mk (below_step (by repeat (first | (with_reducible first | exact HB.out | apply below_alloc | apply pw_below_drewN | apply below_drew1 | refine below_set ?_ GE371.out | refine below_set ?_ GE377.out) | exact HB.out)) hb); clear HO369; clear HO375; clear BK371; clear BK377; clear HB; have HO369 := n0_; have HO375 := n1_; have HO381 := n2_; have BK371 := n3_; have BK377 := n4_; have HB := n5_; clear n0_ n1_ n2_ n3_ n4_ n5_; (try clear hb); (try clear hb2); (try clear hk); (try clear hi); (try clear ho0)) | ((with_reducible refine gate_dst (N := 11) rfl ?_); (try (refine gate_guard (by rfl) ?_; dsimp only)); refine box_event ?hg (N := 11) ?hd (cs := #[.int .i64 0, .slice none 0 0]) (t := 28) ?hr ?_; (case hd => rfl); (case hg => rfl); (case hr => first | (go_simp; done) | (go_simp; rfl)); intro gb383 hg w25 hbox hb; have n0_ := Aside0.mk (Kd.R_below (by (with_reducible repeat (first | apply Kd.R_alloc | apply Kd.R_drewN | apply Kd.R_drew)); exact HO369.out) hb); have n1_ := Aside0.mk (Kd.R_below (by (with_reducible repeat (first | apply Kd.R_alloc | apply Kd.R_drewN | apply Kd.R_drew)); exact HO375.out) hb); have n2_ := Aside0.mk (Kd.R_below (by (with_reducible repeat (first | apply Kd.R_alloc | apply Kd.R_drewN | apply Kd.R_drew)); exact HO381.out) hb); have n3_ := Aside0.mk (blk_below (g := gb371) (o := .cells #[.int .i64 t366, .slice Ao18 t367.length co18] 28 (0, 0)) (by (with_reducible repeat (first | refine blk_drewN ?_ _ | refine blk_drew ?_ | refine blk_alloc ?_ _)); exact BK371.out) hb); have n4_ := Aside0.mk (blk_below (g := gb377) (o := .cells #[.int .i64 t372, .slice Ao23 t373.length co23] 28 (0, 0)) (by (with_reducible repeat (first | refine blk_drewN ?_ _ | refine blk_drew ?_ | refine blk_alloc ?_ _)); exact BK377.out) hb); have n5_ := Aside0.mk (below_step (by repeat (first | (with_reducible first | exact HB.out | apply below_alloc | apply pw_below_drewN | apply below_drew1 | refine below_set ?_ GE371.out | refine below_set ?_ GE377.out) | exact HB.out)) hb); have n6_ := Aside0.mk (hbox); have n7_ := Aside0.mk ((by rw [hg]; exact (below_size (by repeat (first | (with_reducible first | exact HB.out | apply below_alloc | apply pw_below_drewN | apply below_drew1 | refine below_set ?_ GE371.out | refine below_set ?_ GE377.out) | exact HB.out))) : w.heap.size ≤ gb383)); have n8_ := Aside0.mk ((by rw [hg]; exact (below_size (by repeat (first | (with_reducible first | exact HB.out | apply below_alloc | apply pw_below_drewN | apply below_drew1 | refine below_set ?_ GE371.out | refine below_set ?_ GE377.out) | exact HB.out))) : w.heap.size ≤ gb383)); have n9_ := Aside0.mk ((by rw [hg]; exact Nat.ne_of_lt (blk_lt (g := gb371) (o := .cells #[.int .i64 t366, .slice Ao18 t367.length co18] 28 (0, 0)) (by (with_reducible repeat (first | refine blk_drewN ?_ _ | refine blk_drew ?_ | refine blk_alloc ?_ _)); exact BK371.out)) : gb371 ≠ gb383)); have n10_ := Aside0.mk ((by rw [hg]; exact Nat.ne_of_gt (blk_lt (g := gb371) (o := .cells #[.int .i64 t366, .slice Ao18 t367.length co18] 28 (0, 0)) (by (with_reducible repeat (first | refine blk_drewN ?_ _ | refine blk_drew ?_ | refine blk_alloc ?_ _)); exact BK371.out)) : gb383 ≠ gb371)); have n11_ := Aside0.mk ((by rw [hg]; exact Nat.ne_of_lt (blk_lt (g := gb377) (o := .cells #[.int .i64 t372, .slice Ao23 t373.length co23] 28 (0, 0)) (by (with_reducible repeat (first | refine blk_drewN ?_ _ | refine blk_drew ?_ | refine blk_alloc ?_ _)); exact BK377.out)) : gb377 ≠ gb383)); have n12_ := Aside0.mk ((by rw [hg]; exact Nat.ne_of_gt (blk_lt (g := gb377) (o := .cells #[.int .i64 t372, .slice Ao23 t373.length co23] 28 (0, 0)) (by (with_reducible repeat (first | refine blk_drewN ?_ _ | refine blk_drew ?_ | refine blk_alloc ?_ _)); exact BK377.out)) : gb383 ≠ gb377)); clear HO369; clear HO375; clear HO381; clear BK371; clear BK377; clear HB; have HO369 := n0_; have HO375 := n1_; have HO381 := n2_; have BK371 := n3_; have BK377 := n4_; have HB := n5_; have BK383 := n6_; have GW383 := n7_; have GE383 := n8_; have NB371_383 := n9_; have NB383_371 := n10_; have NB377_383 := n11_; have NB383_377 := n12_; clear n0_ n1_ n2_ n3_ n4_ n5_ n6_ n7_ n8_ n9_ n10_ n11_ n12_; clear hb hbox hg; have hnb26 := NB383_371.out; have hnc26 := NB371_383.out; have hnb27 := NB383_377.out; have hnc27 := NB377_383.out; have hcz28_0 : w25.cell? ⟨gb383, 0, none⟩ = some (.int .i64 0) := (blk_cell BK383.out 0).trans rfl; have hcz28_1 : w25.cell? ⟨gb383, 1, none⟩ = some (.slice none 0 0) := (blk_cell BK383.out 1).trans rfl; have hfz28_0 := blk_frozen BK383.out 0; have hfz28_1 := blk_frozen BK383.out 1; obtain ⟨Ao29, co29, eo29⟩ := Kd.R_slice HO381.out; subst eo29) | ((with_reducible refine gate_callee (f := 9) rfl ?_); refine goesL_ (some 63) rfl rfl Try.func9 (by kernel_rfl) rfl #[.slice A1 l1.length c1, .int .i64 0, .int .i64 ji8] rfl (by (try simp only [List.map_toArray, List.map_cons, List.map_nil]); first | done | (simp only [hji8]; rfl) | rfl | (simp only [List.length_drop, List.length_take]; rfl)) ?_; (with_reducible refine (laws_r8At.calls _ _ l1 0 ji8 t384 _ ?side1 ?side2 A12.out).mono ?_); (case side1 => exact Kd.C_below HR1.out (by repeat (first | (with_reducible first | exact HB.out | apply below_alloc | apply pw_below_drewN | apply below_drew1 | refine below_set ?_ GE371.out | refine below_set ?_ GE377.out | refine below_set ?_ GE383.out) | exact HB.out))); (case side2 => first | exact trivial | (exact HC1.out)); rintro e w' ⟨rfl, ⟨nd, rfl⟩⟩; refine ⟨_, rfl, ?_⟩) | ((with_reducible refine gate_callee (f := 21) rfl ?_); refine goesL_ (some 68) rfl rfl Try.func21 (by kernel_rfl) rfl #[.int .i64 (wrap64 (1 + t365)), .int .i64 (wrap64 (1 + t384))] rfl (by (try simp only [List.map_toArray, List.map_cons, List.map_nil]); first | done | rfl | (simp only [List.length_drop, List.length_take]; rfl)) ?_; (with_reducible refine (impl_BinaryCounter.calls k (wrap64 (1 + t365)) (wrap64 (1 + t384)) t385 t386 t389 _ A13.out).mono ?_); rintro e w30 ⟨v387, rfl, ho0, hb⟩; refine ⟨_, rfl, ?_⟩; have n0_ := Aside0.mk (Kd.R_elder' (by (with_reducible repeat (first | apply Kd.R_alloc | apply Kd.R_drewN | apply Kd.R_drew)); exact (Kd.R_mono (Kd.R_far (p := ⟨gb383, 1, none⟩) (Kd.R_far (p := ⟨gb383, 0, none⟩) (Kd.R_types HO369.out BK383.out (by decide)) (fun _ hk => hk.2) (.int .i64 t378)) (fun _ hk => hk.2) (.slice Ao29 t379.length co29)) (fun _ h_ => h_.1))) (Kd.R_base ho0) hb); have n1_ := Aside0.mk (Kd.R_elder' (by (with_reducible repeat (first | apply Kd.R_alloc | apply Kd.R_drewN | apply Kd.R_drew)); exact (Kd.R_mono (Kd.R_far (p := ⟨gb383, 1, none⟩) (Kd.R_far (p := ⟨gb383, 0, none⟩) (Kd.R_types HO375.out BK383.out (by decide)) (fun _ hk => hk.2) (.int .i64 t378)) (fun _ hk => hk.2) (.slice Ao29 t379.length co29)) (fun _ h_ => h_.1))) (Kd.R_base ho0) hb); have n2_ := Aside0.mk (Kd.R_elder' (by (with_reducible repeat (first | apply Kd.R_alloc | apply Kd.R_drewN | apply Kd.R_drew)); exact (Kd.R_mono (Kd.R_far (p := ⟨gb383, 1, none⟩) (Kd.R_far (p := ⟨gb383, 0, none⟩) (Kd.R_types HO381.out BK383.out (by decide)) (fun _ hk => hk.2) (.int .i64 t378)) (fun _ hk => hk.2) (.slice Ao29 t379.length co29)) (fun _ h_ => h_.1))) (Kd.R_base ho0) hb); have n3_ := Aside0.mk (Kd.R_lower (Kd.R_new' (Kd.R_new' (Kd.R_new' ho0 (Kd.R_lt (by (with_reducible repeat (first | apply Kd.R_alloc | apply Kd.R_drewN | apply Kd.R_drew)); exact (Kd.R_mono (Kd.R_far (p := ⟨gb383, 1, none⟩) (Kd.R_far (p := ⟨gb383, 0, none⟩) (Kd.R_types HO369.out BK383.out (by decide)) (fun _ hk => hk.2) (.int .i64 t378)) (fun _ hk => hk.2) (.slice Ao29 t379.length co29)) (fun _ h_ => h_.1))))) (Kd.R_lt (by (with_reducible repeat (first | apply Kd.R_alloc | apply Kd.R_drewN | apply Kd.R_drew)); exact (Kd.R_mono (Kd.R_far (p := ⟨gb383, 1, none⟩) (Kd.R_far (p := ⟨gb383, 0, none⟩) (Kd.R_types HO375.out BK383.out (by decide)) (fun _ hk => hk.2) (.int .i64 t378)) (fun _ hk => hk.2) (.slice Ao29 t379.length co29)) (fun _ h_ => h_.1))))) (Kd.R_lt (by (with_reducible repeat (first | apply Kd.R_alloc | apply Kd.R_drewN | apply Kd.R_drew)); exact (Kd.R_mono (Kd.R_far (p := ⟨gb383, 1, none⟩) (Kd.R_far (p := ⟨gb383, 0, none⟩) (Kd.R_types HO381.out BK383.out (by decide)) (fun _ hk => hk.2) (.int .i64 t378)) (fun _ hk => hk.2) (.slice Ao29 t379.length co29)) (fun _ h_ => h_.1))))) (below_size (by repeat (first | (with_reducible first | exact HB.out | apply below_alloc | apply pw_below_drewN | apply below_drew1 | refine below_set ?_ GE371.out | refine below_set ?_ GE377.out | refine below_set ?_ GE383.out) | exact HB.out)))); have n4_ := Aside0.mk (blk_below (g := gb371) (o := .cells #[.int .i64 t366, .slice Ao18 t367.length co18] 28 (0, 0)) (by (with_reducible repeat (first | refine blk_drewN ?_ _ | refine blk_drew ?_ | refine blk_alloc ?_ _)); refine blk_far ?_ NB371_383.out _; (with_reducible repeat (first | refine blk_drewN ?_ _ | refine blk_drew ?_ | refine blk_alloc ?_ _)); refine blk_far ?_ NB371_383.out _; (with_reducible repeat (first | refine blk_drewN ?_ _ | refine blk_drew ?_ | refine blk_alloc ?_ _)); exact BK371.out) hb); have n5_ := Aside0.mk (blk_below (g := gb377) (o := .cells #[.int .i64 t372, .slice Ao23 t373.length co23] 28 (0, 0)) (by (with_reducible repeat (first | refine blk_drewN ?_ _ | refine blk_drew ?_ | refine blk_alloc ?_ _)); refine blk_far ?_ NB377_383.out _; (with_reducible repeat (first | refine blk_drewN ?_ _ | refine blk_drew ?_ | refine blk_alloc ?_ _)); refine blk_far ?_ NB377_383.out _; (with_reducible repeat (first | refine blk_drewN ?_ _ | refine blk_drew ?_ | refine blk_alloc ?_ _)); exact BK377.out) hb); have n6_ := Aside0.mk (blk_below (g := gb383) (o := .cells #[.int .i64 t378, .slice Ao29 t379.length co29] 28 (0, 0)) (by (with_reducible repeat (first | refine blk_drewN ?_ _ | refine blk_drew ?_ | refine blk_alloc ?_ _)); refine blk_put (cs := #[.int .i64 t378, .slice none 0 0]) ?_ 1 _ rfl; (with_reducible repeat (first | refine blk_drewN ?_ _ | refine blk_drew ?_ | refine blk_alloc ?_ _)); refine blk_put (cs := #[.int .i64 0, .slice none 0 0]) ?_ 0 _ rfl; (with_reducible repeat (first | refine blk_drewN ?_ _ | refine blk_drew ?_ | refine blk_alloc ?_ _)); exact BK383.out) hb); have n7_ := Aside0.mk (below_step (by repeat (first | (with_reducible first | exact HB.out | apply below_alloc | apply pw_below_drewN | apply below_drew1 | refine below_set ?_ GE371.out | refine below_set ?_ GE377.out | refine below_set ?_ GE383.out) | exact HB.out)) hb); clear HO369; clear HO375; clear HO381; clear BK371; clear BK377; clear BK383; clear HB; have HO369 := n0_; have HO375 := n1_; have HO381 := n2_; have HO388 := n3_; have BK371 := n4_; have BK377 := n5_; have BK383 := n6_; have HB := n7_; clear n0_ n1_ n2_ n3_ n4_ n5_ n6_ n7_; (try clear hb); (try clear hb2); (try clear hk); (try clear hi); (try clear ho0)) | ((with_reducible refine gate_dst (N := 14) rfl ?_); (try (refine gate_guard (by rfl) ?_; dsimp only)); refine box_event ?hg (N := 14) ?hd (cs := #[.int .i64 0, .slice none 0 0]) (t := 28) ?hr ?_; (case hd => rfl); (case hg => rfl); (case hr => first | (go_simp; done) | (go_simp; rfl)); intro gb390 hg w31 hbox hb; have n0_ := Aside0.mk (Kd.R_below (by (with_reducible repeat (first | apply Kd.R_alloc | apply Kd.R_drewN | apply Kd.R_drew)); exact HO369.out) hb); have n1_ := Aside0.mk (Kd.R_below (by (with_reducible repeat (first | apply Kd.R_alloc | apply Kd.R_drewN | apply Kd.R_drew)); exact HO375.out) hb); have n2_ := Aside0.mk (Kd.R_below (by (with_reducible repeat (first | apply Kd.R_alloc | apply Kd.R_drewN | apply Kd.R_drew)); exact HO381.out) hb); have n3_ := Aside0.mk (Kd.R_below (by (with_reducible repeat (first | apply Kd.R_alloc | apply Kd.R_drewN | apply Kd.R_drew)); exact HO388.out) hb); have n4_ := Aside0.mk (blk_below (g := gb371) (o := .cells #[.int .i64 t366, .slice Ao18 t367.length co18] 28 (0, 0)) (by (with_reducible repeat (first | refine blk_drewN ?_ _ | refine blk_drew ?_ | refine blk_alloc ?_ _)); exact BK371.out) hb); have n5_ := Aside0.mk (blk_below (g := gb377) (o := .cells #[.int .i64 t372, .slice Ao23 t373.length co23] 28 (0, 0)) (by (with_reducible repeat (first | refine blk_drewN ?_ _ | refine blk_drew ?_ | refine blk_alloc ?_ _)); exact BK377.out) hb); have n6_ := Aside0.mk (blk_below (g := gb383) (o := .cells #[.int .i64 t378, .slice Ao29 t379.length co29] 28 (0, 0)) (by (with_reducible repeat (first | refine blk_drewN ?_ _ | refine blk_drew ?_ | refine blk_alloc ?_ _)); exact BK383.out) hb); have n7_ := Aside0.mk (below_step (by repeat (first | (with_reducible first | exact HB.out | apply below_alloc | apply pw_below_drewN | apply below_drew1 | refine below_set ?_ GE371.out | refine below_set ?_ GE377.out | refine below_set ?_ GE383.out) | exact HB.out)) hb); have n8_ := Aside0.mk (hbox); have n9_ := Aside0.mk ((by rw [hg]; exact (below_size (by repeat (first | (with_reducible first | exact HB.out | apply below_alloc | apply pw_below_drewN | apply below_drew1 | refine below_set ?_ GE371.out | refine below_set ?_ GE377.out | refine below_set ?_ GE383.out) | exact HB.out))) : w.heap.size ≤ gb390)); have n10_ := Aside0.mk ((by rw [hg]; exact (below_size (by repeat (first | (with_reducible first | exact HB.out | apply below_alloc | apply pw_below_drewN | apply below_drew1 | refine below_set ?_ GE371.out | refine below_set ?_ GE377.out | refine below_set ?_ GE383.out) | exact HB.out))) : w.heap.size ≤ gb390)); have n11_ := Aside0.mk ((by rw [hg]; exact Nat.ne_of_lt (blk_lt (g := gb371) (o := .cells #[.int .i64 t366, .slice Ao18 t367.length co18] 28 (0, 0)) (by (with_reducible repeat (first | refine blk_drewN ?_ _ | refine blk_drew ?_ | refine blk_alloc ?_ _)); exact BK371.out)) : gb371 ≠ gb390)); have n12_ := Aside0.mk ((by rw [hg]; exact Nat.ne_of_gt (blk_lt (g := gb371) (o := .cells #[.int .i64 t366, .slice Ao18 t367.length co18] 28 (0, 0)) (by (with_reducible repeat (first | refine blk_drewN ?_ _ | refine blk_drew ?_ | refine blk_alloc ?_ _)); exact BK371.out)) : gb390 ≠ gb371)); have n13_ := Aside0.mk ((by rw [hg]; exact Nat.ne_of_lt (blk_lt (g := gb377) (o := .cells #[.int .i64 t372, .slice Ao23 t373.length co23] 28 (0, 0)) (by (with_reducible repeat (first | refine blk_drewN ?_ _ | refine blk_drew ?_ | refine blk_alloc ?_ _)); exact BK377.out)) : gb377 ≠ gb390)); have n14_ := Aside0.mk ((by rw [hg]; exact Nat.ne_of_gt (blk_lt (g := gb377) (o := .cells #[.int .i64 t372, .slice Ao23 t373.length co23] 28 (0, 0)) (by (with_reducible repeat (first | refine blk_drewN ?_ _ | refine blk_drew ?_ | refine blk_alloc ?_ _)); exact BK377.out)) : gb390 ≠ gb377)); have n15_ := Aside0.mk ((by rw [hg]; exact Nat.ne_of_lt (blk_lt (g := gb383) (o := .cells #[.int .i64 t378, .slice Ao29 t379.length co29] 28 (0, 0)) (by (with_reducible repeat (first | refine blk_drewN ?_ _ | refine blk_drew ?_ | refine blk_alloc ?_ _)); exact BK383.out)) : gb383 ≠ gb390)); have n16_ := Aside0.mk ((by rw [hg]; exact Nat.ne_of_gt (blk_lt (g := gb383) (o := .cells #[.int .i64 t378, .slice Ao29 t379.length co29] 28 (0, 0)) (by (with_reducible repeat (first | refine blk_drewN ?_ _ | refine blk_drew ?_ | refine blk_alloc ?_ _)); exact BK383.out)) : gb390 ≠ gb383)); clear HO369; clear HO375; clear HO381; clear HO388; clear BK371; clear BK377; clear BK383; clear HB; have HO369 := n0_; have HO375 := n1_; have HO381 := n2_; have HO388 := n3_; have BK371 := n4_; have BK377 := n5_; have BK383 := n6_; have HB := n7_; have BK390 := n8_; have GW390 := n9_; have GE390 := n10_; have NB371_390 := n11_; have NB390_371 := n12_; have NB377_390 := n13_; have NB390_377 := n14_; have NB383_390 := n15_; have NB390_383 := n16_; clear n0_ n1_ n2_ n3_ n4_ n5_ n6_ n7_ n8_ n9_ n10_ n11_ n12_ n13_ n14_ n15_ n16_; clear hb hbox hg; have hnb32 := NB390_371.out; have hnc32 := NB371_390.out; have hnb33 := NB390_377.out; have hnc33 := NB377_390.out; have hnb34 := NB390_383.out; have hnc34 := NB383_390.out; have hcz35_0 : w31.cell? ⟨gb390, 0, none⟩ = some (.int .i64 0) := (blk_cell BK390.out 0).trans rfl; have hcz35_1 : w31.cell? ⟨gb390, 1, none⟩ = some (.slice none 0 0) := (blk_cell BK390.out 1).trans rfl; have hfz35_0 := blk_frozen BK390.out 0; have hfz35_1 := blk_frozen BK390.out 1; obtain ⟨Ao36, co36, eo36⟩ := Kd.R_slice HO388.out; subst eo36))
      (try simp only [Act.put, List.setIfInBounds_toArray, List.set_cons_zero, List.set_cons_succ])
      go_cut [84] (fun v84 wc => ∃ (kq : Nat) (x84_13 : Bool), v84 = .bool x84_13 ∧ Aside0 (laws_FnKnownCounters.j0 kq l1 (wrap64 (1 + t365)) ji8 (wrap64 (1 + t384)) x84_13 t366 t367 t372 t373 t378 t379 t385 t386 = some r) ∧ Aside0 (kq ≤ k) ∧ Aside0 (Kd.R (Kd.int .i64) 2 wc w.heap.size (fun k_ => some k_ ≠ ((.slice Ao23 t373.length co23) : Value).ownBlock ∧ some k_ ≠ ((.slice Ao29 t379.length co29) : Value).ownBlock ∧ some k_ ≠ ((.slice Ao36 t386.length co36) : Value).ownBlock) (.slice Ao18 t367.length co18) t367) ∧ Aside0 (Kd.R (Kd.int .i64) 2 wc w.heap.size (fun k_ => some k_ ≠ ((.slice Ao18 t367.length co18) : Value).ownBlock ∧ some k_ ≠ ((.slice Ao29 t379.length co29) : Value).ownBlock ∧ some k_ ≠ ((.slice Ao36 t386.length co36) : Value).ownBlock) (.slice Ao23 t373.length co23) t373) ∧ Aside0 (Kd.R (Kd.int .i64) 2 wc w.heap.size (fun k_ => some k_ ≠ ((.slice Ao18 t367.length co18) : Value).ownBlock ∧ some k_ ≠ ((.slice Ao23 t373.length co23) : Value).ownBlock ∧ some k_ ≠ ((.slice Ao36 t386.length co36) : Value).ownBlock) (.slice Ao29 t379.length co29) t379) ∧ Aside0 (Kd.R (Kd.int .i64) 2 wc w.heap.size (fun k_ => some k_ ≠ ((.slice Ao18 t367.length co18) : Value).ownBlock ∧ some k_ ≠ ((.slice Ao23 t373.length co23) : Value).ownBlock ∧ some k_ ≠ ((.slice Ao29 t379.length co29) : Value).ownBlock) (.slice Ao36 t386.length co36) t386) ∧ Aside0 (wc.heap[gb371]? = some (.cells #[.int .i64 t366, (.slice Ao18 t367.length co18)] 28 (0, 0))) ∧ Aside0 (wc.heap[gb377]? = some (.cells #[.int .i64 t372, (.slice Ao23 t373.length co23)] 28 (0, 0))) ∧ Aside0 (wc.heap[gb383]? = some (.cells #[.int .i64 t378, (.slice Ao29 t379.length co29)] 28 (0, 0))) ∧ Aside0 (wc.heap[gb390]? = some (.cells #[.int .i64 t385, (.slice Ao36 t386.length co36)] 28 (0, 0))) ∧ Aside0 (Below w.heap.size w wc))
      case first =>
        have H := HC14.out
        clear HC14
        by_cases c37 : t370 = true
        · subst c37
          have H1 : (if t376 = true then (if t382 = true then (laws_FnKnownCounters.j0 k l1 (wrap64 (1 + t365)) ji8 (wrap64 (1 + t384)) (!t389) t366 t367 t372 t373 t378 t379 t385 t386) else (laws_FnKnownCounters.j0 k l1 (wrap64 (1 + t365)) ji8 (wrap64 (1 + t384)) true t366 t367 t372 t373 t378 t379 t385 t386)) else (laws_FnKnownCounters.j0 k l1 (wrap64 (1 + t365)) ji8 (wrap64 (1 + t384)) true t366 t367 t372 t373 t378 t379 t385 t386)) = some r := by rw [if_pos rfl] at H; exact H
          clear H
          have H := H1
          clear H1
          by_cases c38 : t376 = true
          · subst c38
            have H1 : (if t382 = true then (laws_FnKnownCounters.j0 k l1 (wrap64 (1 + t365)) ji8 (wrap64 (1 + t384)) (!t389) t366 t367 t372 t373 t378 t379 t385 t386) else (laws_FnKnownCounters.j0 k l1 (wrap64 (1 + t365)) ji8 (wrap64 (1 + t384)) true t366 t367 t372 t373 t378 t379 t385 t386)) = some r := by rw [if_pos rfl] at H; exact H
            clear H
            have H := H1
            clear H1
            by_cases c39 : t382 = true
            · subst c39
              have H1 : (laws_FnKnownCounters.j0 k l1 (wrap64 (1 + t365)) ji8 (wrap64 (1 + t384)) (!t389) t366 t367 t372 t373 t378 t379 t385 t386) = some r := by rw [if_pos rfl] at H; exact H
              clear H
              have H := H1
              clear H1
              have H' := Aside0.mk H
              clear H
              go_wp2
              go_meet
              case rel => exact ⟨_, (!t389), (by first | rfl | (simp; done) | (simp [*]; done)), H', ⟨by first | omega | exact Nat.le_refl _⟩, ⟨by (with_reducible repeat (first | apply Kd.R_alloc | apply Kd.R_drewN | apply Kd.R_drew)); exact Kd.R_mono (Kd.R_far (p := ⟨gb390, 1, none⟩) (Kd.R_far (p := ⟨gb390, 0, none⟩) (Kd.R_types HO369.out BK390.out (by decide)) (fun _ hk => hk.2) (.int .i64 t385)) (fun _ hk => hk.2) (.slice Ao36 t386.length co36)) (fun _ hk => ⟨hk.1.1.1.2, ⟨hk.1.1.2, hk.1.2⟩⟩)⟩, ⟨by (with_reducible repeat (first | apply Kd.R_alloc | apply Kd.R_drewN | apply Kd.R_drew)); exact Kd.R_mono (Kd.R_far (p := ⟨gb390, 1, none⟩) (Kd.R_far (p := ⟨gb390, 0, none⟩) (Kd.R_types HO375.out BK390.out (by decide)) (fun _ hk => hk.2) (.int .i64 t385)) (fun _ hk => hk.2) (.slice Ao36 t386.length co36)) (fun _ hk => ⟨hk.1.1.1.2, ⟨hk.1.1.2, hk.1.2⟩⟩)⟩, ⟨by (with_reducible repeat (first | apply Kd.R_alloc | apply Kd.R_drewN | apply Kd.R_drew)); exact Kd.R_mono (Kd.R_far (p := ⟨gb390, 1, none⟩) (Kd.R_far (p := ⟨gb390, 0, none⟩) (Kd.R_types HO381.out BK390.out (by decide)) (fun _ hk => hk.2) (.int .i64 t385)) (fun _ hk => hk.2) (.slice Ao36 t386.length co36)) (fun _ hk => ⟨hk.1.1.1.2, ⟨hk.1.1.2, hk.1.2⟩⟩)⟩, ⟨by (with_reducible repeat (first | apply Kd.R_alloc | apply Kd.R_drewN | apply Kd.R_drew)); exact Kd.R_mono (Kd.R_far (p := ⟨gb390, 1, none⟩) (Kd.R_far (p := ⟨gb390, 0, none⟩) (Kd.R_types HO388.out BK390.out (by decide)) (fun _ hk => hk.2) (.int .i64 t385)) (fun _ hk => hk.2) (.slice Ao36 t386.length co36)) (fun _ hk => ⟨hk.1.1.1.2, ⟨hk.1.1.2, hk.1.2⟩⟩)⟩, ⟨by (with_reducible repeat (first | refine blk_drewN ?_ _ | refine blk_drew ?_ | refine blk_alloc ?_ _)); refine blk_far ?_ NB371_390.out _; (with_reducible repeat (first | refine blk_drewN ?_ _ | refine blk_drew ?_ | refine blk_alloc ?_ _)); refine blk_far ?_ NB371_390.out _; (with_reducible repeat (first | refine blk_drewN ?_ _ | refine blk_drew ?_ | refine blk_alloc ?_ _)); exact BK371.out⟩, ⟨by (with_reducible repeat (first | refine blk_drewN ?_ _ | refine blk_drew ?_ | refine blk_alloc ?_ _)); refine blk_far ?_ NB377_390.out _; (with_reducible repeat (first | refine blk_drewN ?_ _ | refine blk_drew ?_ | refine blk_alloc ?_ _)); refine blk_far ?_ NB377_390.out _; (with_reducible repeat (first | refine blk_drewN ?_ _ | refine blk_drew ?_ | refine blk_alloc ?_ _)); exact BK377.out⟩, ⟨by (with_reducible repeat (first | refine blk_drewN ?_ _ | refine blk_drew ?_ | refine blk_alloc ?_ _)); refine blk_far ?_ NB383_390.out _; (with_reducible repeat (first | refine blk_drewN ?_ _ | refine blk_drew ?_ | refine blk_alloc ?_ _)); refine blk_far ?_ NB383_390.out _; (with_reducible repeat (first | refine blk_drewN ?_ _ | refine blk_drew ?_ | refine blk_alloc ?_ _)); exact BK383.out⟩, ⟨by (with_reducible repeat (first | refine blk_drewN ?_ _ | refine blk_drew ?_ | refine blk_alloc ?_ _)); refine blk_put (cs := #[.int .i64 t385, .slice none 0 0]) ?_ 1 _ rfl; (with_reducible repeat (first | refine blk_drewN ?_ _ | refine blk_drew ?_ | refine blk_alloc ?_ _)); refine blk_put (cs := #[.int .i64 0, .slice none 0 0]) ?_ 0 _ rfl; (with_reducible repeat (first | refine blk_drewN ?_ _ | refine blk_drew ?_ | refine blk_alloc ?_ _)); exact BK390.out⟩, ⟨by repeat (first | (with_reducible first | exact HB.out | apply below_alloc | apply pw_below_drewN | apply below_drew1 | refine below_set ?_ GE371.out | refine below_set ?_ GE377.out | refine below_set ?_ GE383.out | refine below_set ?_ GE390.out) | exact HB.out)⟩⟩
            · replace c39 := Bool.eq_false_iff.mpr c39
              subst c39
              have H1 : (laws_FnKnownCounters.j0 k l1 (wrap64 (1 + t365)) ji8 (wrap64 (1 + t384)) true t366 t367 t372 t373 t378 t379 t385 t386) = some r := by rw [if_neg (show ¬ (false = true) by decide)] at H; exact H
              exact absurd HRT.out (by rw [laws_FnKnownCounters.j0_no _ _ _ _ _ _ _ _ _ _ _ _ _ _ H1]; decide)
          · replace c38 := Bool.eq_false_iff.mpr c38
            subst c38
            have H1 : (laws_FnKnownCounters.j0 k l1 (wrap64 (1 + t365)) ji8 (wrap64 (1 + t384)) true t366 t367 t372 t373 t378 t379 t385 t386) = some r := by rw [if_neg (show ¬ (false = true) by decide)] at H; exact H
            exact absurd HRT.out (by rw [laws_FnKnownCounters.j0_no _ _ _ _ _ _ _ _ _ _ _ _ _ _ H1]; decide)
        · replace c37 := Bool.eq_false_iff.mpr c37
          subst c37
          have H1 : (laws_FnKnownCounters.j0 k l1 (wrap64 (1 + t365)) ji8 (wrap64 (1 + t384)) true t366 t367 t372 t373 t378 t379 t385 t386) = some r := by rw [if_neg (show ¬ (false = true) by decide)] at H; exact H
          exact absurd HRT.out (by rw [laws_FnKnownCounters.j0_no _ _ _ _ _ _ _ _ _ _ _ _ _ _ H1]; decide)
      case rest =>
        clear HC14
        try clear c1
        try clear c2
        try clear p2
        try clear c3
        try clear c4
        try clear p6
        try clear c7
        try clear c7b0
        try clear c7b1
        try clear c8
        try clear c9
        try clear c13
        try clear c18
        try clear c20
        try clear c21
        try clear c26
        try clear c27
        try clear c32
        try clear c33
        try clear c34
        try clear c37
        try clear c38
        try clear c39
        try clear hcz17_0
        try clear hcz17_1
        try clear hcz22_0
        try clear hcz22_1
        try clear hcz28_0
        try clear hcz28_1
        try clear hcz35_0
        try clear hcz35_1
        try clear hfz17_0
        try clear hfz17_1
        try clear hfz22_0
        try clear hfz22_1
        try clear hfz28_0
        try clear hfz28_1
        try clear hfz35_0
        try clear hfz35_1
        obtain ⟨kq, x84_13, rfl, HA, HJ13, HO_372001, HO_378001, HO_384001, HO_391001, BK371, BK377, BK383, BK390, HB⟩ := hcut
        cases kq with
        | zero => exact absurd HA.out (by simp [laws_FnKnownCounters.j0])
        | succ kj13 =>
          have H := HA.out
          clear HA
          simp only [laws_FnKnownCounters.j0] at H
          by_cases c40 : x84_13 = true
          · subst c40
            have H1 : (some false) = some r := by rw [if_pos rfl] at H; exact H
            clear H
            have H := H1
            clear H1
            exact absurd (Option.some.inj (H.trans (congrArg some HRT.out))) (by decide)
          · replace c40 := Bool.eq_false_iff.mpr c40
            subst c40
            have H1 : ((impl_StateAfter.f kj13 t366 t367 1 (wrap64 (1 + t365))).bind fun bt391 => ((impl_StateAfter.f kj13 t372 t373 0 (wrap64 (2 * (wrap64 (1 + t365))))).bind fun bt393 => ((impl_StateAfter.f kj13 t372 t373 0 (wrap64 (1 + t365))).bind fun bt395 => ((impl_MostChanged.f kj13 t378 t379 0).bind fun bt397 => ((impl_RingsOf.f kj13 t378 t379).bind fun bt399 => ((impl_StateAfter.f kj13 t385 t386 0 (wrap64 (1 + t384))).bind fun bt403 => (if bt391.2 = true then (if bt393.2 = true then (if bt395.2 = true then (if bt397.2 = true then (if bt399.2 = true then (if bt403.2 = true then (if bt391.1 = 1 then (if bt393.1 = 0 then (if bt395.1 = (wrap64 (ji8 - 1)) then (if bt397.1 = 1 then (if (bt399.1.length : Int) = 1 then (if 0 < (bt399.1.length : Int) then (if ((rd_L2 bt399.1 0).length : Int) = ji8 then (if bt403.1 = 0 then ((impl_IsSelfStarting.f kj13 t385 t386 0).bind fun t406 => (laws_FnKnownCounters.j1 kj13 l1 (wrap64 (1 + t365)) ji8 (!t406) t378 t379)) else (laws_FnKnownCounters.j1 kj13 l1 (wrap64 (1 + t365)) ji8 true t378 t379)) else (laws_FnKnownCounters.j1 kj13 l1 (wrap64 (1 + t365)) ji8 true t378 t379)) else (none)) else (laws_FnKnownCounters.j1 kj13 l1 (wrap64 (1 + t365)) ji8 true t378 t379)) else (laws_FnKnownCounters.j1 kj13 l1 (wrap64 (1 + t365)) ji8 true t378 t379)) else (laws_FnKnownCounters.j1 kj13 l1 (wrap64 (1 + t365)) ji8 true t378 t379)) else (laws_FnKnownCounters.j1 kj13 l1 (wrap64 (1 + t365)) ji8 true t378 t379)) else (laws_FnKnownCounters.j1 kj13 l1 (wrap64 (1 + t365)) ji8 true t378 t379)) else (laws_FnKnownCounters.j1 kj13 l1 (wrap64 (1 + t365)) ji8 true t378 t379)) else (laws_FnKnownCounters.j1 kj13 l1 (wrap64 (1 + t365)) ji8 true t378 t379)) else (laws_FnKnownCounters.j1 kj13 l1 (wrap64 (1 + t365)) ji8 true t378 t379)) else (laws_FnKnownCounters.j1 kj13 l1 (wrap64 (1 + t365)) ji8 true t378 t379)) else (laws_FnKnownCounters.j1 kj13 l1 (wrap64 (1 + t365)) ji8 true t378 t379)) else (laws_FnKnownCounters.j1 kj13 l1 (wrap64 (1 + t365)) ji8 true t378 t379)))))))) = some r := by rw [if_neg (show ¬ (false = true) by decide)] at H; exact H
            clear H
            have H := H1
            clear H1
            replace H := Option.bind_eq_some_iff.mp H
            obtain ⟨⟨t391, t392⟩, A410, H⟩ := H
            replace H : ((impl_StateAfter.f kj13 t372 t373 0 (wrap64 (2 * (wrap64 (1 + t365))))).bind fun bt393 => ((impl_StateAfter.f kj13 t372 t373 0 (wrap64 (1 + t365))).bind fun bt395 => ((impl_MostChanged.f kj13 t378 t379 0).bind fun bt397 => ((impl_RingsOf.f kj13 t378 t379).bind fun bt399 => ((impl_StateAfter.f kj13 t385 t386 0 (wrap64 (1 + t384))).bind fun bt403 => (if t392 = true then (if bt393.2 = true then (if bt395.2 = true then (if bt397.2 = true then (if bt399.2 = true then (if bt403.2 = true then (if t391 = 1 then (if bt393.1 = 0 then (if bt395.1 = (wrap64 (ji8 - 1)) then (if bt397.1 = 1 then (if (bt399.1.length : Int) = 1 then (if 0 < (bt399.1.length : Int) then (if ((rd_L2 bt399.1 0).length : Int) = ji8 then (if bt403.1 = 0 then ((impl_IsSelfStarting.f kj13 t385 t386 0).bind fun t406 => (laws_FnKnownCounters.j1 kj13 l1 (wrap64 (1 + t365)) ji8 (!t406) t378 t379)) else (laws_FnKnownCounters.j1 kj13 l1 (wrap64 (1 + t365)) ji8 true t378 t379)) else (laws_FnKnownCounters.j1 kj13 l1 (wrap64 (1 + t365)) ji8 true t378 t379)) else (none)) else (laws_FnKnownCounters.j1 kj13 l1 (wrap64 (1 + t365)) ji8 true t378 t379)) else (laws_FnKnownCounters.j1 kj13 l1 (wrap64 (1 + t365)) ji8 true t378 t379)) else (laws_FnKnownCounters.j1 kj13 l1 (wrap64 (1 + t365)) ji8 true t378 t379)) else (laws_FnKnownCounters.j1 kj13 l1 (wrap64 (1 + t365)) ji8 true t378 t379)) else (laws_FnKnownCounters.j1 kj13 l1 (wrap64 (1 + t365)) ji8 true t378 t379)) else (laws_FnKnownCounters.j1 kj13 l1 (wrap64 (1 + t365)) ji8 true t378 t379)) else (laws_FnKnownCounters.j1 kj13 l1 (wrap64 (1 + t365)) ji8 true t378 t379)) else (laws_FnKnownCounters.j1 kj13 l1 (wrap64 (1 + t365)) ji8 true t378 t379)) else (laws_FnKnownCounters.j1 kj13 l1 (wrap64 (1 + t365)) ji8 true t378 t379)) else (laws_FnKnownCounters.j1 kj13 l1 (wrap64 (1 + t365)) ji8 true t378 t379)) else (laws_FnKnownCounters.j1 kj13 l1 (wrap64 (1 + t365)) ji8 true t378 t379))))))) = some r := H
            have A41 := Aside0.mk A410
            clear A410
            replace H := Option.bind_eq_some_iff.mp H
            obtain ⟨⟨t393, t394⟩, A420, H⟩ := H
            replace H : ((impl_StateAfter.f kj13 t372 t373 0 (wrap64 (1 + t365))).bind fun bt395 => ((impl_MostChanged.f kj13 t378 t379 0).bind fun bt397 => ((impl_RingsOf.f kj13 t378 t379).bind fun bt399 => ((impl_StateAfter.f kj13 t385 t386 0 (wrap64 (1 + t384))).bind fun bt403 => (if t392 = true then (if t394 = true then (if bt395.2 = true then (if bt397.2 = true then (if bt399.2 = true then (if bt403.2 = true then (if t391 = 1 then (if t393 = 0 then (if bt395.1 = (wrap64 (ji8 - 1)) then (if bt397.1 = 1 then (if (bt399.1.length : Int) = 1 then (if 0 < (bt399.1.length : Int) then (if ((rd_L2 bt399.1 0).length : Int) = ji8 then (if bt403.1 = 0 then ((impl_IsSelfStarting.f kj13 t385 t386 0).bind fun t406 => (laws_FnKnownCounters.j1 kj13 l1 (wrap64 (1 + t365)) ji8 (!t406) t378 t379)) else (laws_FnKnownCounters.j1 kj13 l1 (wrap64 (1 + t365)) ji8 true t378 t379)) else (laws_FnKnownCounters.j1 kj13 l1 (wrap64 (1 + t365)) ji8 true t378 t379)) else (none)) else (laws_FnKnownCounters.j1 kj13 l1 (wrap64 (1 + t365)) ji8 true t378 t379)) else (laws_FnKnownCounters.j1 kj13 l1 (wrap64 (1 + t365)) ji8 true t378 t379)) else (laws_FnKnownCounters.j1 kj13 l1 (wrap64 (1 + t365)) ji8 true t378 t379)) else (laws_FnKnownCounters.j1 kj13 l1 (wrap64 (1 + t365)) ji8 true t378 t379)) else (laws_FnKnownCounters.j1 kj13 l1 (wrap64 (1 + t365)) ji8 true t378 t379)) else (laws_FnKnownCounters.j1 kj13 l1 (wrap64 (1 + t365)) ji8 true t378 t379)) else (laws_FnKnownCounters.j1 kj13 l1 (wrap64 (1 + t365)) ji8 true t378 t379)) else (laws_FnKnownCounters.j1 kj13 l1 (wrap64 (1 + t365)) ji8 true t378 t379)) else (laws_FnKnownCounters.j1 kj13 l1 (wrap64 (1 + t365)) ji8 true t378 t379)) else (laws_FnKnownCounters.j1 kj13 l1 (wrap64 (1 + t365)) ji8 true t378 t379)) else (laws_FnKnownCounters.j1 kj13 l1 (wrap64 (1 + t365)) ji8 true t378 t379)))))) = some r := H
            have A42 := Aside0.mk A420
            clear A420
            replace H := Option.bind_eq_some_iff.mp H
            obtain ⟨⟨t395, t396⟩, A430, H⟩ := H
            replace H : ((impl_MostChanged.f kj13 t378 t379 0).bind fun bt397 => ((impl_RingsOf.f kj13 t378 t379).bind fun bt399 => ((impl_StateAfter.f kj13 t385 t386 0 (wrap64 (1 + t384))).bind fun bt403 => (if t392 = true then (if t394 = true then (if t396 = true then (if bt397.2 = true then (if bt399.2 = true then (if bt403.2 = true then (if t391 = 1 then (if t393 = 0 then (if t395 = (wrap64 (ji8 - 1)) then (if bt397.1 = 1 then (if (bt399.1.length : Int) = 1 then (if 0 < (bt399.1.length : Int) then (if ((rd_L2 bt399.1 0).length : Int) = ji8 then (if bt403.1 = 0 then ((impl_IsSelfStarting.f kj13 t385 t386 0).bind fun t406 => (laws_FnKnownCounters.j1 kj13 l1 (wrap64 (1 + t365)) ji8 (!t406) t378 t379)) else (laws_FnKnownCounters.j1 kj13 l1 (wrap64 (1 + t365)) ji8 true t378 t379)) else (laws_FnKnownCounters.j1 kj13 l1 (wrap64 (1 + t365)) ji8 true t378 t379)) else (none)) else (laws_FnKnownCounters.j1 kj13 l1 (wrap64 (1 + t365)) ji8 true t378 t379)) else (laws_FnKnownCounters.j1 kj13 l1 (wrap64 (1 + t365)) ji8 true t378 t379)) else (laws_FnKnownCounters.j1 kj13 l1 (wrap64 (1 + t365)) ji8 true t378 t379)) else (laws_FnKnownCounters.j1 kj13 l1 (wrap64 (1 + t365)) ji8 true t378 t379)) else (laws_FnKnownCounters.j1 kj13 l1 (wrap64 (1 + t365)) ji8 true t378 t379)) else (laws_FnKnownCounters.j1 kj13 l1 (wrap64 (1 + t365)) ji8 true t378 t379)) else (laws_FnKnownCounters.j1 kj13 l1 (wrap64 (1 + t365)) ji8 true t378 t379)) else (laws_FnKnownCounters.j1 kj13 l1 (wrap64 (1 + t365)) ji8 true t378 t379)) else (laws_FnKnownCounters.j1 kj13 l1 (wrap64 (1 + t365)) ji8 true t378 t379)) else (laws_FnKnownCounters.j1 kj13 l1 (wrap64 (1 + t365)) ji8 true t378 t379)) else (laws_FnKnownCounters.j1 kj13 l1 (wrap64 (1 + t365)) ji8 true t378 t379))))) = some r := H
            have A43 := Aside0.mk A430
            clear A430
            replace H := Option.bind_eq_some_iff.mp H
            obtain ⟨⟨t397, t398⟩, A440, H⟩ := H
            replace H : ((impl_RingsOf.f kj13 t378 t379).bind fun bt399 => ((impl_StateAfter.f kj13 t385 t386 0 (wrap64 (1 + t384))).bind fun bt403 => (if t392 = true then (if t394 = true then (if t396 = true then (if t398 = true then (if bt399.2 = true then (if bt403.2 = true then (if t391 = 1 then (if t393 = 0 then (if t395 = (wrap64 (ji8 - 1)) then (if t397 = 1 then (if (bt399.1.length : Int) = 1 then (if 0 < (bt399.1.length : Int) then (if ((rd_L2 bt399.1 0).length : Int) = ji8 then (if bt403.1 = 0 then ((impl_IsSelfStarting.f kj13 t385 t386 0).bind fun t406 => (laws_FnKnownCounters.j1 kj13 l1 (wrap64 (1 + t365)) ji8 (!t406) t378 t379)) else (laws_FnKnownCounters.j1 kj13 l1 (wrap64 (1 + t365)) ji8 true t378 t379)) else (laws_FnKnownCounters.j1 kj13 l1 (wrap64 (1 + t365)) ji8 true t378 t379)) else (none)) else (laws_FnKnownCounters.j1 kj13 l1 (wrap64 (1 + t365)) ji8 true t378 t379)) else (laws_FnKnownCounters.j1 kj13 l1 (wrap64 (1 + t365)) ji8 true t378 t379)) else (laws_FnKnownCounters.j1 kj13 l1 (wrap64 (1 + t365)) ji8 true t378 t379)) else (laws_FnKnownCounters.j1 kj13 l1 (wrap64 (1 + t365)) ji8 true t378 t379)) else (laws_FnKnownCounters.j1 kj13 l1 (wrap64 (1 + t365)) ji8 true t378 t379)) else (laws_FnKnownCounters.j1 kj13 l1 (wrap64 (1 + t365)) ji8 true t378 t379)) else (laws_FnKnownCounters.j1 kj13 l1 (wrap64 (1 + t365)) ji8 true t378 t379)) else (laws_FnKnownCounters.j1 kj13 l1 (wrap64 (1 + t365)) ji8 true t378 t379)) else (laws_FnKnownCounters.j1 kj13 l1 (wrap64 (1 + t365)) ji8 true t378 t379)) else (laws_FnKnownCounters.j1 kj13 l1 (wrap64 (1 + t365)) ji8 true t378 t379)) else (laws_FnKnownCounters.j1 kj13 l1 (wrap64 (1 + t365)) ji8 true t378 t379)))) = some r := H
            have A44 := Aside0.mk A440
            clear A440
            replace H := Option.bind_eq_some_iff.mp H
            obtain ⟨⟨t399, t402⟩, A450, H⟩ := H
            replace H : ((impl_StateAfter.f kj13 t385 t386 0 (wrap64 (1 + t384))).bind fun bt403 => (if t392 = true then (if t394 = true then (if t396 = true then (if t398 = true then (if t402 = true then (if bt403.2 = true then (if t391 = 1 then (if t393 = 0 then (if t395 = (wrap64 (ji8 - 1)) then (if t397 = 1 then (if (t399.length : Int) = 1 then (if 0 < (t399.length : Int) then (if ((rd_L2 t399 0).length : Int) = ji8 then (if bt403.1 = 0 then ((impl_IsSelfStarting.f kj13 t385 t386 0).bind fun t406 => (laws_FnKnownCounters.j1 kj13 l1 (wrap64 (1 + t365)) ji8 (!t406) t378 t379)) else (laws_FnKnownCounters.j1 kj13 l1 (wrap64 (1 + t365)) ji8 true t378 t379)) else (laws_FnKnownCounters.j1 kj13 l1 (wrap64 (1 + t365)) ji8 true t378 t379)) else (none)) else (laws_FnKnownCounters.j1 kj13 l1 (wrap64 (1 + t365)) ji8 true t378 t379)) else (laws_FnKnownCounters.j1 kj13 l1 (wrap64 (1 + t365)) ji8 true t378 t379)) else (laws_FnKnownCounters.j1 kj13 l1 (wrap64 (1 + t365)) ji8 true t378 t379)) else (laws_FnKnownCounters.j1 kj13 l1 (wrap64 (1 + t365)) ji8 true t378 t379)) else (laws_FnKnownCounters.j1 kj13 l1 (wrap64 (1 + t365)) ji8 true t378 t379)) else (laws_FnKnownCounters.j1 kj13 l1 (wrap64 (1 + t365)) ji8 true t378 t379)) else (laws_FnKnownCounters.j1 kj13 l1 (wrap64 (1 + t365)) ji8 true t378 t379)) else (laws_FnKnownCounters.j1 kj13 l1 (wrap64 (1 + t365)) ji8 true t378 t379)) else (laws_FnKnownCounters.j1 kj13 l1 (wrap64 (1 + t365)) ji8 true t378 t379)) else (laws_FnKnownCounters.j1 kj13 l1 (wrap64 (1 + t365)) ji8 true t378 t379)) else (laws_FnKnownCounters.j1 kj13 l1 (wrap64 (1 + t365)) ji8 true t378 t379))) = some r := H
            have A45 := Aside0.mk A450
            clear A450
            replace H := Option.bind_eq_some_iff.mp H
            obtain ⟨⟨t403, t404⟩, A460, H⟩ := H
            replace H : (if t392 = true then (if t394 = true then (if t396 = true then (if t398 = true then (if t402 = true then (if t404 = true then (if t391 = 1 then (if t393 = 0 then (if t395 = (wrap64 (ji8 - 1)) then (if t397 = 1 then (if (t399.length : Int) = 1 then (if 0 < (t399.length : Int) then (if ((rd_L2 t399 0).length : Int) = ji8 then (if t403 = 0 then ((impl_IsSelfStarting.f kj13 t385 t386 0).bind fun t406 => (laws_FnKnownCounters.j1 kj13 l1 (wrap64 (1 + t365)) ji8 (!t406) t378 t379)) else (laws_FnKnownCounters.j1 kj13 l1 (wrap64 (1 + t365)) ji8 true t378 t379)) else (laws_FnKnownCounters.j1 kj13 l1 (wrap64 (1 + t365)) ji8 true t378 t379)) else (none)) else (laws_FnKnownCounters.j1 kj13 l1 (wrap64 (1 + t365)) ji8 true t378 t379)) else (laws_FnKnownCounters.j1 kj13 l1 (wrap64 (1 + t365)) ji8 true t378 t379)) else (laws_FnKnownCounters.j1 kj13 l1 (wrap64 (1 + t365)) ji8 true t378 t379)) else (laws_FnKnownCounters.j1 kj13 l1 (wrap64 (1 + t365)) ji8 true t378 t379)) else (laws_FnKnownCounters.j1 kj13 l1 (wrap64 (1 + t365)) ji8 true t378 t379)) else (laws_FnKnownCounters.j1 kj13 l1 (wrap64 (1 + t365)) ji8 true t378 t379)) else (laws_FnKnownCounters.j1 kj13 l1 (wrap64 (1 + t365)) ji8 true t378 t379)) else (laws_FnKnownCounters.j1 kj13 l1 (wrap64 (1 + t365)) ji8 true t378 t379)) else (laws_FnKnownCounters.j1 kj13 l1 (wrap64 (1 + t365)) ji8 true t378 t379)) else (laws_FnKnownCounters.j1 kj13 l1 (wrap64 (1 + t365)) ji8 true t378 t379)) else (laws_FnKnownCounters.j1 kj13 l1 (wrap64 (1 + t365)) ji8 true t378 t379)) = some r := H
            have A46 := Aside0.mk A460
            clear A460
            have HC47 := Aside0.mk H
            clear H
            have hnb48 := NB371_377.out
            have hnc48 := NB377_371.out
            have hnb49 := NB371_383.out
            have hnc49 := NB383_371.out
            have hnb50 := NB371_390.out
            have hnc50 := NB390_371.out
            have hcz51_0 : wc.cell? ⟨gb371, 0, none⟩ = some (.int .i64 t366) := (blk_cell BK371.out 0).trans rfl
            have hcz51_1 : wc.cell? ⟨gb371, 1, none⟩ = some (.slice Ao18 t367.length co18) := (blk_cell BK371.out 1).trans rfl
            have hfz51_0 := blk_frozen BK371.out 0
            have hfz51_1 := blk_frozen BK371.out 1
            go_upto_region 18 with (first | ((with_reducible refine gate_callee (f := 22) rfl ?_); refine goesL_ (some 88) rfl rfl Try.func22 (by kernel_rfl) rfl #[.agg #[.int .i64 t366, .slice Ao18 t367.length co18], .int .i64 1, .int .i64 (wrap64 (1 + t365))] rfl (by (try simp only [List.map_toArray, List.map_cons, List.map_nil]); first | done | rfl | (simp only [List.length_drop, List.length_take]; rfl)) ?_; (with_reducible refine (impl_StateAfter.calls kj13 t366 _ _ t367 1 (wrap64 (1 + t365)) t391 t392 _ ?side1 ?side2 A41.out).mono ?_); (case side1 => repeat (first | exact (Kd.R_reads' HO_372001.out).2.2 | (with_reducible refine Kd.C_alloc ?_ _) | (with_reducible refine Kd.C_drewN ?_ _) | (with_reducible refine Kd.C_drew ?_))); (case side2 => first | exact trivial | (exact (Kd.R_reads' HO_372001.out).2.1)); rintro e w52 ⟨rfl, hb⟩; refine ⟨_, rfl, ?_⟩; have n0_ := Aside0.mk (Kd.R_below (by (with_reducible repeat (first | apply Kd.R_alloc | apply Kd.R_drewN | apply Kd.R_drew)); exact HO_372001.out) hb); have n1_ := Aside0.mk (Kd.R_below (by (with_reducible repeat (first | apply Kd.R_alloc | apply Kd.R_drewN | apply Kd.R_drew)); exact HO_378001.out) hb); have n2_ := Aside0.mk (Kd.R_below (by (with_reducible repeat (first | apply Kd.R_alloc | apply Kd.R_drewN | apply Kd.R_drew)); exact HO_384001.out) hb); have n3_ := Aside0.mk (Kd.R_below (by (with_reducible repeat (first | apply Kd.R_alloc | apply Kd.R_drewN | apply Kd.R_drew)); exact HO_391001.out) hb); have n4_ := Aside0.mk (blk_below (g := gb371) (o := .cells #[.int .i64 t366, .slice Ao18 t367.length co18] 28 (0, 0)) (by (with_reducible repeat (first | refine blk_drewN ?_ _ | refine blk_drew ?_ | refine blk_alloc ?_ _)); exact BK371.out) hb); have n5_ := Aside0.mk (blk_below (g := gb377) (o := .cells #[.int .i64 t372, .slice Ao23 t373.length co23] 28 (0, 0)) (by (with_reducible repeat (first | refine blk_drewN ?_ _ | refine blk_drew ?_ | refine blk_alloc ?_ _)); exact BK377.out) hb); have n6_ := Aside0.mk (blk_below (g := gb383) (o := .cells #[.int .i64 t378, .slice Ao29 t379.length co29] 28 (0, 0)) (by (with_reducible repeat (first | refine blk_drewN ?_ _ | refine blk_drew ?_ | refine blk_alloc ?_ _)); exact BK383.out) hb); have n7_ := Aside0.mk (blk_below (g := gb390) (o := .cells #[.int .i64 t385, .slice Ao36 t386.length co36] 28 (0, 0)) (by (with_reducible repeat (first | refine blk_drewN ?_ _ | refine blk_drew ?_ | refine blk_alloc ?_ _)); exact BK390.out) hb); have n8_ := Aside0.mk (below_step (by repeat (first | (with_reducible first | exact HB.out | apply below_alloc | apply pw_below_drewN | apply below_drew1 | refine below_set ?_ GE371.out | refine below_set ?_ GE377.out | refine below_set ?_ GE383.out | refine below_set ?_ GE390.out) | exact HB.out)) hb); clear HO_372001; clear HO_378001; clear HO_384001; clear HO_391001; clear BK371; clear BK377; clear BK383; clear BK390; clear HB; have HO_372001 := n0_; have HO_378001 := n1_; have HO_384001 := n2_; have HO_391001 := n3_; have BK371 := n4_; have BK377 := n5_; have BK383 := n6_; have BK390 := n7_; have HB := n8_; clear n0_ n1_ n2_ n3_ n4_ n5_ n6_ n7_ n8_; (try clear hb); (try clear hb2); (try clear hk); (try clear hi); have hnb53 := NB377_383.out; have hnc53 := NB383_377.out; have hnb54 := NB377_390.out; have hnc54 := NB390_377.out; have hcz55_0 : w52.cell? ⟨gb377, 0, none⟩ = some (.int .i64 t372) := (blk_cell BK377.out 0).trans rfl; have hcz55_1 : w52.cell? ⟨gb377, 1, none⟩ = some (.slice Ao23 t373.length co23) := (blk_cell BK377.out 1).trans rfl; have hfz55_0 := blk_frozen BK377.out 0; have hfz55_1 := blk_frozen BK377.out 1) | ((with_reducible refine gate_callee (f := 22) rfl ?_); refine goesL_ (some 95) rfl rfl Try.func22 (by kernel_rfl) rfl #[.agg #[.int .i64 t372, .slice Ao23 t373.length co23], .int .i64 0, .int .i64 (wrap64 (2 * (wrap64 (1 + t365))))] rfl (by (try simp only [List.map_toArray, List.map_cons, List.map_nil]); first | done | rfl | (simp only [List.length_drop, List.length_take]; rfl)) ?_; (with_reducible refine (impl_StateAfter.calls kj13 t372 _ _ t373 0 (wrap64 (2 * (wrap64 (1 + t365)))) t393 t394 _ ?side1 ?side2 A42.out).mono ?_); (case side1 => repeat (first | exact (Kd.R_reads' HO_378001.out).2.2 | (with_reducible refine Kd.C_alloc ?_ _) | (with_reducible refine Kd.C_drewN ?_ _) | (with_reducible refine Kd.C_drew ?_))); (case side2 => first | exact trivial | (exact (Kd.R_reads' HO_378001.out).2.1)); rintro e w56 ⟨rfl, hb⟩; refine ⟨_, rfl, ?_⟩; have n0_ := Aside0.mk (Kd.R_below (by (with_reducible repeat (first | apply Kd.R_alloc | apply Kd.R_drewN | apply Kd.R_drew)); exact HO_372001.out) hb); have n1_ := Aside0.mk (Kd.R_below (by (with_reducible repeat (first | apply Kd.R_alloc | apply Kd.R_drewN | apply Kd.R_drew)); exact HO_378001.out) hb); have n2_ := Aside0.mk (Kd.R_below (by (with_reducible repeat (first | apply Kd.R_alloc | apply Kd.R_drewN | apply Kd.R_drew)); exact HO_384001.out) hb); have n3_ := Aside0.mk (Kd.R_below (by (with_reducible repeat (first | apply Kd.R_alloc | apply Kd.R_drewN | apply Kd.R_drew)); exact HO_391001.out) hb); have n4_ := Aside0.mk (blk_below (g := gb371) (o := .cells #[.int .i64 t366, .slice Ao18 t367.length co18] 28 (0, 0)) (by (with_reducible repeat (first | refine blk_drewN ?_ _ | refine blk_drew ?_ | refine blk_alloc ?_ _)); exact BK371.out) hb); have n5_ := Aside0.mk (blk_below (g := gb377) (o := .cells #[.int .i64 t372, .slice Ao23 t373.length co23] 28 (0, 0)) (by (with_reducible repeat (first | refine blk_drewN ?_ _ | refine blk_drew ?_ | refine blk_alloc ?_ _)); exact BK377.out) hb); have n6_ := Aside0.mk (blk_below (g := gb383) (o := .cells #[.int .i64 t378, .slice Ao29 t379.length co29] 28 (0, 0)) (by (with_reducible repeat (first | refine blk_drewN ?_ _ | refine blk_drew ?_ | refine blk_alloc ?_ _)); exact BK383.out) hb); have n7_ := Aside0.mk (blk_below (g := gb390) (o := .cells #[.int .i64 t385, .slice Ao36 t386.length co36] 28 (0, 0)) (by (with_reducible repeat (first | refine blk_drewN ?_ _ | refine blk_drew ?_ | refine blk_alloc ?_ _)); exact BK390.out) hb); have n8_ := Aside0.mk (below_step (by repeat (first | (with_reducible first | exact HB.out | apply below_alloc | apply pw_below_drewN | apply below_drew1 | refine below_set ?_ GE371.out | refine below_set ?_ GE377.out | refine below_set ?_ GE383.out | refine below_set ?_ GE390.out) | exact HB.out)) hb); clear HO_372001; clear HO_378001; clear HO_384001; clear HO_391001; clear BK371; clear BK377; clear BK383; clear BK390; clear HB; have HO_372001 := n0_; have HO_378001 := n1_; have HO_384001 := n2_; have HO_391001 := n3_; have BK371 := n4_; have BK377 := n5_; have BK383 := n6_; have BK390 := n7_; have HB := n8_; clear n0_ n1_ n2_ n3_ n4_ n5_ n6_ n7_ n8_; (try clear hb); (try clear hb2); (try clear hk); (try clear hi); have hcz57_0 : w56.cell? ⟨gb377, 0, none⟩ = some (.int .i64 t372) := (blk_cell BK377.out 0).trans rfl; have hcz57_1 : w56.cell? ⟨gb377, 1, none⟩ = some (.slice Ao23 t373.length co23) := (blk_cell BK377.out 1).trans rfl; have hfz57_0 := blk_frozen BK377.out 0; have hfz57_1 := blk_frozen BK377.out 1) | ((with_reducible refine gate_callee (f := 22) rfl ?_); refine goesL_ (some 101) rfl rfl Try.func22 (by kernel_rfl) rfl #[.agg #[.int .i64 t372, .slice Ao23 t373.length co23], .int .i64 0, .int .i64 (wrap64 (1 + t365))] rfl (by (try simp only [List.map_toArray, List.map_cons, List.map_nil]); first | done | rfl | (simp only [List.length_drop, List.length_take]; rfl)) ?_; (with_reducible refine (impl_StateAfter.calls kj13 t372 _ _ t373 0 (wrap64 (1 + t365)) t395 t396 _ ?side1 ?side2 A43.out).mono ?_); (case side1 => repeat (first | exact (Kd.R_reads' HO_378001.out).2.2 | (with_reducible refine Kd.C_alloc ?_ _) | (with_reducible refine Kd.C_drewN ?_ _) | (with_reducible refine Kd.C_drew ?_))); (case side2 => first | exact trivial | (exact (Kd.R_reads' HO_378001.out).2.1)); rintro e w58 ⟨rfl, hb⟩; refine ⟨_, rfl, ?_⟩; have n0_ := Aside0.mk (Kd.R_below (by (with_reducible repeat (first | apply Kd.R_alloc | apply Kd.R_drewN | apply Kd.R_drew)); exact HO_372001.out) hb); have n1_ := Aside0.mk (Kd.R_below (by (with_reducible repeat (first | apply Kd.R_alloc | apply Kd.R_drewN | apply Kd.R_drew)); exact HO_378001.out) hb); have n2_ := Aside0.mk (Kd.R_below (by (with_reducible repeat (first | apply Kd.R_alloc | apply Kd.R_drewN | apply Kd.R_drew)); exact HO_384001.out) hb); have n3_ := Aside0.mk (Kd.R_below (by (with_reducible repeat (first | apply Kd.R_alloc | apply Kd.R_drewN | apply Kd.R_drew)); exact HO_391001.out) hb); have n4_ := Aside0.mk (blk_below (g := gb371) (o := .cells #[.int .i64 t366, .slice Ao18 t367.length co18] 28 (0, 0)) (by (with_reducible repeat (first | refine blk_drewN ?_ _ | refine blk_drew ?_ | refine blk_alloc ?_ _)); exact BK371.out) hb); have n5_ := Aside0.mk (blk_below (g := gb377) (o := .cells #[.int .i64 t372, .slice Ao23 t373.length co23] 28 (0, 0)) (by (with_reducible repeat (first | refine blk_drewN ?_ _ | refine blk_drew ?_ | refine blk_alloc ?_ _)); exact BK377.out) hb); have n6_ := Aside0.mk (blk_below (g := gb383) (o := .cells #[.int .i64 t378, .slice Ao29 t379.length co29] 28 (0, 0)) (by (with_reducible repeat (first | refine blk_drewN ?_ _ | refine blk_drew ?_ | refine blk_alloc ?_ _)); exact BK383.out) hb); have n7_ := Aside0.mk (blk_below (g := gb390) (o := .cells #[.int .i64 t385, .slice Ao36 t386.length co36] 28 (0, 0)) (by (with_reducible repeat (first | refine blk_drewN ?_ _ | refine blk_drew ?_ | refine blk_alloc ?_ _)); exact BK390.out) hb); have n8_ := Aside0.mk (below_step (by repeat (first | (with_reducible first | exact HB.out | apply below_alloc | apply pw_below_drewN | apply below_drew1 | refine below_set ?_ GE371.out | refine below_set ?_ GE377.out | refine below_set ?_ GE383.out | refine below_set ?_ GE390.out) | exact HB.out)) hb); clear HO_372001; clear HO_378001; clear HO_384001; clear HO_391001; clear BK371; clear BK377; clear BK383; clear BK390; clear HB; have HO_372001 := n0_; have HO_378001 := n1_; have HO_384001 := n2_; have HO_391001 := n3_; have BK371 := n4_; have BK377 := n5_; have BK383 := n6_; have BK390 := n7_; have HB := n8_; clear n0_ n1_ n2_ n3_ n4_ n5_ n6_ n7_ n8_; (try clear hb); (try clear hb2); (try clear hk); (try clear hi); have hnb59 := NB383_390.out; have hnc59 := NB390_383.out; have hcz60_0 : w58.cell? ⟨gb383, 0, none⟩ = some (.int .i64 t378) := (blk_cell BK383.out 0).trans rfl; have hcz60_1 : w58.cell? ⟨gb383, 1, none⟩ = some (.slice Ao29 t379.length co29) := (blk_cell BK383.out 1).trans rfl; have hfz60_0 := blk_frozen BK383.out 0; have hfz60_1 := blk_frozen BK383.out 1) | ((with_reducible refine gate_callee (f := 23) rfl ?_); refine goesL_ (some 106) rfl rfl Try.func23 (by kernel_rfl) rfl #[.agg #[.int .i64 t378, .slice Ao29 t379.length co29], .int .i64 0] rfl (by (try simp only [List.map_toArray, List.map_cons, List.map_nil]); first | done | rfl | (simp only [List.length_drop, List.length_take]; rfl)) ?_; (with_reducible refine (impl_MostChanged.calls kj13 t378 _ _ t379 0 t397 t398 _ ?side1 ?side2 A44.out).mono ?_); (case side1 => repeat (first | exact (Kd.R_reads' HO_384001.out).2.2 | (with_reducible refine Kd.C_alloc ?_ _) | (with_reducible refine Kd.C_drewN ?_ _) | (with_reducible refine Kd.C_drew ?_))); (case side2 => first | exact trivial | (exact (Kd.R_reads' HO_384001.out).2.1)); rintro e w61 ⟨rfl, hb⟩; refine ⟨_, rfl, ?_⟩; have n0_ := Aside0.mk (Kd.R_below (by (with_reducible repeat (first | apply Kd.R_alloc | apply Kd.R_drewN | apply Kd.R_drew)); exact HO_372001.out) hb); have n1_ := Aside0.mk (Kd.R_below (by (with_reducible repeat (first | apply Kd.R_alloc | apply Kd.R_drewN | apply Kd.R_drew)); exact HO_378001.out) hb); have n2_ := Aside0.mk (Kd.R_below (by (with_reducible repeat (first | apply Kd.R_alloc | apply Kd.R_drewN | apply Kd.R_drew)); exact HO_384001.out) hb); have n3_ := Aside0.mk (Kd.R_below (by (with_reducible repeat (first | apply Kd.R_alloc | apply Kd.R_drewN | apply Kd.R_drew)); exact HO_391001.out) hb); have n4_ := Aside0.mk (blk_below (g := gb371) (o := .cells #[.int .i64 t366, .slice Ao18 t367.length co18] 28 (0, 0)) (by (with_reducible repeat (first | refine blk_drewN ?_ _ | refine blk_drew ?_ | refine blk_alloc ?_ _)); exact BK371.out) hb); have n5_ := Aside0.mk (blk_below (g := gb377) (o := .cells #[.int .i64 t372, .slice Ao23 t373.length co23] 28 (0, 0)) (by (with_reducible repeat (first | refine blk_drewN ?_ _ | refine blk_drew ?_ | refine blk_alloc ?_ _)); exact BK377.out) hb); have n6_ := Aside0.mk (blk_below (g := gb383) (o := .cells #[.int .i64 t378, .slice Ao29 t379.length co29] 28 (0, 0)) (by (with_reducible repeat (first | refine blk_drewN ?_ _ | refine blk_drew ?_ | refine blk_alloc ?_ _)); exact BK383.out) hb); have n7_ := Aside0.mk (blk_below (g := gb390) (o := .cells #[.int .i64 t385, .slice Ao36 t386.length co36] 28 (0, 0)) (by (with_reducible repeat (first | refine blk_drewN ?_ _ | refine blk_drew ?_ | refine blk_alloc ?_ _)); exact BK390.out) hb); have n8_ := Aside0.mk (below_step (by repeat (first | (with_reducible first | exact HB.out | apply below_alloc | apply pw_below_drewN | apply below_drew1 | refine below_set ?_ GE371.out | refine below_set ?_ GE377.out | refine below_set ?_ GE383.out | refine below_set ?_ GE390.out) | exact HB.out)) hb); clear HO_372001; clear HO_378001; clear HO_384001; clear HO_391001; clear BK371; clear BK377; clear BK383; clear BK390; clear HB; have HO_372001 := n0_; have HO_378001 := n1_; have HO_384001 := n2_; have HO_391001 := n3_; have BK371 := n4_; have BK377 := n5_; have BK383 := n6_; have BK390 := n7_; have HB := n8_; clear n0_ n1_ n2_ n3_ n4_ n5_ n6_ n7_ n8_; (try clear hb); (try clear hb2); (try clear hk); (try clear hi); have hcz62_0 : w61.cell? ⟨gb383, 0, none⟩ = some (.int .i64 t378) := (blk_cell BK383.out 0).trans rfl; have hcz62_1 : w61.cell? ⟨gb383, 1, none⟩ = some (.slice Ao29 t379.length co29) := (blk_cell BK383.out 1).trans rfl; have hfz62_0 := blk_frozen BK383.out 0; have hfz62_1 := blk_frozen BK383.out 1) | ((with_reducible refine gate_callee (f := 24) rfl ?_); refine goesL_ (some 111) rfl rfl Try.func24 (by kernel_rfl) rfl #[.agg #[.int .i64 t378, .slice Ao29 t379.length co29]] rfl (by (try simp only [List.map_toArray, List.map_cons, List.map_nil]); first | done | rfl | (simp only [List.length_drop, List.length_take]; rfl)) ?_; (with_reducible refine (impl_RingsOf.calls kj13 t378 _ _ t379 t399 t402 _ ?side1 ?side2 A45.out).mono ?_); (case side1 => repeat (first | exact (Kd.R_reads' HO_384001.out).2.2 | (with_reducible refine Kd.C_alloc ?_ _) | (with_reducible refine Kd.C_drewN ?_ _) | (with_reducible refine Kd.C_drew ?_))); (case side2 => first | exact trivial | (exact (Kd.R_reads' HO_384001.out).2.1)); rintro e w63 ⟨v400, rfl, ho0, hb⟩; refine ⟨_, rfl, ?_⟩; have n0_ := Aside0.mk (Kd.R_below (by (with_reducible repeat (first | apply Kd.R_alloc | apply Kd.R_drewN | apply Kd.R_drew)); exact HO_372001.out) hb); have n1_ := Aside0.mk (Kd.R_below (by (with_reducible repeat (first | apply Kd.R_alloc | apply Kd.R_drewN | apply Kd.R_drew)); exact HO_378001.out) hb); have n2_ := Aside0.mk (Kd.R_below (by (with_reducible repeat (first | apply Kd.R_alloc | apply Kd.R_drewN | apply Kd.R_drew)); exact HO_384001.out) hb); have n3_ := Aside0.mk (Kd.R_below (by (with_reducible repeat (first | apply Kd.R_alloc | apply Kd.R_drewN | apply Kd.R_drew)); exact HO_391001.out) hb); have n4_ := Aside0.mk (Kd.S_lower (Kd.S_new' (Kd.S_new' (Kd.S_new' (Kd.S_new' ho0 (Kd.R_lt (by (with_reducible repeat (first | apply Kd.R_alloc | apply Kd.R_drewN | apply Kd.R_drew)); exact HO_372001.out))) (Kd.R_lt (by (with_reducible repeat (first | apply Kd.R_alloc | apply Kd.R_drewN | apply Kd.R_drew)); exact HO_378001.out))) (Kd.R_lt (by (with_reducible repeat (first | apply Kd.R_alloc | apply Kd.R_drewN | apply Kd.R_drew)); exact HO_384001.out))) (Kd.R_lt (by (with_reducible repeat (first | apply Kd.R_alloc | apply Kd.R_drewN | apply Kd.R_drew)); exact HO_391001.out))) (below_size (by repeat (first | (with_reducible first | exact HB.out | apply below_alloc | apply pw_below_drewN | apply below_drew1 | refine below_set ?_ GE371.out | refine below_set ?_ GE377.out | refine below_set ?_ GE383.out | refine below_set ?_ GE390.out) | exact HB.out)))); have n5_ := Aside0.mk (blk_below (g := gb371) (o := .cells #[.int .i64 t366, .slice Ao18 t367.length co18] 28 (0, 0)) (by (with_reducible repeat (first | refine blk_drewN ?_ _ | refine blk_drew ?_ | refine blk_alloc ?_ _)); exact BK371.out) hb); have n6_ := Aside0.mk (blk_below (g := gb377) (o := .cells #[.int .i64 t372, .slice Ao23 t373.length co23] 28 (0, 0)) (by (with_reducible repeat (first | refine blk_drewN ?_ _ | refine blk_drew ?_ | refine blk_alloc ?_ _)); exact BK377.out) hb); have n7_ := Aside0.mk (blk_below (g := gb383) (o := .cells #[.int .i64 t378, .slice Ao29 t379.length co29] 28 (0, 0)) (by (with_reducible repeat (first | refine blk_drewN ?_ _ | refine blk_drew ?_ | refine blk_alloc ?_ _)); exact BK383.out) hb); have n8_ := Aside0.mk (blk_below (g := gb390) (o := .cells #[.int .i64 t385, .slice Ao36 t386.length co36] 28 (0, 0)) (by (with_reducible repeat (first | refine blk_drewN ?_ _ | refine blk_drew ?_ | refine blk_alloc ?_ _)); exact BK390.out) hb); have n9_ := Aside0.mk (below_step (by repeat (first | (with_reducible first | exact HB.out | apply below_alloc | apply pw_below_drewN | apply below_drew1 | refine below_set ?_ GE371.out | refine below_set ?_ GE377.out | refine below_set ?_ GE383.out | refine below_set ?_ GE390.out) | exact HB.out)) hb); clear HO_372001; clear HO_378001; clear HO_384001; clear HO_391001; clear BK371; clear BK377; clear BK383; clear BK390; clear HB; have HO_372001 := n0_; have HO_378001 := n1_; have HO_384001 := n2_; have HO_391001 := n3_; have HO401 := n4_; have BK371 := n5_; have BK377 := n6_; have BK383 := n7_; have BK390 := n8_; have HB := n9_; clear n0_ n1_ n2_ n3_ n4_ n5_ n6_ n7_ n8_ n9_; (try clear hb); (try clear hb2); (try clear hk); (try clear hi); (try clear ho0); have hcz64_0 : w63.cell? ⟨gb390, 0, none⟩ = some (.int .i64 t385) := (blk_cell BK390.out 0).trans rfl; have hcz64_1 : w63.cell? ⟨gb390, 1, none⟩ = some (.slice Ao36 t386.length co36) := (blk_cell BK390.out 1).trans rfl; have hfz64_0 := blk_frozen BK390.out 0; have hfz64_1 := blk_frozen BK390.out 1) | ((with_reducible refine gate_callee (f := 22) rfl ?_); refine goesL_ (some 117) rfl rfl Try.func22 (by kernel_rfl) rfl #[.agg #[.int .i64 t385, .slice Ao36 t386.length co36], .int .i64 0, .int .i64 (wrap64 (1 + t384))] rfl (by (try simp only [List.map_toArray, List.map_cons, List.map_nil]); first | done | rfl | (simp only [List.length_drop, List.length_take]; rfl)) ?_; (with_reducible refine (impl_StateAfter.calls kj13 t385 _ _ t386 0 (wrap64 (1 + t384)) t403 t404 _ ?side1 ?side2 A46.out).mono ?_); (case side1 => repeat (first | exact (Kd.R_reads' HO_391001.out).2.2 | (with_reducible refine Kd.C_alloc ?_ _) | (with_reducible refine Kd.C_drewN ?_ _) | (with_reducible refine Kd.C_drew ?_))); (case side2 => first | exact trivial | (exact (Kd.R_reads' HO_391001.out).2.1)); rintro e w65 ⟨rfl, hb⟩; refine ⟨_, rfl, ?_⟩; have n0_ := Aside0.mk (Kd.R_below (by (with_reducible repeat (first | apply Kd.R_alloc | apply Kd.R_drewN | apply Kd.R_drew)); exact HO_372001.out) hb); have n1_ := Aside0.mk (Kd.R_below (by (with_reducible repeat (first | apply Kd.R_alloc | apply Kd.R_drewN | apply Kd.R_drew)); exact HO_378001.out) hb); have n2_ := Aside0.mk (Kd.R_below (by (with_reducible repeat (first | apply Kd.R_alloc | apply Kd.R_drewN | apply Kd.R_drew)); exact HO_384001.out) hb); have n3_ := Aside0.mk (Kd.R_below (by (with_reducible repeat (first | apply Kd.R_alloc | apply Kd.R_drewN | apply Kd.R_drew)); exact HO_391001.out) hb); have n4_ := Aside0.mk (Kd.S_below (by (with_reducible repeat (first | apply Kd.S_alloc | apply Kd.S_drewN | apply Kd.S_drew)); exact HO401.out) hb); have n5_ := Aside0.mk (blk_below (g := gb371) (o := .cells #[.int .i64 t366, .slice Ao18 t367.length co18] 28 (0, 0)) (by (with_reducible repeat (first | refine blk_drewN ?_ _ | refine blk_drew ?_ | refine blk_alloc ?_ _)); exact BK371.out) hb); have n6_ := Aside0.mk (blk_below (g := gb377) (o := .cells #[.int .i64 t372, .slice Ao23 t373.length co23] 28 (0, 0)) (by (with_reducible repeat (first | refine blk_drewN ?_ _ | refine blk_drew ?_ | refine blk_alloc ?_ _)); exact BK377.out) hb); have n7_ := Aside0.mk (blk_below (g := gb383) (o := .cells #[.int .i64 t378, .slice Ao29 t379.length co29] 28 (0, 0)) (by (with_reducible repeat (first | refine blk_drewN ?_ _ | refine blk_drew ?_ | refine blk_alloc ?_ _)); exact BK383.out) hb); have n8_ := Aside0.mk (blk_below (g := gb390) (o := .cells #[.int .i64 t385, .slice Ao36 t386.length co36] 28 (0, 0)) (by (with_reducible repeat (first | refine blk_drewN ?_ _ | refine blk_drew ?_ | refine blk_alloc ?_ _)); exact BK390.out) hb); have n9_ := Aside0.mk (below_step (by repeat (first | (with_reducible first | exact HB.out | apply below_alloc | apply pw_below_drewN | apply below_drew1 | refine below_set ?_ GE371.out | refine below_set ?_ GE377.out | refine below_set ?_ GE383.out | refine below_set ?_ GE390.out) | exact HB.out)) hb); clear HO_372001; clear HO_378001; clear HO_384001; clear HO_391001; clear HO401; clear BK371; clear BK377; clear BK383; clear BK390; clear HB; have HO_372001 := n0_; have HO_378001 := n1_; have HO_384001 := n2_; have HO_391001 := n3_; have HO401 := n4_; have BK371 := n5_; have BK377 := n6_; have BK383 := n7_; have BK390 := n8_; have HB := n9_; clear n0_ n1_ n2_ n3_ n4_ n5_ n6_ n7_ n8_ n9_; (try clear hb); (try clear hb2); (try clear hk); (try clear hi)))
            (try simp only [Act.put, List.setIfInBounds_toArray, List.set_cons_zero, List.set_cons_succ])
            go_cut [181] (fun v181 wc => ∃ (kq : Nat) (x181_46 : Bool), v181 = .bool x181_46 ∧ Aside0 (laws_FnKnownCounters.j1 kq l1 (wrap64 (1 + t365)) ji8 x181_46 t378 t379 = some r) ∧ Aside0 (kq ≤ kj13) ∧ Aside0 (Kd.R (Kd.int .i64) 2 wc w.heap.size (fun k_ => some k_ ≠ ((.slice Ao23 t373.length co23) : Value).ownBlock ∧ some k_ ≠ ((.slice Ao29 t379.length co29) : Value).ownBlock ∧ some k_ ≠ ((.slice Ao36 t386.length co36) : Value).ownBlock) (.slice Ao18 t367.length co18) t367) ∧ Aside0 (Kd.R (Kd.int .i64) 2 wc w.heap.size (fun k_ => some k_ ≠ ((.slice Ao18 t367.length co18) : Value).ownBlock ∧ some k_ ≠ ((.slice Ao29 t379.length co29) : Value).ownBlock ∧ some k_ ≠ ((.slice Ao36 t386.length co36) : Value).ownBlock) (.slice Ao23 t373.length co23) t373) ∧ Aside0 (Kd.R (Kd.int .i64) 2 wc w.heap.size (fun k_ => some k_ ≠ ((.slice Ao18 t367.length co18) : Value).ownBlock ∧ some k_ ≠ ((.slice Ao23 t373.length co23) : Value).ownBlock ∧ some k_ ≠ ((.slice Ao36 t386.length co36) : Value).ownBlock) (.slice Ao29 t379.length co29) t379) ∧ Aside0 (Kd.R (Kd.int .i64) 2 wc w.heap.size (fun k_ => some k_ ≠ ((.slice Ao18 t367.length co18) : Value).ownBlock ∧ some k_ ≠ ((.slice Ao23 t373.length co23) : Value).ownBlock ∧ some k_ ≠ ((.slice Ao29 t379.length co29) : Value).ownBlock) (.slice Ao36 t386.length co36) t386) ∧ Aside0 (wc.heap[gb371]? = some (.cells #[.int .i64 t366, (.slice Ao18 t367.length co18)] 28 (0, 0))) ∧ Aside0 (wc.heap[gb377]? = some (.cells #[.int .i64 t372, (.slice Ao23 t373.length co23)] 28 (0, 0))) ∧ Aside0 (wc.heap[gb383]? = some (.cells #[.int .i64 t378, (.slice Ao29 t379.length co29)] 28 (0, 0))) ∧ Aside0 (wc.heap[gb390]? = some (.cells #[.int .i64 t385, (.slice Ao36 t386.length co36)] 28 (0, 0))) ∧ Aside0 (Below w.heap.size w wc))
            case first =>
              have H := HC47.out
              clear HC47
              by_cases c66 : t392 = true
              · subst c66
                have H1 : (if t394 = true then (if t396 = true then (if t398 = true then (if t402 = true then (if t404 = true then (if t391 = 1 then (if t393 = 0 then (if t395 = (wrap64 (ji8 - 1)) then (if t397 = 1 then (if (t399.length : Int) = 1 then (if 0 < (t399.length : Int) then (if ((rd_L2 t399 0).length : Int) = ji8 then (if t403 = 0 then ((impl_IsSelfStarting.f kj13 t385 t386 0).bind fun t406 => (laws_FnKnownCounters.j1 kj13 l1 (wrap64 (1 + t365)) ji8 (!t406) t378 t379)) else (laws_FnKnownCounters.j1 kj13 l1 (wrap64 (1 + t365)) ji8 true t378 t379)) else (laws_FnKnownCounters.j1 kj13 l1 (wrap64 (1 + t365)) ji8 true t378 t379)) else (none)) else (laws_FnKnownCounters.j1 kj13 l1 (wrap64 (1 + t365)) ji8 true t378 t379)) else (laws_FnKnownCounters.j1 kj13 l1 (wrap64 (1 + t365)) ji8 true t378 t379)) else (laws_FnKnownCounters.j1 kj13 l1 (wrap64 (1 + t365)) ji8 true t378 t379)) else (laws_FnKnownCounters.j1 kj13 l1 (wrap64 (1 + t365)) ji8 true t378 t379)) else (laws_FnKnownCounters.j1 kj13 l1 (wrap64 (1 + t365)) ji8 true t378 t379)) else (laws_FnKnownCounters.j1 kj13 l1 (wrap64 (1 + t365)) ji8 true t378 t379)) else (laws_FnKnownCounters.j1 kj13 l1 (wrap64 (1 + t365)) ji8 true t378 t379)) else (laws_FnKnownCounters.j1 kj13 l1 (wrap64 (1 + t365)) ji8 true t378 t379)) else (laws_FnKnownCounters.j1 kj13 l1 (wrap64 (1 + t365)) ji8 true t378 t379)) else (laws_FnKnownCounters.j1 kj13 l1 (wrap64 (1 + t365)) ji8 true t378 t379)) = some r := by rw [if_pos rfl] at H; exact H
                clear H
                have H := H1
                clear H1
                by_cases c67 : t394 = true
                · subst c67
                  have H1 : (if t396 = true then (if t398 = true then (if t402 = true then (if t404 = true then (if t391 = 1 then (if t393 = 0 then (if t395 = (wrap64 (ji8 - 1)) then (if t397 = 1 then (if (t399.length : Int) = 1 then (if 0 < (t399.length : Int) then (if ((rd_L2 t399 0).length : Int) = ji8 then (if t403 = 0 then ((impl_IsSelfStarting.f kj13 t385 t386 0).bind fun t406 => (laws_FnKnownCounters.j1 kj13 l1 (wrap64 (1 + t365)) ji8 (!t406) t378 t379)) else (laws_FnKnownCounters.j1 kj13 l1 (wrap64 (1 + t365)) ji8 true t378 t379)) else (laws_FnKnownCounters.j1 kj13 l1 (wrap64 (1 + t365)) ji8 true t378 t379)) else (none)) else (laws_FnKnownCounters.j1 kj13 l1 (wrap64 (1 + t365)) ji8 true t378 t379)) else (laws_FnKnownCounters.j1 kj13 l1 (wrap64 (1 + t365)) ji8 true t378 t379)) else (laws_FnKnownCounters.j1 kj13 l1 (wrap64 (1 + t365)) ji8 true t378 t379)) else (laws_FnKnownCounters.j1 kj13 l1 (wrap64 (1 + t365)) ji8 true t378 t379)) else (laws_FnKnownCounters.j1 kj13 l1 (wrap64 (1 + t365)) ji8 true t378 t379)) else (laws_FnKnownCounters.j1 kj13 l1 (wrap64 (1 + t365)) ji8 true t378 t379)) else (laws_FnKnownCounters.j1 kj13 l1 (wrap64 (1 + t365)) ji8 true t378 t379)) else (laws_FnKnownCounters.j1 kj13 l1 (wrap64 (1 + t365)) ji8 true t378 t379)) else (laws_FnKnownCounters.j1 kj13 l1 (wrap64 (1 + t365)) ji8 true t378 t379)) = some r := by rw [if_pos rfl] at H; exact H
                  clear H
                  have H := H1
                  clear H1
                  by_cases c68 : t396 = true
                  · subst c68
                    have H1 : (if t398 = true then (if t402 = true then (if t404 = true then (if t391 = 1 then (if t393 = 0 then (if t395 = (wrap64 (ji8 - 1)) then (if t397 = 1 then (if (t399.length : Int) = 1 then (if 0 < (t399.length : Int) then (if ((rd_L2 t399 0).length : Int) = ji8 then (if t403 = 0 then ((impl_IsSelfStarting.f kj13 t385 t386 0).bind fun t406 => (laws_FnKnownCounters.j1 kj13 l1 (wrap64 (1 + t365)) ji8 (!t406) t378 t379)) else (laws_FnKnownCounters.j1 kj13 l1 (wrap64 (1 + t365)) ji8 true t378 t379)) else (laws_FnKnownCounters.j1 kj13 l1 (wrap64 (1 + t365)) ji8 true t378 t379)) else (none)) else (laws_FnKnownCounters.j1 kj13 l1 (wrap64 (1 + t365)) ji8 true t378 t379)) else (laws_FnKnownCounters.j1 kj13 l1 (wrap64 (1 + t365)) ji8 true t378 t379)) else (laws_FnKnownCounters.j1 kj13 l1 (wrap64 (1 + t365)) ji8 true t378 t379)) else (laws_FnKnownCounters.j1 kj13 l1 (wrap64 (1 + t365)) ji8 true t378 t379)) else (laws_FnKnownCounters.j1 kj13 l1 (wrap64 (1 + t365)) ji8 true t378 t379)) else (laws_FnKnownCounters.j1 kj13 l1 (wrap64 (1 + t365)) ji8 true t378 t379)) else (laws_FnKnownCounters.j1 kj13 l1 (wrap64 (1 + t365)) ji8 true t378 t379)) else (laws_FnKnownCounters.j1 kj13 l1 (wrap64 (1 + t365)) ji8 true t378 t379)) = some r := by rw [if_pos rfl] at H; exact H
                    clear H
                    have H := H1
                    clear H1
                    by_cases c69 : t398 = true
                    · subst c69
                      have H1 : (if t402 = true then (if t404 = true then (if t391 = 1 then (if t393 = 0 then (if t395 = (wrap64 (ji8 - 1)) then (if t397 = 1 then (if (t399.length : Int) = 1 then (if 0 < (t399.length : Int) then (if ((rd_L2 t399 0).length : Int) = ji8 then (if t403 = 0 then ((impl_IsSelfStarting.f kj13 t385 t386 0).bind fun t406 => (laws_FnKnownCounters.j1 kj13 l1 (wrap64 (1 + t365)) ji8 (!t406) t378 t379)) else (laws_FnKnownCounters.j1 kj13 l1 (wrap64 (1 + t365)) ji8 true t378 t379)) else (laws_FnKnownCounters.j1 kj13 l1 (wrap64 (1 + t365)) ji8 true t378 t379)) else (none)) else (laws_FnKnownCounters.j1 kj13 l1 (wrap64 (1 + t365)) ji8 true t378 t379)) else (laws_FnKnownCounters.j1 kj13 l1 (wrap64 (1 + t365)) ji8 true t378 t379)) else (laws_FnKnownCounters.j1 kj13 l1 (wrap64 (1 + t365)) ji8 true t378 t379)) else (laws_FnKnownCounters.j1 kj13 l1 (wrap64 (1 + t365)) ji8 true t378 t379)) else (laws_FnKnownCounters.j1 kj13 l1 (wrap64 (1 + t365)) ji8 true t378 t379)) else (laws_FnKnownCounters.j1 kj13 l1 (wrap64 (1 + t365)) ji8 true t378 t379)) else (laws_FnKnownCounters.j1 kj13 l1 (wrap64 (1 + t365)) ji8 true t378 t379)) = some r := by rw [if_pos rfl] at H; exact H
                      clear H
                      have H := H1
                      clear H1
                      by_cases c70 : t402 = true
                      · subst c70
                        have H1 : (if t404 = true then (if t391 = 1 then (if t393 = 0 then (if t395 = (wrap64 (ji8 - 1)) then (if t397 = 1 then (if (t399.length : Int) = 1 then (if 0 < (t399.length : Int) then (if ((rd_L2 t399 0).length : Int) = ji8 then (if t403 = 0 then ((impl_IsSelfStarting.f kj13 t385 t386 0).bind fun t406 => (laws_FnKnownCounters.j1 kj13 l1 (wrap64 (1 + t365)) ji8 (!t406) t378 t379)) else (laws_FnKnownCounters.j1 kj13 l1 (wrap64 (1 + t365)) ji8 true t378 t379)) else (laws_FnKnownCounters.j1 kj13 l1 (wrap64 (1 + t365)) ji8 true t378 t379)) else (none)) else (laws_FnKnownCounters.j1 kj13 l1 (wrap64 (1 + t365)) ji8 true t378 t379)) else (laws_FnKnownCounters.j1 kj13 l1 (wrap64 (1 + t365)) ji8 true t378 t379)) else (laws_FnKnownCounters.j1 kj13 l1 (wrap64 (1 + t365)) ji8 true t378 t379)) else (laws_FnKnownCounters.j1 kj13 l1 (wrap64 (1 + t365)) ji8 true t378 t379)) else (laws_FnKnownCounters.j1 kj13 l1 (wrap64 (1 + t365)) ji8 true t378 t379)) else (laws_FnKnownCounters.j1 kj13 l1 (wrap64 (1 + t365)) ji8 true t378 t379)) = some r := by rw [if_pos rfl] at H; exact H
                        clear H
                        have H := H1
                        clear H1
                        by_cases c71 : t404 = true
                        · subst c71
                          have H1 : (if t391 = 1 then (if t393 = 0 then (if t395 = (wrap64 (ji8 - 1)) then (if t397 = 1 then (if (t399.length : Int) = 1 then (if 0 < (t399.length : Int) then (if ((rd_L2 t399 0).length : Int) = ji8 then (if t403 = 0 then ((impl_IsSelfStarting.f kj13 t385 t386 0).bind fun t406 => (laws_FnKnownCounters.j1 kj13 l1 (wrap64 (1 + t365)) ji8 (!t406) t378 t379)) else (laws_FnKnownCounters.j1 kj13 l1 (wrap64 (1 + t365)) ji8 true t378 t379)) else (laws_FnKnownCounters.j1 kj13 l1 (wrap64 (1 + t365)) ji8 true t378 t379)) else (none)) else (laws_FnKnownCounters.j1 kj13 l1 (wrap64 (1 + t365)) ji8 true t378 t379)) else (laws_FnKnownCounters.j1 kj13 l1 (wrap64 (1 + t365)) ji8 true t378 t379)) else (laws_FnKnownCounters.j1 kj13 l1 (wrap64 (1 + t365)) ji8 true t378 t379)) else (laws_FnKnownCounters.j1 kj13 l1 (wrap64 (1 + t365)) ji8 true t378 t379)) else (laws_FnKnownCounters.j1 kj13 l1 (wrap64 (1 + t365)) ji8 true t378 t379)) = some r := by rw [if_pos rfl] at H; exact H
                          clear H
                          have H := H1
                          clear H1
                          by_cases c72 : t391 = 1
                          · rw [if_pos c72] at H
                            have c72b0 : (t391 == 1) = true := beq_iff_eq.mpr c72
                            have c72b1 : (t391 != 1) = false := bne_eq_false_iff_eq.mpr c72
                            clear c72
                            (first | rw [c72b0] | (simp only [i64_w, i32_w]; rw [c72b0]) | skip)
                            by_cases c73 : t393 = 0
                            · rw [if_pos c73] at H
                              have c73b0 : (t393 == 0) = true := beq_iff_eq.mpr c73
                              have c73b1 : (t393 != 0) = false := bne_eq_false_iff_eq.mpr c73
                              clear c73
                              by_cases c74 : t395 = (wrap64 (ji8 - 1))
                              · rw [if_pos c74] at H
                                have c74b0 : (t395 == (wrap64 (ji8 - 1))) = true := beq_iff_eq.mpr c74
                                have c74b1 : (t395 != (wrap64 (ji8 - 1))) = false := bne_eq_false_iff_eq.mpr c74
                                clear c74
                                by_cases c75 : t397 = 1
                                · rw [if_pos c75] at H
                                  have c75b0 : (t397 == 1) = true := beq_iff_eq.mpr c75
                                  have c75b1 : (t397 != 1) = false := bne_eq_false_iff_eq.mpr c75
                                  clear c75
                                  by_cases c76 : (t399.length : Int) = 1
                                  · rw [if_pos c76] at H
                                    have c76b0 : ((t399.length : Int) == 1) = true := beq_iff_eq.mpr c76
                                    have c76b1 : ((t399.length : Int) != 1) = false := bne_eq_false_iff_eq.mpr c76
                                    clear c76
                                    by_cases c77 : 0 < (t399.length : Int)
                                    · rw [if_pos c77] at H
                                      have c77b0 : decide (0 < (t399.length : Int)) = true := decide_eq_true c77
                                      have c77b1 : decide (0 < t399.length) = true := decide_eq_true (by omega)
                                      clear c77
                                      by_cases c78 : ((rd_L2 t399 0).length : Int) = ji8
                                      · rw [if_pos c78] at H
                                        have c78b0 : (((rd_L2 t399 0).length : Int) == ji8) = true := beq_iff_eq.mpr c78
                                        have c78b1 : (((rd_L2 t399 0).length : Int) != ji8) = false := bne_eq_false_iff_eq.mpr c78
                                        clear c78
                                        by_cases c79 : t403 = 0
                                        · rw [if_pos c79] at H
                                          have c79b0 : (t403 == 0) = true := beq_iff_eq.mpr c79
                                          have c79b1 : (t403 != 0) = false := bne_eq_false_iff_eq.mpr c79
                                          clear c79
                                          replace H := Option.bind_eq_some_iff.mp H
                                          obtain ⟨t406, A800, H⟩ := H
                                          replace H : (laws_FnKnownCounters.j1 kj13 l1 (wrap64 (1 + t365)) ji8 (!t406) t378 t379) = some r := H
                                          have A80 := Aside0.mk A800
                                          clear A800
                                          have H' := Aside0.mk H
                                          clear H
                                          obtain ⟨Ao81, co81, eo81⟩ := Kd.S_slice HO401.out
                                          subst eo81
                                          have p405 : 0 ≤ (0 : Int) := (by omega)
                                          have q405 : 0 < (t399.length : Int) := of_decide_eq_true (by first | (with_reducible assumption) | assumption)
                                          obtain ⟨ad405, A405_0, c405_0, e405, hx405_0, hl405_0, hi405_0⟩ := at_L2 (Kd.S_reads' HO401.out).2.2 0 p405 q405
                                          cases e405
                                          obtain ⟨ce405, hce405, hMe405, hcc405⟩ := Kd.S_get HO401.out [] 0 p405 (by first | exact q405 | exact of_decide_eq_true (by first | (with_reducible assumption) | assumption) | (have e_ := (Kd.S_reads' HO401.out).1; omega))
                                          obtain ⟨ve405_0, rfl, ge405_0⟩ := hMe405
                                          have hv405_0 := hcc405 0 _ rfl
                                          rw [Nat.add_zero, show ((Kd.slice 2 (Kd.int .i64))).sz = 1 from rfl, Nat.mul_one] at hv405_0
                                          replace hv405_0 := Option.some.inj (hv405_0.symm.trans hx405_0)
                                          rw [hv405_0] at ge405_0
                                          have HL405_0 := Aside0.mk (show Kd.R (Kd.int .i64) 2 _ _ _ _ (rd_L2 t399 0) from ge405_0)
                                          clear hv405_0 ge405_0
                                          clear hcc405 hce405
                                          have qi405 : (0 < t399.length) = True := eq_true (by omega)
                                          (try rw [show ((0 : Int)).toNat = 0 from rfl] at hx405_0)
                                          (try rw [Addr.add_zero'] at hx405_0)
                                          have HR405_0 := Aside0.mk hi405_0
                                          have HC405_0 := Aside0.mk hl405_0
                                          clear hi405_0 hl405_0
                                          replace p405 := eq_true p405
                                          replace q405 := eq_true q405
                                          have hnb82 := NB390_371.out
                                          have hnc82 := NB371_390.out
                                          have hnb83 := NB390_377.out
                                          have hnc83 := NB377_390.out
                                          have hnb84 := NB390_383.out
                                          have hnc84 := NB383_390.out
                                          have hcz85_0 : w65.cell? ⟨gb390, 0, none⟩ = some (.int .i64 t385) := (blk_cell BK390.out 0).trans rfl
                                          have hcz85_1 : w65.cell? ⟨gb390, 1, none⟩ = some (.slice Ao36 t386.length co36) := (blk_cell BK390.out 1).trans rfl
                                          have hfz85_0 := blk_frozen BK390.out 0
                                          have hfz85_1 := blk_frozen BK390.out 1
                                          go_wp2_with (first | (go_at_call 25; (with_reducible refine (impl_IsSelfStarting.calls kj13 t385 _ _ t386 0 t406 _ ?side1 ?side2 A80.out).mono ?_); (case side1 => repeat (first | exact (Kd.R_reads' HO_391001.out).2.2 | (with_reducible refine Kd.C_alloc ?_ _) | (with_reducible refine Kd.C_drewN ?_ _) | (with_reducible refine Kd.C_drew ?_))); (case side2 => first | exact trivial | (exact (Kd.R_reads' HO_391001.out).2.1)); rintro e w86 ⟨rfl, hb⟩; have n0_ := Aside0.mk (Kd.R_below (by (with_reducible repeat (first | apply Kd.R_alloc | apply Kd.R_drewN | apply Kd.R_drew)); exact HO_372001.out) hb); have n1_ := Aside0.mk (Kd.R_below (by (with_reducible repeat (first | apply Kd.R_alloc | apply Kd.R_drewN | apply Kd.R_drew)); exact HO_378001.out) hb); have n2_ := Aside0.mk (Kd.R_below (by (with_reducible repeat (first | apply Kd.R_alloc | apply Kd.R_drewN | apply Kd.R_drew)); exact HO_384001.out) hb); have n3_ := Aside0.mk (Kd.R_below (by (with_reducible repeat (first | apply Kd.R_alloc | apply Kd.R_drewN | apply Kd.R_drew)); exact HO_391001.out) hb); have n4_ := Aside0.mk (Kd.S_below (by (with_reducible repeat (first | apply Kd.S_alloc | apply Kd.S_drewN | apply Kd.S_drew)); exact HO401.out) hb); have n5_ := Aside0.mk (Kd.R_below (by (with_reducible repeat (first | apply Kd.R_alloc | apply Kd.R_drewN | apply Kd.R_drew)); exact HL405_0.out) hb); have n6_ := Aside0.mk (blk_below (g := gb371) (o := .cells #[.int .i64 t366, .slice Ao18 t367.length co18] 28 (0, 0)) (by (with_reducible repeat (first | refine blk_drewN ?_ _ | refine blk_drew ?_ | refine blk_alloc ?_ _)); exact BK371.out) hb); have n7_ := Aside0.mk (blk_below (g := gb377) (o := .cells #[.int .i64 t372, .slice Ao23 t373.length co23] 28 (0, 0)) (by (with_reducible repeat (first | refine blk_drewN ?_ _ | refine blk_drew ?_ | refine blk_alloc ?_ _)); exact BK377.out) hb); have n8_ := Aside0.mk (blk_below (g := gb383) (o := .cells #[.int .i64 t378, .slice Ao29 t379.length co29] 28 (0, 0)) (by (with_reducible repeat (first | refine blk_drewN ?_ _ | refine blk_drew ?_ | refine blk_alloc ?_ _)); exact BK383.out) hb); have n9_ := Aside0.mk (blk_below (g := gb390) (o := .cells #[.int .i64 t385, .slice Ao36 t386.length co36] 28 (0, 0)) (by (with_reducible repeat (first | refine blk_drewN ?_ _ | refine blk_drew ?_ | refine blk_alloc ?_ _)); exact BK390.out) hb); have n10_ := Aside0.mk (Kd.C_below (by repeat (first | (with_reducible exact HR405_0.out) | (with_reducible refine Kd.C_alloc ?_ _) | (with_reducible refine Kd.C_drewN ?_ _) | (with_reducible refine Kd.C_drew ?_) | exact HR405_0.out)) hb); have n11_ := Aside0.mk (below_step (by repeat (first | (with_reducible first | exact HB.out | apply below_alloc | apply pw_below_drewN | apply below_drew1 | refine below_set ?_ GE371.out | refine below_set ?_ GE377.out | refine below_set ?_ GE383.out | refine below_set ?_ GE390.out) | exact HB.out)) hb); clear HO_372001; clear HO_378001; clear HO_384001; clear HO_391001; clear HO401; clear HL405_0; clear BK371; clear BK377; clear BK383; clear BK390; clear HR405_0; clear HB; have HO_372001 := n0_; have HO_378001 := n1_; have HO_384001 := n2_; have HO_391001 := n3_; have HO401 := n4_; have HL405_0 := n5_; have BK371 := n6_; have BK377 := n7_; have BK383 := n8_; have BK390 := n9_; have HR405_0 := n10_; have HB := n11_; clear n0_ n1_ n2_ n3_ n4_ n5_ n6_ n7_ n8_ n9_ n10_ n11_; (try clear hb); (try clear hb2); (try clear hk); (try clear hi)))
                                          go_meet
                                          case rel => exact ⟨_, (!t406), (by first | rfl | (simp; done) | (simp [*]; done)), H', ⟨by have := HJ13.out; first | omega | exact Nat.le_refl _⟩, ⟨by (with_reducible repeat (first | apply Kd.R_alloc | apply Kd.R_drewN | apply Kd.R_drew)); exact HO_372001.out⟩, ⟨by (with_reducible repeat (first | apply Kd.R_alloc | apply Kd.R_drewN | apply Kd.R_drew)); exact HO_378001.out⟩, ⟨by (with_reducible repeat (first | apply Kd.R_alloc | apply Kd.R_drewN | apply Kd.R_drew)); exact HO_384001.out⟩, ⟨by (with_reducible repeat (first | apply Kd.R_alloc | apply Kd.R_drewN | apply Kd.R_drew)); exact HO_391001.out⟩, ⟨by (with_reducible repeat (first | refine blk_drewN ?_ _ | refine blk_drew ?_ | refine blk_alloc ?_ _)); exact BK371.out⟩, ⟨by (with_reducible repeat (first | refine blk_drewN ?_ _ | refine blk_drew ?_ | refine blk_alloc ?_ _)); exact BK377.out⟩, ⟨by (with_reducible repeat (first | refine blk_drewN ?_ _ | refine blk_drew ?_ | refine blk_alloc ?_ _)); exact BK383.out⟩, ⟨by (with_reducible repeat (first | refine blk_drewN ?_ _ | refine blk_drew ?_ | refine blk_alloc ?_ _)); exact BK390.out⟩, ⟨by repeat (first | (with_reducible first | exact HB.out | apply below_alloc | apply pw_below_drewN | apply below_drew1 | refine below_set ?_ GE371.out | refine below_set ?_ GE377.out | refine below_set ?_ GE383.out | refine below_set ?_ GE390.out) | exact HB.out)⟩⟩
                                        · rw [if_neg c79] at H
                                          have c79b0 : (t403 == 0) = false := beq_eq_false_iff_ne.mpr c79
                                          have c79b1 : (t403 != 0) = true := bne_iff_ne.mpr c79
                                          exact absurd HRT.out (by rw [laws_FnKnownCounters.j1_no _ _ _ _ _ _ _ H]; decide)
                                      · rw [if_neg c78] at H
                                        have c78b0 : (((rd_L2 t399 0).length : Int) == ji8) = false := beq_eq_false_iff_ne.mpr c78
                                        have c78b1 : (((rd_L2 t399 0).length : Int) != ji8) = true := bne_iff_ne.mpr c78
                                        exact absurd HRT.out (by rw [laws_FnKnownCounters.j1_no _ _ _ _ _ _ _ H]; decide)
                                    · rw [if_neg c77] at H
                                      exact absurd H (by simp)
                                  · rw [if_neg c76] at H
                                    have c76b0 : ((t399.length : Int) == 1) = false := beq_eq_false_iff_ne.mpr c76
                                    have c76b1 : ((t399.length : Int) != 1) = true := bne_iff_ne.mpr c76
                                    exact absurd HRT.out (by rw [laws_FnKnownCounters.j1_no _ _ _ _ _ _ _ H]; decide)
                                · rw [if_neg c75] at H
                                  have c75b0 : (t397 == 1) = false := beq_eq_false_iff_ne.mpr c75
                                  have c75b1 : (t397 != 1) = true := bne_iff_ne.mpr c75
                                  exact absurd HRT.out (by rw [laws_FnKnownCounters.j1_no _ _ _ _ _ _ _ H]; decide)
                              · rw [if_neg c74] at H
                                have c74b0 : (t395 == (wrap64 (ji8 - 1))) = false := beq_eq_false_iff_ne.mpr c74
                                have c74b1 : (t395 != (wrap64 (ji8 - 1))) = true := bne_iff_ne.mpr c74
                                exact absurd HRT.out (by rw [laws_FnKnownCounters.j1_no _ _ _ _ _ _ _ H]; decide)
                            · rw [if_neg c73] at H
                              have c73b0 : (t393 == 0) = false := beq_eq_false_iff_ne.mpr c73
                              have c73b1 : (t393 != 0) = true := bne_iff_ne.mpr c73
                              exact absurd HRT.out (by rw [laws_FnKnownCounters.j1_no _ _ _ _ _ _ _ H]; decide)
                          · rw [if_neg c72] at H
                            have c72b0 : (t391 == 1) = false := beq_eq_false_iff_ne.mpr c72
                            have c72b1 : (t391 != 1) = true := bne_iff_ne.mpr c72
                            (first | rw [c72b0] | (simp only [i64_w, i32_w]; rw [c72b0]) | skip)
                            exact absurd HRT.out (by rw [laws_FnKnownCounters.j1_no _ _ _ _ _ _ _ H]; decide)
                        · replace c71 := Bool.eq_false_iff.mpr c71
                          subst c71
                          have H1 : (laws_FnKnownCounters.j1 kj13 l1 (wrap64 (1 + t365)) ji8 true t378 t379) = some r := by rw [if_neg (show ¬ (false = true) by decide)] at H; exact H
                          exact absurd HRT.out (by rw [laws_FnKnownCounters.j1_no _ _ _ _ _ _ _ H1]; decide)
                      · replace c70 := Bool.eq_false_iff.mpr c70
                        subst c70
                        have H1 : (laws_FnKnownCounters.j1 kj13 l1 (wrap64 (1 + t365)) ji8 true t378 t379) = some r := by rw [if_neg (show ¬ (false = true) by decide)] at H; exact H
                        exact absurd HRT.out (by rw [laws_FnKnownCounters.j1_no _ _ _ _ _ _ _ H1]; decide)
                    · replace c69 := Bool.eq_false_iff.mpr c69
                      subst c69
                      have H1 : (laws_FnKnownCounters.j1 kj13 l1 (wrap64 (1 + t365)) ji8 true t378 t379) = some r := by rw [if_neg (show ¬ (false = true) by decide)] at H; exact H
                      exact absurd HRT.out (by rw [laws_FnKnownCounters.j1_no _ _ _ _ _ _ _ H1]; decide)
                  · replace c68 := Bool.eq_false_iff.mpr c68
                    subst c68
                    have H1 : (laws_FnKnownCounters.j1 kj13 l1 (wrap64 (1 + t365)) ji8 true t378 t379) = some r := by rw [if_neg (show ¬ (false = true) by decide)] at H; exact H
                    exact absurd HRT.out (by rw [laws_FnKnownCounters.j1_no _ _ _ _ _ _ _ H1]; decide)
                · replace c67 := Bool.eq_false_iff.mpr c67
                  subst c67
                  have H1 : (laws_FnKnownCounters.j1 kj13 l1 (wrap64 (1 + t365)) ji8 true t378 t379) = some r := by rw [if_neg (show ¬ (false = true) by decide)] at H; exact H
                  exact absurd HRT.out (by rw [laws_FnKnownCounters.j1_no _ _ _ _ _ _ _ H1]; decide)
              · replace c66 := Bool.eq_false_iff.mpr c66
                subst c66
                have H1 : (laws_FnKnownCounters.j1 kj13 l1 (wrap64 (1 + t365)) ji8 true t378 t379) = some r := by rw [if_neg (show ¬ (false = true) by decide)] at H; exact H
                exact absurd HRT.out (by rw [laws_FnKnownCounters.j1_no _ _ _ _ _ _ _ H1]; decide)
            case rest =>
              clear HC47
              try clear c1
              try clear c2
              try clear p2
              try clear c3
              try clear c4
              try clear p4
              try clear q4
              try clear hx4
              try clear qi4
              try clear c5
              try clear c6
              try clear p6
              try clear c7
              try clear c7b0
              try clear c7b1
              try clear c8
              try clear c9
              try clear c13
              try clear c18
              try clear c20
              try clear c21
              try clear c22
              try clear c23
              try clear c24
              try clear c26
              try clear c27
              try clear c32
              try clear c33
              try clear c34
              try clear c37
              try clear c38
              try clear c39
              try clear c40
              try clear p40
              try clear q40
              try clear hx40
              try clear qi40
              try clear c48
              try clear c49
              try clear c50
              try clear c53
              try clear c54
              try clear c59
              try clear p64
              try clear c66
              try clear c67
              try clear c68
              try clear c69
              try clear c70
              try clear c71
              try clear c72
              try clear c72b0
              try clear c72b1
              try clear c73
              try clear c73b0
              try clear c73b1
              try clear c74
              try clear c74b0
              try clear c74b1
              try clear c75
              try clear c75b0
              try clear c75b1
              try clear c76
              try clear c76b0
              try clear c76b1
              try clear c77
              try clear c77b0
              try clear c77b1
              try clear c78
              try clear c78b0
              try clear c78b1
              try clear c79
              try clear c79b0
              try clear c79b1
              try clear c82
              try clear c83
              try clear c84
              try clear hcz17_0
              try clear hcz17_1
              try clear hcz22_0
              try clear hcz22_1
              try clear hcz28_0
              try clear hcz28_1
              try clear hcz35_0
              try clear hcz35_1
              try clear hcz51_0
              try clear hcz51_1
              try clear hcz55_0
              try clear hcz55_1
              try clear hcz57_0
              try clear hcz57_1
              try clear hcz60_0
              try clear hcz60_1
              try clear hcz62_0
              try clear hcz62_1
              try clear hcz64_0
              try clear hcz64_1
              try clear hcz85_0
              try clear hcz85_1
              try clear hfz17_0
              try clear hfz17_1
              try clear hfz22_0
              try clear hfz22_1
              try clear hfz28_0
              try clear hfz28_1
              try clear hfz35_0
              try clear hfz35_1
              try clear hfz51_0
              try clear hfz51_1
              try clear hfz55_0
              try clear hfz55_1
              try clear hfz57_0
              try clear hfz57_1
              try clear hfz60_0
              try clear hfz60_1
              try clear hfz62_0
              try clear hfz62_1
              try clear hfz64_0
              try clear hfz64_1
              try clear hfz85_0
              try clear hfz85_1
              try clear hx405_0
              try clear p2
              try clear p405
              try clear p6
              try clear q405
              obtain ⟨kq, x181_46, rfl, HA, HJ46, HO_372001, HO_378001, HO_384001, HO_391001, BK371, BK377, BK383, BK390, HB⟩ := hcut
              cases kq with
              | zero => exact absurd HA.out (by simp [laws_FnKnownCounters.j1])
              | succ kj46 =>
                have H := HA.out
                clear HA
                simp only [laws_FnKnownCounters.j1] at H
                by_cases c90 : x181_46 = true
                · subst c90
                  have H1 : (some false) = some r := by rw [if_pos rfl] at H; exact H
                  clear H
                  have H := H1
                  clear H1
                  exact absurd (Option.some.inj (H.trans (congrArg some HRT.out))) (by decide)
                · replace c90 := Bool.eq_false_iff.mpr c90
                  subst c90
                  have H1 : ((laws_r8At.f l1 1 ji8).bind fun t407 => ((impl_ReflectedOf.f (wrap64 (1 + t365)) t407).bind fun bt408 => ((impl_FromReflected.f kj46 (wrap64 (1 + t365)) bt408.1).bind fun bt410 => (if ji8 = 0 then (none) else ((impl_ReflectedOf.f (wrap64 (1 + t365)) (Int.tmod (wrap64 (t407 + 1)) ji8)).bind fun bt412 => ((impl_StateAfter.f kj46 t378 t379 bt408.1 1).bind fun bt414 => (if bt408.2 = true then (if bt410.2 = true then (if bt412.2 = true then (if bt414.2 = true then (if bt410.1 = t407 then (some (bt414.1 == bt412.1)) else (some false)) else (some false)) else (some false)) else (some false)) else (some false)))))))) = some r := by rw [if_neg (show ¬ (false = true) by decide)] at H; exact H
                  clear H
                  have H := H1
                  clear H1
                  replace H := Option.bind_eq_some_iff.mp H
                  obtain ⟨t407, A910, H⟩ := H
                  replace H : ((impl_ReflectedOf.f (wrap64 (1 + t365)) t407).bind fun bt408 => ((impl_FromReflected.f kj46 (wrap64 (1 + t365)) bt408.1).bind fun bt410 => (if ji8 = 0 then (none) else ((impl_ReflectedOf.f (wrap64 (1 + t365)) (Int.tmod (wrap64 (t407 + 1)) ji8)).bind fun bt412 => ((impl_StateAfter.f kj46 t378 t379 bt408.1 1).bind fun bt414 => (if bt408.2 = true then (if bt410.2 = true then (if bt412.2 = true then (if bt414.2 = true then (if bt410.1 = t407 then (some (bt414.1 == bt412.1)) else (some false)) else (some false)) else (some false)) else (some false)) else (some false))))))) = some r := H
                  have A91 := Aside0.mk A910
                  clear A910
                  replace H := Option.bind_eq_some_iff.mp H
                  obtain ⟨⟨t408, t409⟩, A920, H⟩ := H
                  replace H : ((impl_FromReflected.f kj46 (wrap64 (1 + t365)) t408).bind fun bt410 => (if ji8 = 0 then (none) else ((impl_ReflectedOf.f (wrap64 (1 + t365)) (Int.tmod (wrap64 (t407 + 1)) ji8)).bind fun bt412 => ((impl_StateAfter.f kj46 t378 t379 t408 1).bind fun bt414 => (if t409 = true then (if bt410.2 = true then (if bt412.2 = true then (if bt414.2 = true then (if bt410.1 = t407 then (some (bt414.1 == bt412.1)) else (some false)) else (some false)) else (some false)) else (some false)) else (some false)))))) = some r := H
                  have A92 := Aside0.mk A920
                  clear A920
                  replace H := Option.bind_eq_some_iff.mp H
                  obtain ⟨⟨t410, t411⟩, A930, H⟩ := H
                  replace H : (if ji8 = 0 then (none) else ((impl_ReflectedOf.f (wrap64 (1 + t365)) (Int.tmod (wrap64 (t407 + 1)) ji8)).bind fun bt412 => ((impl_StateAfter.f kj46 t378 t379 t408 1).bind fun bt414 => (if t409 = true then (if t411 = true then (if bt412.2 = true then (if bt414.2 = true then (if t410 = t407 then (some (bt414.1 == bt412.1)) else (some false)) else (some false)) else (some false)) else (some false)) else (some false))))) = some r := H
                  have A93 := Aside0.mk A930
                  clear A930
                  by_cases c94 : ji8 = 0
                  · rw [if_pos c94] at H
                    exact absurd H (by simp)
                  · rw [if_neg c94] at H
                    have c94b0 : (ji8 == 0) = false := beq_eq_false_iff_ne.mpr c94
                    have c94b1 : (ji8 != 0) = true := bne_iff_ne.mpr c94
                    replace H := Option.bind_eq_some_iff.mp H
                    obtain ⟨⟨t412, t413⟩, A950, H⟩ := H
                    replace H : ((impl_StateAfter.f kj46 t378 t379 t408 1).bind fun bt414 => (if t409 = true then (if t411 = true then (if t413 = true then (if bt414.2 = true then (if t410 = t407 then (some (bt414.1 == t412)) else (some false)) else (some false)) else (some false)) else (some false)) else (some false))) = some r := H
                    have A95 := Aside0.mk A950
                    clear A950
                    replace H := Option.bind_eq_some_iff.mp H
                    obtain ⟨⟨t414, t415⟩, A960, H⟩ := H
                    replace H : (if t409 = true then (if t411 = true then (if t413 = true then (if t415 = true then (if t410 = t407 then (some (t414 == t412)) else (some false)) else (some false)) else (some false)) else (some false)) else (some false)) = some r := H
                    have A96 := Aside0.mk A960
                    clear A960
                    by_cases c97 : t409 = true
                    · subst c97
                      have H1 : (if t411 = true then (if t413 = true then (if t415 = true then (if t410 = t407 then (some (t414 == t412)) else (some false)) else (some false)) else (some false)) else (some false)) = some r := by rw [if_pos rfl] at H; exact H
                      clear H
                      have H := H1
                      clear H1
                      by_cases c98 : t411 = true
                      · subst c98
                        have H1 : (if t413 = true then (if t415 = true then (if t410 = t407 then (some (t414 == t412)) else (some false)) else (some false)) else (some false)) = some r := by rw [if_pos rfl] at H; exact H
                        clear H
                        have H := H1
                        clear H1
                        by_cases c99 : t413 = true
                        · subst c99
                          have H1 : (if t415 = true then (if t410 = t407 then (some (t414 == t412)) else (some false)) else (some false)) = some r := by rw [if_pos rfl] at H; exact H
                          clear H
                          have H := H1
                          clear H1
                          by_cases c100 : t415 = true
                          · subst c100
                            have H1 : (if t410 = t407 then (some (t414 == t412)) else (some false)) = some r := by rw [if_pos rfl] at H; exact H
                            clear H
                            have H := H1
                            clear H1
                            by_cases c101 : t410 = t407
                            · rw [if_pos c101] at H
                              have c101b0 : (t410 == t407) = true := beq_iff_eq.mpr c101
                              have c101b1 : (t410 != t407) = false := bne_eq_false_iff_eq.mpr c101
                              clear c101
                              obtain rfl := Option.some.inj H
                              go_wp2_with (first | ((with_reducible refine gate_callee (f := 9) rfl ?_); refine goesL_ (some 184) rfl rfl Try.func9 (by kernel_rfl) rfl #[.slice A1 l1.length c1, .int .i64 1, .int .i64 ji8] rfl (by (try simp only [List.map_toArray, List.map_cons, List.map_nil]); first | done | (simp only [hji8]; rfl) | rfl | (simp only [List.length_drop, List.length_take]; rfl)) ?_; (with_reducible refine (laws_r8At.calls _ _ l1 1 ji8 t407 _ ?side1 ?side2 A91.out).mono ?_); (case side1 => repeat (first | exact (Kd.C_below HR1.out HB.out) | (with_reducible refine Kd.C_alloc ?_ _) | (with_reducible refine Kd.C_drewN ?_ _) | (with_reducible refine Kd.C_drew ?_))); (case side2 => first | exact trivial | (exact HC1.out)); rintro e w' ⟨rfl, ⟨nd, rfl⟩⟩; refine ⟨_, rfl, ?_⟩) | ((with_reducible refine gate_callee (f := 26) rfl ?_); refine goesL_ (some 188) rfl rfl Try.func26 (by kernel_rfl) rfl #[.int .i64 (wrap64 (1 + t365)), .int .i64 t407] rfl (by (try simp only [List.map_toArray, List.map_cons, List.map_nil]); first | done | rfl | (simp only [List.length_drop, List.length_take]; rfl)) ?_; (with_reducible refine (impl_ReflectedOf.calls (wrap64 (1 + t365)) t407 t408 true _ A92.out).mono ?_); rintro e w' ⟨rfl, ⟨nd, rfl⟩⟩; refine ⟨_, rfl, ?_⟩) | ((with_reducible refine gate_callee (f := 27) rfl ?_); refine goesL_ (some 194) rfl rfl Try.func27 (by kernel_rfl) rfl #[.int .i64 (wrap64 (1 + t365)), .int .i64 t408] rfl (by (try simp only [List.map_toArray, List.map_cons, List.map_nil]); first | done | rfl | (simp only [List.length_drop, List.length_take]; rfl)) ?_; (with_reducible refine (impl_FromReflected.calls kj46 (wrap64 (1 + t365)) t408 t410 true _ A93.out).mono ?_); rintro e w' ⟨rfl, ⟨nd, rfl⟩⟩; refine ⟨_, rfl, ?_⟩) | ((with_reducible refine gate_callee (f := 26) rfl ?_); refine goesL_ (some 203) rfl rfl Try.func26 (by kernel_rfl) rfl #[.int .i64 (wrap64 (1 + t365)), .int .i64 (Int.tmod (wrap64 (t407 + 1)) ji8)] rfl (by (try simp only [List.map_toArray, List.map_cons, List.map_nil]); first | done | (simp only [hji8]; rfl) | rfl | (simp only [List.length_drop, List.length_take]; rfl)) ?_; (with_reducible refine (impl_ReflectedOf.calls (wrap64 (1 + t365)) (Int.tmod (wrap64 (t407 + 1)) ji8) t412 true _ A95.out).mono ?_); rintro e w' ⟨rfl, ⟨nd, rfl⟩⟩; refine ⟨_, rfl, ?_⟩; have hnb102 := NB383_371.out; have hnc102 := NB371_383.out; have hnb103 := NB383_377.out; have hnc103 := NB377_383.out; have hnb104 := NB383_390.out; have hnc104 := NB390_383.out; have hcz105_0 : wc.cell? ⟨gb383, 0, none⟩ = some (.int .i64 t378) := (blk_cell BK383.out 0).trans rfl; have hcz105_1 : wc.cell? ⟨gb383, 1, none⟩ = some (.slice Ao29 t379.length co29) := (blk_cell BK383.out 1).trans rfl; have hfz105_0 := blk_frozen BK383.out 0; have hfz105_1 := blk_frozen BK383.out 1) | ((with_reducible refine gate_callee (f := 22) rfl ?_); refine goesL_ (some 209) rfl rfl Try.func22 (by kernel_rfl) rfl #[.agg #[.int .i64 t378, .slice Ao29 t379.length co29], .int .i64 t408, .int .i64 1] rfl (by (try simp only [List.map_toArray, List.map_cons, List.map_nil]); first | done | rfl | (simp only [List.length_drop, List.length_take]; rfl)) ?_; (with_reducible refine (impl_StateAfter.calls kj46 t378 _ _ t379 t408 1 t414 true _ ?side1 ?side2 A96.out).mono ?_); (case side1 => repeat (first | exact (Kd.R_reads' HO_384001.out).2.2 | (with_reducible refine Kd.C_alloc ?_ _) | (with_reducible refine Kd.C_drewN ?_ _) | (with_reducible refine Kd.C_drew ?_))); (case side2 => first | exact trivial | (exact (Kd.R_reads' HO_384001.out).2.1)); rintro e w106 ⟨rfl, hb⟩; refine ⟨_, rfl, ?_⟩; have n0_ := Aside0.mk (Kd.R_below (by (with_reducible repeat (first | apply Kd.R_alloc | apply Kd.R_drewN | apply Kd.R_drew)); exact HO_372001.out) hb); have n1_ := Aside0.mk (Kd.R_below (by (with_reducible repeat (first | apply Kd.R_alloc | apply Kd.R_drewN | apply Kd.R_drew)); exact HO_378001.out) hb); have n2_ := Aside0.mk (Kd.R_below (by (with_reducible repeat (first | apply Kd.R_alloc | apply Kd.R_drewN | apply Kd.R_drew)); exact HO_384001.out) hb); have n3_ := Aside0.mk (Kd.R_below (by (with_reducible repeat (first | apply Kd.R_alloc | apply Kd.R_drewN | apply Kd.R_drew)); exact HO_391001.out) hb); have n4_ := Aside0.mk (blk_below (g := gb371) (o := .cells #[.int .i64 t366, .slice Ao18 t367.length co18] 28 (0, 0)) (by (with_reducible repeat (first | refine blk_drewN ?_ _ | refine blk_drew ?_ | refine blk_alloc ?_ _)); exact BK371.out) hb); have n5_ := Aside0.mk (blk_below (g := gb377) (o := .cells #[.int .i64 t372, .slice Ao23 t373.length co23] 28 (0, 0)) (by (with_reducible repeat (first | refine blk_drewN ?_ _ | refine blk_drew ?_ | refine blk_alloc ?_ _)); exact BK377.out) hb); have n6_ := Aside0.mk (blk_below (g := gb383) (o := .cells #[.int .i64 t378, .slice Ao29 t379.length co29] 28 (0, 0)) (by (with_reducible repeat (first | refine blk_drewN ?_ _ | refine blk_drew ?_ | refine blk_alloc ?_ _)); exact BK383.out) hb); have n7_ := Aside0.mk (blk_below (g := gb390) (o := .cells #[.int .i64 t385, .slice Ao36 t386.length co36] 28 (0, 0)) (by (with_reducible repeat (first | refine blk_drewN ?_ _ | refine blk_drew ?_ | refine blk_alloc ?_ _)); exact BK390.out) hb); have n8_ := Aside0.mk (below_step (by repeat (first | (with_reducible first | exact HB.out | apply below_alloc | apply pw_below_drewN | apply below_drew1 | refine below_set ?_ GE371.out | refine below_set ?_ GE377.out | refine below_set ?_ GE383.out | refine below_set ?_ GE390.out) | exact HB.out)) hb); clear HO_372001; clear HO_378001; clear HO_384001; clear HO_391001; clear BK371; clear BK377; clear BK383; clear BK390; clear HB; have HO_372001 := n0_; have HO_378001 := n1_; have HO_384001 := n2_; have HO_391001 := n3_; have BK371 := n4_; have BK377 := n5_; have BK383 := n6_; have BK390 := n7_; have HB := n8_; clear n0_ n1_ n2_ n3_ n4_ n5_ n6_ n7_ n8_; (try clear hb); (try clear hb2); (try clear hk); (try clear hi)))
                              go_ret
                              exact ⟨by first | rfl | (simp [errW_none, errW_some] <;> rfl) | (simp only [← hji6, ← hji8]; first | rfl | (simp [errW_none, errW_some] <;> rfl)) | (simp [*, errW_none, errW_some] <;> rfl), by repeat (first | (with_reducible first | exact HB.out | apply below_alloc | apply pw_below_drewN | apply below_drew1 | refine below_set ?_ GE371.out | refine below_set ?_ GE377.out | refine below_set ?_ GE383.out | refine below_set ?_ GE390.out) | exact HB.out)⟩
                            · rw [if_neg c101] at H
                              have c101b0 : (t410 == t407) = false := beq_eq_false_iff_ne.mpr c101
                              have c101b1 : (t410 != t407) = true := bne_iff_ne.mpr c101
                              exact absurd (Option.some.inj (H.trans (congrArg some HRT.out))) (by decide)
                          · replace c100 := Bool.eq_false_iff.mpr c100
                            subst c100
                            have H1 : (some false) = some r := by rw [if_neg (show ¬ (false = true) by decide)] at H; exact H
                            clear H
                            have H := H1
                            clear H1
                            exact absurd (Option.some.inj (H.trans (congrArg some HRT.out))) (by decide)
                        · replace c99 := Bool.eq_false_iff.mpr c99
                          subst c99
                          have H1 : (some false) = some r := by rw [if_neg (show ¬ (false = true) by decide)] at H; exact H
                          clear H
                          have H := H1
                          clear H1
                          exact absurd (Option.some.inj (H.trans (congrArg some HRT.out))) (by decide)
                      · replace c98 := Bool.eq_false_iff.mpr c98
                        subst c98
                        have H1 : (some false) = some r := by rw [if_neg (show ¬ (false = true) by decide)] at H; exact H
                        clear H
                        have H := H1
                        clear H1
                        exact absurd (Option.some.inj (H.trans (congrArg some HRT.out))) (by decide)
                    · replace c97 := Bool.eq_false_iff.mpr c97
                      subst c97
                      have H1 : (some false) = some r := by rw [if_neg (show ¬ (false = true) by decide)] at H; exact H
                      clear H
                      have H := H1
                      clear H1
                      exact absurd (Option.some.inj (H.trans (congrArg some HRT.out))) (by decide)
    · rw [if_neg c7] at H
      exact absurd H (by simp)

/-- THE ONE PURE STATEMENT of laws_FnKnownCounters: yours. -/
def laws_FnKnownCounters.Pure : Prop := ∀ (l0 : List Int) (l1 : List Int), l0.length ≤ maxLen → l0.length * 1 ≤ 140737488351232 → (∀ x ∈ l0, (Lit.int .u8 x).wf = true) → l1.length ≤ maxLen → l1.length * 1 ≤ 140737488351232 → (∀ x ∈ l1, (Lit.int .u8 x).wf = true) → ∃ k, laws_FnKnownCounters.f k l0 l1 = some true
theorem laws_FnKnownCounters.walk (P : laws_FnKnownCounters.Pure) (a0 : Option Addr) (len0 cap0 : Nat) (z0 : List Int) (a1 : Option Addr) (len1 cap1 : Nat) (z1 : List Int) (w : World) (w0 : (a0 = none ∧ len0 = 0 ∧ cap0 = 0 ∧ z0 = []) ∨ ∃ x, a0 = some x ∧ len0 ≤ cap0 ∧ cap0 ≤ maxLen ∧ z0.length = cap0 ∧ (∀ i, i < z0.length → w.cell? (x.add i) = some (.int .u8 (z0.getD i 0))) ∧ ∀ n ∈ z0, (Lit.int .u8 n).wf = true) (y0 : len0 * 1 ≤ 140737488351232) (w1 : (a1 = none ∧ len1 = 0 ∧ cap1 = 0 ∧ z1 = []) ∨ ∃ x, a1 = some x ∧ len1 ≤ cap1 ∧ cap1 ≤ maxLen ∧ z1.length = cap1 ∧ (∀ i, i < z1.length → w.cell? (x.add i) = some (.int .u8 (z1.getD i 0))) ∧ ∀ n ∈ z1, (Lit.int .u8 n).wf = true) (y1 : len1 * 1 ≤ 140737488351232) :
    Calls Try.prog 7 #[.slice a0 len0 cap0, .slice a1 len1 cap1] w fun e w' => e = .returned (.bool true) ∧ Below w.heap.size w w' := by
  obtain ⟨l0, rfl, hr0, hm0, hw0, hc0⟩ := ReadsInt.ofRowC w0
  obtain ⟨l1, rfl, hr1, hm1, hw1, hc1⟩ := ReadsInt.ofRowC w1
  obtain ⟨k, h⟩ := P l0 l1 hm0 y0 hw0 hm1 y1 hw1
  refine (laws_FnKnownCounters.calls k _ _ l0 _ _ l1 true w (Kd.C_of_reads (d := (0 : Int)) (h1 := fun _ => rfl) hr0) hc0 (Kd.C_of_reads (d := (0 : Int)) (h1 := fun _ => rfl) hr1) hc1 h rfl).mono ?_
  rintro e w' ⟨rfl, hd⟩
  exact ⟨rfl, hd⟩

end Go.Proofs.Ytnpgmkikdnlnaaa.X

