/- My own texts of this seat, merged: Xp9, CShort. Conditions: as each lemma says. -/
import Derived.Test.YtcpfkfaiakpfjaaDoorG0
import Derived.Test.YtcpfkfaiakpfjaaDoorG3
-- Written by a program of this session out of the kit's print of the loaded functions: a plain function of a Go function, and its contract.
namespace Go.Proofs.YtcpfkfaiakpfjaaDoor.X
open Go.RowKit Go.Proofs.YtcpfkfaiakpfjaaDoorW.PrintWords Go.Proofs.YtcpfkfaiakpfjaaDoorW.PrintLast Go.Proofs.YtcpfkfaiakpfjaaDoorW.PrintMore
attribute [local go_sem] max2_int min2_int max_two min_two max_three min_three max_four min_four   -- for this text's walks alone
set_option linter.unusedVariables false
set_option linter.unusedSimpArgs false

/-! ### laws_FnExactShortPulses: function 9 -/
mutual
def laws_FnExactShortPulses.j0 : Nat → ByteArray → Int → List Int → Bool → List Int → Bool → Option (Bool)
  | 0, _, _, _, _, _, _ => none
  | k + 1, x0, x1, x5, x6, x7, x36 => if x36 = true then (some false) else ((laws_markInt64S.f k x7 1).bind fun bt289 => ((laws_heldInt64S.f k bt289.2 1).bind fun t291 => (if t291 < 0 then (some false) else (if t291 = bt289.1 then ((impl_ShortPulses.f k x0 x1).bind fun bt292 => ((laws_eqInt64S.f k bt292.1 x5).bind fun t296 => (if t296 = true then (laws_FnExactShortPulses.j1 k bt289.2 bt289.1 (bt292.2 != x6)) else (laws_FnExactShortPulses.j1 k bt289.2 bt289.1 true)))) else (some false)))))
def laws_FnExactShortPulses.j1 : Nat → List Int → Int → Bool → Option (Bool)
  | 0, _, _, _ => none
  | k + 1, x7, x9, x62 => if x62 = true then (some false) else ((laws_heldInt64S.f k x7 1).bind fun t297 => (if t297 < 0 then (some false) else (if t297 = x9 then (some true) else (some false))))
end
def laws_FnExactShortPulses.f (k : Nat) (a0 : ByteArray) (a1 : Int) : Option (Bool) := if (a0.size : Int) > 1048576 then (some true) else ((spec_ShortPulses.f k a0 a1).bind fun bt280 => ((impl_ShortPulses.f k a0 a1).bind fun bt284 => ((laws_eqInt64S.f k bt284.1 bt280.1).bind fun t288 => (if t288 = true then (laws_FnExactShortPulses.j0 k a0 a1 bt280.1 bt280.2 bt284.1 (bt284.2 != bt280.2)) else (laws_FnExactShortPulses.j0 k a0 a1 bt280.1 bt280.2 bt284.1 true)))))
theorem laws_FnExactShortPulses.mono_l : ∀ k, (∀ y0 y1 y2 y3 y4 y5, LeO (laws_FnExactShortPulses.j0 k y0 y1 y2 y3 y4 y5) (laws_FnExactShortPulses.j0 (k + 1) y0 y1 y2 y3 y4 y5)) ∧ (∀ y0 y1 y2, LeO (laws_FnExactShortPulses.j1 k y0 y1 y2) (laws_FnExactShortPulses.j1 (k + 1) y0 y1 y2))
  | 0 => ⟨fun _ _ _ _ _ _ r h => by simp [laws_FnExactShortPulses.j0] at h, fun _ _ _ r h => by simp [laws_FnExactShortPulses.j1] at h⟩
  | k + 1 => by
    obtain ⟨ih0, ih1⟩ := laws_FnExactShortPulses.mono_l k
    refine ⟨?_, ?_⟩
    · intro y0 y1 y2 y3 y4 y5
      unfold laws_FnExactShortPulses.j0
      repeat' first
      | (with_reducible exact ih0 _ _ _ _ _ _)
      | (with_reducible exact ih1 _ _ _)
      | (with_reducible exact impl_ShortPulses.mono _ _ _)
      | (with_reducible exact laws_eqInt64S.mono _ _ _)
      | (with_reducible exact laws_heldInt64S.mono _ _ _)
      | (with_reducible exact laws_markInt64S.mono _ _ _)
      | (with_reducible exact spec_ShortPulses.mono _ _ _)
      | (with_reducible exact LeO.refl _)
      | (with_reducible exact LeO.none _)
      | (with_reducible refine LeO.ite ?_ ?_)
      | (with_reducible refine LeO.bind ?_ (fun _ => ?_))
      | exact ih0 _ _ _ _ _ _
      | exact ih1 _ _ _
      | exact impl_ShortPulses.mono _ _ _
      | exact laws_eqInt64S.mono _ _ _
      | exact laws_heldInt64S.mono _ _ _
      | exact laws_markInt64S.mono _ _ _
      | exact spec_ShortPulses.mono _ _ _
      | exact LeO.none _
      | refine LeO.ite ?_ ?_
      | refine LeO.bind ?_ (fun _ => ?_)
    · intro y0 y1 y2
      unfold laws_FnExactShortPulses.j1
      repeat' first
      | (with_reducible exact ih0 _ _ _ _ _ _)
      | (with_reducible exact ih1 _ _ _)
      | (with_reducible exact impl_ShortPulses.mono _ _ _)
      | (with_reducible exact laws_eqInt64S.mono _ _ _)
      | (with_reducible exact laws_heldInt64S.mono _ _ _)
      | (with_reducible exact laws_markInt64S.mono _ _ _)
      | (with_reducible exact spec_ShortPulses.mono _ _ _)
      | (with_reducible exact LeO.refl _)
      | (with_reducible exact LeO.none _)
      | (with_reducible refine LeO.ite ?_ ?_)
      | (with_reducible refine LeO.bind ?_ (fun _ => ?_))
      | exact ih0 _ _ _ _ _ _
      | exact ih1 _ _ _
      | exact impl_ShortPulses.mono _ _ _
      | exact laws_eqInt64S.mono _ _ _
      | exact laws_heldInt64S.mono _ _ _
      | exact laws_markInt64S.mono _ _ _
      | exact spec_ShortPulses.mono _ _ _
      | exact LeO.none _
      | refine LeO.ite ?_ ?_
      | refine LeO.bind ?_ (fun _ => ?_)
theorem laws_FnExactShortPulses.mono : ∀ a0 a1 k, LeO (laws_FnExactShortPulses.f k a0 a1) (laws_FnExactShortPulses.f (k + 1) a0 a1) := by
  intro a0 a1 k
  obtain ⟨ih0, ih1⟩ := laws_FnExactShortPulses.mono_l k
  unfold laws_FnExactShortPulses.f
  repeat' first
      | (with_reducible exact ih0 _ _ _ _ _ _)
      | (with_reducible exact ih1 _ _ _)
      | (with_reducible exact impl_ShortPulses.mono _ _ _)
      | (with_reducible exact laws_eqInt64S.mono _ _ _)
      | (with_reducible exact laws_heldInt64S.mono _ _ _)
      | (with_reducible exact laws_markInt64S.mono _ _ _)
      | (with_reducible exact spec_ShortPulses.mono _ _ _)
      | (with_reducible exact LeO.refl _)
      | (with_reducible exact LeO.none _)
      | (with_reducible refine LeO.ite ?_ ?_)
      | (with_reducible refine LeO.bind ?_ (fun _ => ?_))
      | exact ih0 _ _ _ _ _ _
      | exact ih1 _ _ _
      | exact impl_ShortPulses.mono _ _ _
      | exact laws_eqInt64S.mono _ _ _
      | exact laws_heldInt64S.mono _ _ _
      | exact laws_markInt64S.mono _ _ _
      | exact spec_ShortPulses.mono _ _ _
      | exact LeO.none _
      | refine LeO.ite ?_ ?_
      | refine LeO.bind ?_ (fun _ => ?_)
set_option maxHeartbeats 8000000 in
set_option maxRecDepth 100000 in
theorem laws_FnExactShortPulses.calls (k : Nat) (a0 : ByteArray) (a1 : Int) (r : Bool) (w : World) (h : laws_FnExactShortPulses.f k a0 a1 = some r) :
    Calls Tryd.prog 9 #[.string a0, .int .i64 a1] w fun e w' => e = .returned (.bool r) ∧ Below w.heap.size w w' := by
  have HB := Aside0.mk (Below.refl w.heap.size w)
  have H : (if (a0.size : Int) > 1048576 then (some true) else ((spec_ShortPulses.f k a0 a1).bind fun bt280 => ((impl_ShortPulses.f k a0 a1).bind fun bt284 => ((laws_eqInt64S.f k bt284.1 bt280.1).bind fun t288 => (if t288 = true then (laws_FnExactShortPulses.j0 k a0 a1 bt280.1 bt280.2 bt284.1 (bt284.2 != bt280.2)) else (laws_FnExactShortPulses.j0 k a0 a1 bt280.1 bt280.2 bt284.1 true)))))) = some r := h
  clear h
  by_cases c3 : (a0.size : Int) > 1048576
  · rw [if_pos c3] at H
    have c3b0 : decide (1048576 < (a0.size : Int)) = true := decide_eq_true c3
    have c3b1 : decide (1048576 < a0.size) = true := decide_eq_true (by omega)
    clear c3
    obtain rfl := Option.some.inj H
    go_enter Tryd.func9, Tryd.ntmps9
    go_wp2
    go_ret
    exact ⟨by first | rfl | (simp [errW_none, errW_some] <;> rfl) | (simp [*, errW_none, errW_some] <;> rfl), by repeat (first | (with_reducible first | exact HB.out | apply below_alloc | apply pw_below_drewN | apply below_drew1) | exact HB.out)⟩
  · rw [if_neg c3] at H
    have c3b0 : decide (1048576 < (a0.size : Int)) = false := decide_eq_false c3
    have c3b1 : decide (1048576 < a0.size) = false := decide_eq_false (by omega)
    clear c3
    replace H := Option.bind_eq_some_iff.mp H
    obtain ⟨⟨t280, t281⟩, A40, H⟩ := H
    replace H : ((impl_ShortPulses.f k a0 a1).bind fun bt284 => ((laws_eqInt64S.f k bt284.1 t280).bind fun t288 => (if t288 = true then (laws_FnExactShortPulses.j0 k a0 a1 t280 t281 bt284.1 (bt284.2 != t281)) else (laws_FnExactShortPulses.j0 k a0 a1 t280 t281 bt284.1 true)))) = some r := H
    have A4 := Aside0.mk A40
    clear A40
    replace H := Option.bind_eq_some_iff.mp H
    obtain ⟨⟨t284, t285⟩, A50, H⟩ := H
    replace H : ((laws_eqInt64S.f k t284 t280).bind fun t288 => (if t288 = true then (laws_FnExactShortPulses.j0 k a0 a1 t280 t281 t284 (t285 != t281)) else (laws_FnExactShortPulses.j0 k a0 a1 t280 t281 t284 true))) = some r := H
    have A5 := Aside0.mk A50
    clear A50
    have HC6 := Aside0.mk H
    clear H
    go_enter Tryd.func9, Tryd.ntmps9
    go_upto_region 5 with (first | ((with_reducible refine gate_callee (f := 29) rfl ?_); refine goesL_ (some 19) rfl rfl Tryd.func29 (by kernel_rfl) rfl #[.string a0, .int .i64 a1] rfl (by (try simp only [List.map_toArray, List.map_cons, List.map_nil]); first | done | rfl | (simp only [List.length_drop, List.length_take]; rfl)) ?_; (with_reducible refine (spec_ShortPulses.calls k a0 a1 t280 t281 _ A4.out).mono ?_); rintro e w7 ⟨v282, rfl, ho0, hb⟩; refine ⟨_, rfl, ?_⟩; have n0_ := Aside0.mk (Kd.R_lower ho0 (below_size (by repeat (first | (with_reducible first | exact HB.out | apply below_alloc | apply pw_below_drewN | apply below_drew1) | exact HB.out)))); have n1_ := Aside0.mk (below_step (by repeat (first | (with_reducible first | exact HB.out | apply below_alloc | apply pw_below_drewN | apply below_drew1) | exact HB.out)) hb); clear HB; have HO283 := n0_; have HB := n1_; clear n0_ n1_; (try clear hb); (try clear hb2); (try clear hk); (try clear hi); (try clear ho0)) | ((with_reducible refine gate_callee (f := 30) rfl ?_); refine goesL_ (some 25) rfl rfl Tryd.func30 (by kernel_rfl) rfl #[.string a0, .int .i64 a1] rfl (by (try simp only [List.map_toArray, List.map_cons, List.map_nil]); first | done | rfl | (simp only [List.length_drop, List.length_take]; rfl)) ?_; (with_reducible refine (impl_ShortPulses.calls k a0 a1 t284 t285 _ A5.out).mono ?_); rintro e w8 ⟨v286, rfl, ho0, hb⟩; refine ⟨_, rfl, ?_⟩; have n0_ := Aside0.mk (Kd.R_elder' (by (with_reducible repeat (first | apply Kd.R_alloc | apply Kd.R_drewN | apply Kd.R_drew)); exact HO283.out) (Kd.R_base ho0) hb); have n1_ := Aside0.mk (Kd.R_lower (Kd.R_new' ho0 (Kd.R_lt (by (with_reducible repeat (first | apply Kd.R_alloc | apply Kd.R_drewN | apply Kd.R_drew)); exact HO283.out))) (below_size (by repeat (first | (with_reducible first | exact HB.out | apply below_alloc | apply pw_below_drewN | apply below_drew1) | exact HB.out)))); have n2_ := Aside0.mk (below_step (by repeat (first | (with_reducible first | exact HB.out | apply below_alloc | apply pw_below_drewN | apply below_drew1) | exact HB.out)) hb); clear HO283; clear HB; have HO283 := n0_; have HO287 := n1_; have HB := n2_; clear n0_ n1_ n2_; (try clear hb); (try clear hb2); (try clear hk); (try clear hi); (try clear ho0)))
    (try simp only [Act.put, List.setIfInBounds_toArray, List.set_cons_zero, List.set_cons_succ])
    go_cut [36] (fun v36 wc => ∃ (kq : Nat) (x36_5 : Bool), v36 = .bool x36_5 ∧ Aside0 (laws_FnExactShortPulses.j0 kq a0 a1 t280 t281 t284 x36_5 = some r) ∧ Aside0 (kq ≤ k) ∧ Aside0 (Kd.R (Kd.int .i64) 2 wc w.heap.size (fun k_ => some k_ ≠ (v286 : Value).ownBlock) v282 t280) ∧ Aside0 (Kd.R (Kd.int .i64) 2 wc w.heap.size (fun k_ => some k_ ≠ (v282 : Value).ownBlock) v286 t284) ∧ Aside0 (Below w.heap.size w wc))
    case first =>
      have H := HC6.out
      clear HC6
      replace H := Option.bind_eq_some_iff.mp H
      obtain ⟨t288, A90, H⟩ := H
      replace H : (if t288 = true then (laws_FnExactShortPulses.j0 k a0 a1 t280 t281 t284 (t285 != t281)) else (laws_FnExactShortPulses.j0 k a0 a1 t280 t281 t284 true)) = some r := H
      have A9 := Aside0.mk A90
      clear A90
      by_cases c10 : t288 = true
      · subst c10
        have H1 : (laws_FnExactShortPulses.j0 k a0 a1 t280 t281 t284 (t285 != t281)) = some r := by rw [if_pos rfl] at H; exact H
        clear H
        have H := H1
        clear H1
        have H' := Aside0.mk H
        clear H
        obtain ⟨Ao11, co11, eo11⟩ := Kd.R_slice HO287.out
        subst eo11
        obtain ⟨Ao12, co12, eo12⟩ := Kd.R_slice HO283.out
        subst eo12
        go_wp2_with (first | ((with_reducible refine gate_callee (f := 24) rfl ?_); refine goesL_ (some 30) rfl rfl Tryd.func24 (by kernel_rfl) rfl #[.slice Ao11 t284.length co11, .slice Ao12 t280.length co12] rfl (by (try simp only [List.map_toArray, List.map_cons, List.map_nil]); first | done | rfl | (simp only [List.length_drop, List.length_take]; rfl)) ?_; (with_reducible refine (laws_eqInt64S.calls k _ _ t284 _ _ t280 true _ ?side1 ?side2 ?side3 ?side4 A9.out).mono ?_); (case side1 => repeat (first | exact (Kd.R_reads' HO287.out).2.2 | (with_reducible refine Kd.C_alloc ?_ _) | (with_reducible refine Kd.C_drewN ?_ _) | (with_reducible refine Kd.C_drew ?_))); (case side2 => exact (Kd.R_reads' HO287.out).2.1); (case side3 => repeat (first | exact (Kd.R_reads' HO283.out).2.2 | (with_reducible refine Kd.C_alloc ?_ _) | (with_reducible refine Kd.C_drewN ?_ _) | (with_reducible refine Kd.C_drew ?_))); (case side4 => exact (Kd.R_reads' HO283.out).2.1); rintro e w' ⟨rfl, ⟨nd, rfl⟩⟩; refine ⟨_, rfl, ?_⟩))
        go_meet
        case rel => exact ⟨_, ((t285 != t281)), (by first | rfl | (simp; done) | (simp [*]; done)), H', ⟨by first | omega | exact Nat.le_refl _⟩, ⟨by (with_reducible repeat (first | apply Kd.R_alloc | apply Kd.R_drewN | apply Kd.R_drew)); exact Kd.R_mono HO283.out (fun _ hk => hk.2)⟩, ⟨by (with_reducible repeat (first | apply Kd.R_alloc | apply Kd.R_drewN | apply Kd.R_drew)); exact Kd.R_mono HO287.out (fun _ hk => hk.2)⟩, ⟨by repeat (first | (with_reducible first | exact HB.out | apply below_alloc | apply pw_below_drewN | apply below_drew1) | exact HB.out)⟩⟩
      · replace c10 := Bool.eq_false_iff.mpr c10
        subst c10
        have H1 : (laws_FnExactShortPulses.j0 k a0 a1 t280 t281 t284 true) = some r := by rw [if_neg (show ¬ (false = true) by decide)] at H; exact H
        clear H
        have H := H1
        clear H1
        have H' := Aside0.mk H
        clear H
        obtain ⟨Ao13, co13, eo13⟩ := Kd.R_slice HO287.out
        subst eo13
        obtain ⟨Ao14, co14, eo14⟩ := Kd.R_slice HO283.out
        subst eo14
        go_wp2_with (first | ((with_reducible refine gate_callee (f := 24) rfl ?_); refine goesL_ (some 30) rfl rfl Tryd.func24 (by kernel_rfl) rfl #[.slice Ao13 t284.length co13, .slice Ao14 t280.length co14] rfl (by (try simp only [List.map_toArray, List.map_cons, List.map_nil]); first | done | rfl | (simp only [List.length_drop, List.length_take]; rfl)) ?_; (with_reducible refine (laws_eqInt64S.calls k _ _ t284 _ _ t280 false _ ?side1 ?side2 ?side3 ?side4 A9.out).mono ?_); (case side1 => repeat (first | exact (Kd.R_reads' HO287.out).2.2 | (with_reducible refine Kd.C_alloc ?_ _) | (with_reducible refine Kd.C_drewN ?_ _) | (with_reducible refine Kd.C_drew ?_))); (case side2 => exact (Kd.R_reads' HO287.out).2.1); (case side3 => repeat (first | exact (Kd.R_reads' HO283.out).2.2 | (with_reducible refine Kd.C_alloc ?_ _) | (with_reducible refine Kd.C_drewN ?_ _) | (with_reducible refine Kd.C_drew ?_))); (case side4 => exact (Kd.R_reads' HO283.out).2.1); rintro e w' ⟨rfl, ⟨nd, rfl⟩⟩; refine ⟨_, rfl, ?_⟩))
        go_meet
        case rel => exact ⟨_, (true), (by first | rfl | (simp; done) | (simp [*]; done)), H', ⟨by first | omega | exact Nat.le_refl _⟩, ⟨by (with_reducible repeat (first | apply Kd.R_alloc | apply Kd.R_drewN | apply Kd.R_drew)); exact Kd.R_mono HO283.out (fun _ hk => hk.2)⟩, ⟨by (with_reducible repeat (first | apply Kd.R_alloc | apply Kd.R_drewN | apply Kd.R_drew)); exact Kd.R_mono HO287.out (fun _ hk => hk.2)⟩, ⟨by repeat (first | (with_reducible first | exact HB.out | apply below_alloc | apply pw_below_drewN | apply below_drew1) | exact HB.out)⟩⟩
    case rest =>
      clear HC6
      try clear c1
      try clear c2
      try clear p2
      try clear c3
      try clear c3b0
      try clear c3b1
      try clear c9
      try clear c10
      obtain ⟨kq, x36_5, rfl, HA, HJ5, HO_5, HO_7, HB⟩ := hcut
      cases kq with
      | zero => exact absurd HA.out (by simp [laws_FnExactShortPulses.j0])
      | succ kj5 =>
        have H := HA.out
        clear HA
        simp only [laws_FnExactShortPulses.j0] at H
        by_cases c15 : x36_5 = true
        · subst c15
          have H1 : (some false) = some r := by rw [if_pos rfl] at H; exact H
          clear H
          have H := H1
          clear H1
          obtain rfl := Option.some.inj H
          go_wp2
          go_ret
          exact ⟨by first | rfl | (simp [errW_none, errW_some] <;> rfl) | (simp [*, errW_none, errW_some] <;> rfl), by repeat (first | (with_reducible first | exact HB.out | apply below_alloc | apply pw_below_drewN | apply below_drew1) | exact HB.out)⟩
        · replace c15 := Bool.eq_false_iff.mpr c15
          subst c15
          have H1 : ((laws_markInt64S.f kj5 t284 1).bind fun bt289 => ((laws_heldInt64S.f kj5 bt289.2 1).bind fun t291 => (if t291 < 0 then (some false) else (if t291 = bt289.1 then ((impl_ShortPulses.f kj5 a0 a1).bind fun bt292 => ((laws_eqInt64S.f kj5 bt292.1 t280).bind fun t296 => (if t296 = true then (laws_FnExactShortPulses.j1 kj5 bt289.2 bt289.1 (bt292.2 != t281)) else (laws_FnExactShortPulses.j1 kj5 bt289.2 bt289.1 true)))) else (some false))))) = some r := by rw [if_neg (show ¬ (false = true) by decide)] at H; exact H
          clear H
          have H := H1
          clear H1
          replace H := Option.bind_eq_some_iff.mp H
          obtain ⟨⟨t289, t290⟩, A160, H⟩ := H
          replace H : ((laws_heldInt64S.f kj5 t290 1).bind fun t291 => (if t291 < 0 then (some false) else (if t291 = t289 then ((impl_ShortPulses.f kj5 a0 a1).bind fun bt292 => ((laws_eqInt64S.f kj5 bt292.1 t280).bind fun t296 => (if t296 = true then (laws_FnExactShortPulses.j1 kj5 t290 t289 (bt292.2 != t281)) else (laws_FnExactShortPulses.j1 kj5 t290 t289 true)))) else (some false)))) = some r := H
          have A16 := Aside0.mk A160
          clear A160
          replace H := Option.bind_eq_some_iff.mp H
          obtain ⟨t291, A170, H⟩ := H
          replace H : (if t291 < 0 then (some false) else (if t291 = t289 then ((impl_ShortPulses.f kj5 a0 a1).bind fun bt292 => ((laws_eqInt64S.f kj5 bt292.1 t280).bind fun t296 => (if t296 = true then (laws_FnExactShortPulses.j1 kj5 t290 t289 (bt292.2 != t281)) else (laws_FnExactShortPulses.j1 kj5 t290 t289 true)))) else (some false))) = some r := H
          have A17 := Aside0.mk A170
          clear A170
          by_cases c18 : t291 < 0
          · rw [if_pos c18] at H
            have c18b0 : decide (t291 < 0) = true := decide_eq_true c18
            clear c18
            obtain rfl := Option.some.inj H
            obtain ⟨Ao19, co19, eo19⟩ := Kd.R_slice HO_7.out
            subst eo19
            go_wp2_with (first | ((with_reducible refine gate_callee (f := 25) rfl ?_); refine goesL_ (some 39) rfl rfl Tryd.func25 (by kernel_rfl) rfl #[.slice Ao19 t284.length co19, .int .i64 1] rfl (by (try simp only [List.map_toArray, List.map_cons, List.map_nil]); first | done | rfl | (simp only [List.length_drop, List.length_take]; rfl)) ?_; (with_reducible refine (laws_markInt64S.calls kj5 (fun k_ => some k_ = (.slice Ao19 t284.length co19 : Value).ownBlock) (.slice Ao19 t284.length co19) t284 1 t289 t290 w _ ?side1 ?side2 A16.out).mono ?_); (case side1 => repeat (first | (with_reducible first | exact HB.out | apply below_alloc | apply pw_below_drewN | apply below_drew1) | exact HB.out)); (case side2 => exact Kd.R_tight rfl HO_7.out); rintro e w20 ⟨rfl, hy0, hb, hkp⟩; refine ⟨_, rfl, ?_⟩; have n0_ := Aside0.mk (Kd.R_mono (ok' := fun k_ => some k_ ≠ (.slice Ao19 t284.length co19 : Value).ownBlock) (Kd.R_keptB (HO_5.out) hkp (fun k_ hk_ hs_ => (hk_) hs_)) (fun k_ hk_ => hk_.1)); have n1_ := Aside0.mk (Kd.R_reok rfl hy0 (fun k_ e_ => HO_7.out.1 k_ e_)); have n2_ := Aside0.mk (hb); clear HO_5; clear HO_7; clear HB; have HO_5 := n0_; have HO_7 := n1_; have HB := n2_; clear n0_ n1_ n2_; (try clear hb); (try clear hkp); (try clear hy0)) | ((with_reducible refine gate_callee (f := 26) rfl ?_); refine goesL_ (some 42) rfl rfl Tryd.func26 (by kernel_rfl) rfl #[.slice Ao19 t290.length co19, .int .i64 1] rfl (by (try simp only [List.map_toArray, List.map_cons, List.map_nil]); first | done | (rw [show t290.length = t284.length from (Kd.R_reads' HO_7.out).1.symm] <;> rfl) | rfl | (simp only [List.length_drop, List.length_take]; rfl)) ?_; (with_reducible refine (laws_heldInt64S.calls kj5 _ _ t290 1 t291 _ ?side1 ?side2 A17.out).mono ?_); (case side1 => repeat (first | exact (Kd.R_reads' HO_7.out).2.2 | (with_reducible refine Kd.C_alloc ?_ _) | (with_reducible refine Kd.C_drewN ?_ _) | (with_reducible refine Kd.C_drew ?_))); (case side2 => rw [show t290.length = t284.length from (Kd.R_reads' HO_7.out).1.symm]; exact (Kd.R_reads' HO_7.out).2.1); rintro e w' ⟨rfl, ⟨nd, rfl⟩⟩; refine ⟨_, rfl, ?_⟩))
            go_ret
            exact ⟨by first | rfl | (simp [errW_none, errW_some] <;> rfl) | (simp [*, errW_none, errW_some] <;> rfl), by repeat (first | (with_reducible first | exact HB.out | apply below_alloc | apply pw_below_drewN | apply below_drew1) | exact HB.out)⟩
          · rw [if_neg c18] at H
            have c18b0 : decide (t291 < 0) = false := decide_eq_false c18
            clear c18
            by_cases c21 : t291 = t289
            · rw [if_pos c21] at H
              have c21b0 : (t291 == t289) = true := beq_iff_eq.mpr c21
              have c21b1 : (t291 != t289) = false := bne_eq_false_iff_eq.mpr c21
              clear c21
              replace H := Option.bind_eq_some_iff.mp H
              obtain ⟨⟨t292, t293⟩, A220, H⟩ := H
              replace H : ((laws_eqInt64S.f kj5 t292 t280).bind fun t296 => (if t296 = true then (laws_FnExactShortPulses.j1 kj5 t290 t289 (t293 != t281)) else (laws_FnExactShortPulses.j1 kj5 t290 t289 true))) = some r := H
              have A22 := Aside0.mk A220
              clear A220
              have HC23 := Aside0.mk H
              clear H
              obtain ⟨Ao24, co24, eo24⟩ := Kd.R_slice HO_7.out
              subst eo24
              go_upto_region 16 with (first | ((with_reducible refine gate_callee (f := 25) rfl ?_); refine goesL_ (some 39) rfl rfl Tryd.func25 (by kernel_rfl) rfl #[.slice Ao24 t284.length co24, .int .i64 1] rfl (by (try simp only [List.map_toArray, List.map_cons, List.map_nil]); first | done | rfl | (simp only [List.length_drop, List.length_take]; rfl)) ?_; (with_reducible refine (laws_markInt64S.calls kj5 (fun k_ => some k_ = (.slice Ao24 t284.length co24 : Value).ownBlock) (.slice Ao24 t284.length co24) t284 1 t289 t290 w _ ?side1 ?side2 A16.out).mono ?_); (case side1 => repeat (first | (with_reducible first | exact HB.out | apply below_alloc | apply pw_below_drewN | apply below_drew1) | exact HB.out)); (case side2 => exact Kd.R_tight rfl HO_7.out); rintro e w25 ⟨rfl, hy0, hb, hkp⟩; refine ⟨_, rfl, ?_⟩; have n0_ := Aside0.mk (Kd.R_mono (ok' := fun k_ => some k_ ≠ (.slice Ao24 t284.length co24 : Value).ownBlock) (Kd.R_keptB (HO_5.out) hkp (fun k_ hk_ hs_ => (hk_) hs_)) (fun k_ hk_ => hk_.1)); have n1_ := Aside0.mk (Kd.R_reok rfl hy0 (fun k_ e_ => HO_7.out.1 k_ e_)); have n2_ := Aside0.mk (hb); clear HO_5; clear HO_7; clear HB; have HO_5 := n0_; have HO_7 := n1_; have HB := n2_; clear n0_ n1_ n2_; (try clear hb); (try clear hkp); (try clear hy0)) | ((with_reducible refine gate_callee (f := 26) rfl ?_); refine goesL_ (some 42) rfl rfl Tryd.func26 (by kernel_rfl) rfl #[.slice Ao24 t290.length co24, .int .i64 1] rfl (by (try simp only [List.map_toArray, List.map_cons, List.map_nil]); first | done | (rw [show t290.length = t284.length from (Kd.R_reads' HO_7.out).1.symm] <;> rfl) | rfl | (simp only [List.length_drop, List.length_take]; rfl)) ?_; (with_reducible refine (laws_heldInt64S.calls kj5 _ _ t290 1 t291 _ ?side1 ?side2 A17.out).mono ?_); (case side1 => repeat (first | exact (Kd.R_reads' HO_7.out).2.2 | (with_reducible refine Kd.C_alloc ?_ _) | (with_reducible refine Kd.C_drewN ?_ _) | (with_reducible refine Kd.C_drew ?_))); (case side2 => rw [show t290.length = t284.length from (Kd.R_reads' HO_7.out).1.symm]; exact (Kd.R_reads' HO_7.out).2.1); rintro e w' ⟨rfl, ⟨nd, rfl⟩⟩; refine ⟨_, rfl, ?_⟩) | ((with_reducible refine gate_callee (f := 30) rfl ?_); refine goesL_ (some 51) rfl rfl Tryd.func30 (by kernel_rfl) rfl #[.string a0, .int .i64 a1] rfl (by (try simp only [List.map_toArray, List.map_cons, List.map_nil]); first | done | rfl | (simp only [List.length_drop, List.length_take]; rfl)) ?_; (with_reducible refine (impl_ShortPulses.calls kj5 a0 a1 t292 t293 _ A22.out).mono ?_); rintro e w26 ⟨v294, rfl, ho0, hb⟩; refine ⟨_, rfl, ?_⟩; have n0_ := Aside0.mk (Kd.R_elder' (by (with_reducible repeat (first | apply Kd.R_alloc | apply Kd.R_drewN | apply Kd.R_drew)); exact HO_5.out) (Kd.R_base ho0) hb); have n1_ := Aside0.mk (Kd.R_elder' (by (with_reducible repeat (first | apply Kd.R_alloc | apply Kd.R_drewN | apply Kd.R_drew)); exact HO_7.out) (Kd.R_base ho0) hb); have n2_ := Aside0.mk (Kd.R_lower (Kd.R_new' (Kd.R_new' ho0 (Kd.R_lt (by (with_reducible repeat (first | apply Kd.R_alloc | apply Kd.R_drewN | apply Kd.R_drew)); exact HO_5.out))) (Kd.R_lt (by (with_reducible repeat (first | apply Kd.R_alloc | apply Kd.R_drewN | apply Kd.R_drew)); exact HO_7.out))) (below_size (by repeat (first | (with_reducible first | exact HB.out | apply below_alloc | apply pw_below_drewN | apply below_drew1) | exact HB.out)))); have n3_ := Aside0.mk (below_step (by repeat (first | (with_reducible first | exact HB.out | apply below_alloc | apply pw_below_drewN | apply below_drew1) | exact HB.out)) hb); clear HO_5; clear HO_7; clear HB; have HO_5 := n0_; have HO_7 := n1_; have HO295 := n2_; have HB := n3_; clear n0_ n1_ n2_ n3_; (try clear hb); (try clear hb2); (try clear hk); (try clear hi); (try clear ho0)))
              (try simp only [Act.put, List.setIfInBounds_toArray, List.set_cons_zero, List.set_cons_succ])
              go_cut [62] (fun v62 wc => ∃ (kq : Nat) (x62_22 : Bool), v62 = .bool x62_22 ∧ Aside0 (laws_FnExactShortPulses.j1 kq t290 t289 x62_22 = some r) ∧ Aside0 (kq ≤ kj5) ∧ Aside0 (Kd.R (Kd.int .i64) 2 wc w.heap.size (fun _ => True) (.slice Ao24 t284.length co24) t290) ∧ Aside0 (Below w.heap.size w wc))
              case first =>
                have H := HC23.out
                clear HC23
                replace H := Option.bind_eq_some_iff.mp H
                obtain ⟨t296, A270, H⟩ := H
                replace H : (if t296 = true then (laws_FnExactShortPulses.j1 kj5 t290 t289 (t293 != t281)) else (laws_FnExactShortPulses.j1 kj5 t290 t289 true)) = some r := H
                have A27 := Aside0.mk A270
                clear A270
                by_cases c28 : t296 = true
                · subst c28
                  have H1 : (laws_FnExactShortPulses.j1 kj5 t290 t289 (t293 != t281)) = some r := by rw [if_pos rfl] at H; exact H
                  clear H
                  have H := H1
                  clear H1
                  have H' := Aside0.mk H
                  clear H
                  obtain ⟨Ao29, co29, eo29⟩ := Kd.R_slice HO295.out
                  subst eo29
                  obtain ⟨Ao30, co30, eo30⟩ := Kd.R_slice HO_5.out
                  subst eo30
                  go_wp2_with (first | ((with_reducible refine gate_callee (f := 24) rfl ?_); refine goesL_ (some 56) rfl rfl Tryd.func24 (by kernel_rfl) rfl #[.slice Ao29 t292.length co29, .slice Ao30 t280.length co30] rfl (by (try simp only [List.map_toArray, List.map_cons, List.map_nil]); first | done | rfl | (simp only [List.length_drop, List.length_take]; rfl)) ?_; (with_reducible refine (laws_eqInt64S.calls kj5 _ _ t292 _ _ t280 true _ ?side1 ?side2 ?side3 ?side4 A27.out).mono ?_); (case side1 => repeat (first | exact (Kd.R_reads' HO295.out).2.2 | (with_reducible refine Kd.C_alloc ?_ _) | (with_reducible refine Kd.C_drewN ?_ _) | (with_reducible refine Kd.C_drew ?_))); (case side2 => exact (Kd.R_reads' HO295.out).2.1); (case side3 => repeat (first | exact (Kd.R_reads' HO_5.out).2.2 | (with_reducible refine Kd.C_alloc ?_ _) | (with_reducible refine Kd.C_drewN ?_ _) | (with_reducible refine Kd.C_drew ?_))); (case side4 => exact (Kd.R_reads' HO_5.out).2.1); rintro e w' ⟨rfl, ⟨nd, rfl⟩⟩; refine ⟨_, rfl, ?_⟩))
                  go_meet
                  case rel => exact ⟨_, ((t293 != t281)), (by first | rfl | (simp; done) | (simp [*]; done)), H', ⟨by have := HJ5.out; first | omega | exact Nat.le_refl _⟩, ⟨by (with_reducible repeat (first | apply Kd.R_alloc | apply Kd.R_drewN | apply Kd.R_drew)); exact Kd.R_mono HO_7.out (fun _ hk => trivial)⟩, ⟨by repeat (first | (with_reducible first | exact HB.out | apply below_alloc | apply pw_below_drewN | apply below_drew1) | exact HB.out)⟩⟩
                · replace c28 := Bool.eq_false_iff.mpr c28
                  subst c28
                  have H1 : (laws_FnExactShortPulses.j1 kj5 t290 t289 true) = some r := by rw [if_neg (show ¬ (false = true) by decide)] at H; exact H
                  clear H
                  have H := H1
                  clear H1
                  have H' := Aside0.mk H
                  clear H
                  obtain ⟨Ao31, co31, eo31⟩ := Kd.R_slice HO295.out
                  subst eo31
                  obtain ⟨Ao32, co32, eo32⟩ := Kd.R_slice HO_5.out
                  subst eo32
                  go_wp2_with (first | ((with_reducible refine gate_callee (f := 24) rfl ?_); refine goesL_ (some 56) rfl rfl Tryd.func24 (by kernel_rfl) rfl #[.slice Ao31 t292.length co31, .slice Ao32 t280.length co32] rfl (by (try simp only [List.map_toArray, List.map_cons, List.map_nil]); first | done | rfl | (simp only [List.length_drop, List.length_take]; rfl)) ?_; (with_reducible refine (laws_eqInt64S.calls kj5 _ _ t292 _ _ t280 false _ ?side1 ?side2 ?side3 ?side4 A27.out).mono ?_); (case side1 => repeat (first | exact (Kd.R_reads' HO295.out).2.2 | (with_reducible refine Kd.C_alloc ?_ _) | (with_reducible refine Kd.C_drewN ?_ _) | (with_reducible refine Kd.C_drew ?_))); (case side2 => exact (Kd.R_reads' HO295.out).2.1); (case side3 => repeat (first | exact (Kd.R_reads' HO_5.out).2.2 | (with_reducible refine Kd.C_alloc ?_ _) | (with_reducible refine Kd.C_drewN ?_ _) | (with_reducible refine Kd.C_drew ?_))); (case side4 => exact (Kd.R_reads' HO_5.out).2.1); rintro e w' ⟨rfl, ⟨nd, rfl⟩⟩; refine ⟨_, rfl, ?_⟩))
                  go_meet
                  case rel => exact ⟨_, (true), (by first | rfl | (simp; done) | (simp [*]; done)), H', ⟨by have := HJ5.out; first | omega | exact Nat.le_refl _⟩, ⟨by (with_reducible repeat (first | apply Kd.R_alloc | apply Kd.R_drewN | apply Kd.R_drew)); exact Kd.R_mono HO_7.out (fun _ hk => trivial)⟩, ⟨by repeat (first | (with_reducible first | exact HB.out | apply below_alloc | apply pw_below_drewN | apply below_drew1) | exact HB.out)⟩⟩
              case rest =>
                clear HC23
                try clear c1
                try clear c2
                try clear p2
                try clear c3
                try clear c3b0
                try clear c3b1
                try clear c9
                try clear c10
                try clear c15
                try clear c18
                try clear c18b0
                try clear c21
                try clear c21b0
                try clear c21b1
                try clear c24
                try clear c25
                try clear c26
                try clear c28
                try clear c29
                try clear c30
                try clear p2
                obtain ⟨kq, x62_22, rfl, HA, HJ22, HO_7, HB⟩ := hcut
                have hl7_22 := (Kd.R_reads' HO_7.out).1
                rw [hl7_22] at HO_7
                (try simp only [hl7_22])
                cases kq with
                | zero => exact absurd HA.out (by simp [laws_FnExactShortPulses.j1])
                | succ kj22 =>
                  have H := HA.out
                  clear HA
                  simp only [laws_FnExactShortPulses.j1] at H
                  by_cases c33 : x62_22 = true
                  · subst c33
                    have H1 : (some false) = some r := by rw [if_pos rfl] at H; exact H
                    clear H
                    have H := H1
                    clear H1
                    obtain rfl := Option.some.inj H
                    go_wp2
                    go_ret
                    exact ⟨by first | rfl | (simp [errW_none, errW_some] <;> rfl) | (simp [*, errW_none, errW_some] <;> rfl), by repeat (first | (with_reducible first | exact HB.out | apply below_alloc | apply pw_below_drewN | apply below_drew1) | exact HB.out)⟩
                  · replace c33 := Bool.eq_false_iff.mpr c33
                    subst c33
                    have H1 : ((laws_heldInt64S.f kj22 t290 1).bind fun t297 => (if t297 < 0 then (some false) else (if t297 = t289 then (some true) else (some false)))) = some r := by rw [if_neg (show ¬ (false = true) by decide)] at H; exact H
                    clear H
                    have H := H1
                    clear H1
                    replace H := Option.bind_eq_some_iff.mp H
                    obtain ⟨t297, A340, H⟩ := H
                    replace H : (if t297 < 0 then (some false) else (if t297 = t289 then (some true) else (some false))) = some r := H
                    have A34 := Aside0.mk A340
                    clear A340
                    by_cases c35 : t297 < 0
                    · rw [if_pos c35] at H
                      have c35b0 : decide (t297 < 0) = true := decide_eq_true c35
                      clear c35
                      obtain rfl := Option.some.inj H
                      go_wp2_with (first | ((with_reducible refine gate_callee (f := 26) rfl ?_); refine goesL_ (some 65) rfl rfl Tryd.func26 (by kernel_rfl) rfl #[.slice Ao24 t290.length co24, .int .i64 1] rfl (by (try simp only [List.map_toArray, List.map_cons, List.map_nil]); first | done | rfl | (simp only [List.length_drop, List.length_take]; rfl)) ?_; (with_reducible refine (laws_heldInt64S.calls kj22 _ _ t290 1 t297 _ ?side1 ?side2 A34.out).mono ?_); (case side1 => repeat (first | exact (Kd.R_reads' HO_7.out).2.2 | (with_reducible refine Kd.C_alloc ?_ _) | (with_reducible refine Kd.C_drewN ?_ _) | (with_reducible refine Kd.C_drew ?_))); (case side2 => exact (Kd.R_reads' HO_7.out).2.1); rintro e w' ⟨rfl, ⟨nd, rfl⟩⟩; refine ⟨_, rfl, ?_⟩))
                      go_ret
                      exact ⟨by first | rfl | (simp [errW_none, errW_some] <;> rfl) | (simp [*, errW_none, errW_some] <;> rfl), by repeat (first | (with_reducible first | exact HB.out | apply below_alloc | apply pw_below_drewN | apply below_drew1) | exact HB.out)⟩
                    · rw [if_neg c35] at H
                      have c35b0 : decide (t297 < 0) = false := decide_eq_false c35
                      clear c35
                      by_cases c36 : t297 = t289
                      · rw [if_pos c36] at H
                        have c36b0 : (t297 == t289) = true := beq_iff_eq.mpr c36
                        have c36b1 : (t297 != t289) = false := bne_eq_false_iff_eq.mpr c36
                        clear c36
                        obtain rfl := Option.some.inj H
                        go_wp2_with (first | ((with_reducible refine gate_callee (f := 26) rfl ?_); refine goesL_ (some 65) rfl rfl Tryd.func26 (by kernel_rfl) rfl #[.slice Ao24 t290.length co24, .int .i64 1] rfl (by (try simp only [List.map_toArray, List.map_cons, List.map_nil]); first | done | rfl | (simp only [List.length_drop, List.length_take]; rfl)) ?_; (with_reducible refine (laws_heldInt64S.calls kj22 _ _ t290 1 t297 _ ?side1 ?side2 A34.out).mono ?_); (case side1 => repeat (first | exact (Kd.R_reads' HO_7.out).2.2 | (with_reducible refine Kd.C_alloc ?_ _) | (with_reducible refine Kd.C_drewN ?_ _) | (with_reducible refine Kd.C_drew ?_))); (case side2 => exact (Kd.R_reads' HO_7.out).2.1); rintro e w' ⟨rfl, ⟨nd, rfl⟩⟩; refine ⟨_, rfl, ?_⟩))
                        go_ret
                        exact ⟨by first | rfl | (simp [errW_none, errW_some] <;> rfl) | (simp [*, errW_none, errW_some] <;> rfl), by repeat (first | (with_reducible first | exact HB.out | apply below_alloc | apply pw_below_drewN | apply below_drew1) | exact HB.out)⟩
                      · rw [if_neg c36] at H
                        have c36b0 : (t297 == t289) = false := beq_eq_false_iff_ne.mpr c36
                        have c36b1 : (t297 != t289) = true := bne_iff_ne.mpr c36
                        obtain rfl := Option.some.inj H
                        go_wp2_with (first | ((with_reducible refine gate_callee (f := 26) rfl ?_); refine goesL_ (some 65) rfl rfl Tryd.func26 (by kernel_rfl) rfl #[.slice Ao24 t290.length co24, .int .i64 1] rfl (by (try simp only [List.map_toArray, List.map_cons, List.map_nil]); first | done | rfl | (simp only [List.length_drop, List.length_take]; rfl)) ?_; (with_reducible refine (laws_heldInt64S.calls kj22 _ _ t290 1 t297 _ ?side1 ?side2 A34.out).mono ?_); (case side1 => repeat (first | exact (Kd.R_reads' HO_7.out).2.2 | (with_reducible refine Kd.C_alloc ?_ _) | (with_reducible refine Kd.C_drewN ?_ _) | (with_reducible refine Kd.C_drew ?_))); (case side2 => exact (Kd.R_reads' HO_7.out).2.1); rintro e w' ⟨rfl, ⟨nd, rfl⟩⟩; refine ⟨_, rfl, ?_⟩))
                        go_ret
                        exact ⟨by first | rfl | (simp [errW_none, errW_some] <;> rfl) | (simp [*, errW_none, errW_some] <;> rfl), by repeat (first | (with_reducible first | exact HB.out | apply below_alloc | apply pw_below_drewN | apply below_drew1) | exact HB.out)⟩
            · rw [if_neg c21] at H
              have c21b0 : (t291 == t289) = false := beq_eq_false_iff_ne.mpr c21
              have c21b1 : (t291 != t289) = true := bne_iff_ne.mpr c21
              obtain rfl := Option.some.inj H
              obtain ⟨Ao37, co37, eo37⟩ := Kd.R_slice HO_7.out
              subst eo37
              go_wp2_with (first | ((with_reducible refine gate_callee (f := 25) rfl ?_); refine goesL_ (some 39) rfl rfl Tryd.func25 (by kernel_rfl) rfl #[.slice Ao37 t284.length co37, .int .i64 1] rfl (by (try simp only [List.map_toArray, List.map_cons, List.map_nil]); first | done | rfl | (simp only [List.length_drop, List.length_take]; rfl)) ?_; (with_reducible refine (laws_markInt64S.calls kj5 (fun k_ => some k_ = (.slice Ao37 t284.length co37 : Value).ownBlock) (.slice Ao37 t284.length co37) t284 1 t289 t290 w _ ?side1 ?side2 A16.out).mono ?_); (case side1 => repeat (first | (with_reducible first | exact HB.out | apply below_alloc | apply pw_below_drewN | apply below_drew1) | exact HB.out)); (case side2 => exact Kd.R_tight rfl HO_7.out); rintro e w38 ⟨rfl, hy0, hb, hkp⟩; refine ⟨_, rfl, ?_⟩; have n0_ := Aside0.mk (Kd.R_mono (ok' := fun k_ => some k_ ≠ (.slice Ao37 t284.length co37 : Value).ownBlock) (Kd.R_keptB (HO_5.out) hkp (fun k_ hk_ hs_ => (hk_) hs_)) (fun k_ hk_ => hk_.1)); have n1_ := Aside0.mk (Kd.R_reok rfl hy0 (fun k_ e_ => HO_7.out.1 k_ e_)); have n2_ := Aside0.mk (hb); clear HO_5; clear HO_7; clear HB; have HO_5 := n0_; have HO_7 := n1_; have HB := n2_; clear n0_ n1_ n2_; (try clear hb); (try clear hkp); (try clear hy0)) | ((with_reducible refine gate_callee (f := 26) rfl ?_); refine goesL_ (some 42) rfl rfl Tryd.func26 (by kernel_rfl) rfl #[.slice Ao37 t290.length co37, .int .i64 1] rfl (by (try simp only [List.map_toArray, List.map_cons, List.map_nil]); first | done | (rw [show t290.length = t284.length from (Kd.R_reads' HO_7.out).1.symm] <;> rfl) | rfl | (simp only [List.length_drop, List.length_take]; rfl)) ?_; (with_reducible refine (laws_heldInt64S.calls kj5 _ _ t290 1 t291 _ ?side1 ?side2 A17.out).mono ?_); (case side1 => repeat (first | exact (Kd.R_reads' HO_7.out).2.2 | (with_reducible refine Kd.C_alloc ?_ _) | (with_reducible refine Kd.C_drewN ?_ _) | (with_reducible refine Kd.C_drew ?_))); (case side2 => rw [show t290.length = t284.length from (Kd.R_reads' HO_7.out).1.symm]; exact (Kd.R_reads' HO_7.out).2.1); rintro e w' ⟨rfl, ⟨nd, rfl⟩⟩; refine ⟨_, rfl, ?_⟩))
              go_ret
              exact ⟨by first | rfl | (simp [errW_none, errW_some] <;> rfl) | (simp [*, errW_none, errW_some] <;> rfl), by repeat (first | (with_reducible first | exact HB.out | apply below_alloc | apply pw_below_drewN | apply below_drew1) | exact HB.out)⟩

/-- THE ONE PURE STATEMENT of laws_FnExactShortPulses: yours. -/
def laws_FnExactShortPulses.Pure : Prop := ∀ (a0 : ByteArray) (a1 : Int), a0.size ≤ 140737488351232 → (Lit.int .i64 a1).wf = true → ∃ k, laws_FnExactShortPulses.f k a0 a1 = some true
theorem laws_FnExactShortPulses.walk (P : laws_FnExactShortPulses.Pure) (a0 : ByteArray) (a1 : Int) (w : World) (w0 : a0.size ≤ 140737488351232) (w1 : (Lit.int .i64 a1).wf = true) :
    Calls Tryd.prog 9 #[.string a0, .int .i64 a1] w fun e w' => e = .returned (.bool true) ∧ Below w.heap.size w w' := by
  obtain ⟨k, h⟩ := P a0 a1 w0 w1
  refine (laws_FnExactShortPulses.calls k a0 a1 true w h).mono ?_
  rintro e w' ⟨rfl, hd⟩
  exact ⟨rfl, hd⟩

end Go.Proofs.YtcpfkfaiakpfjaaDoor.X

/- Pulses shorter than a number of ticks: the plain law of ShortPulses. Conditions: as each lemma says. -/
namespace Go.Proofs.YtcpfkfaiakpfjaaDoor.X
open Go.RowKit Go.Proofs.YtcpfkfaiakpfjaaDoorW.PrintWords Go.Proofs.YtcpfkfaiakpfjaaDoorW.PrintLast Go.Proofs.YtcpfkfaiakpfjaaDoorW.PrintMore
set_option linter.unusedVariables false
set_option linter.unusedSimpArgs false

theorem short_loops (s : ByteArray) (c : Int) (hs : s.size ≤ 400) : ∀ (us ds p1 p2 : List Int) (p3 : List S43) (o : List Int), Runs s us ds → p2.length = p1.length → p3.length = p1.length → p1.length + us.length ≤ 400 → o.length ≤ p1.length →
    ∃ l : List Int, l.length ≤ 400 ∧ ∀ k, us.length + 1 < k → impl_ShortPulses.l0 k s c o (p3 ++ pz us ds) ((p3 ++ pz us ds).length : Int) (p1.length : Int) = some (l, true) ∧ spec_ShortPulses.l0 k s c (p1 ++ us) (p2 ++ ds) o (p1.length : Int) = some (l, true)
  | [], [], p1, p2, p3, o, _, h2, h3, hl, ho => by
    refine ⟨o, by simp at hl; omega, fun k hk => ?_⟩
    cases k with
    | zero => omega
    | succ k => rw [impl_ShortPulses.l0, spec_ShortPulses.l0, if_neg (by simp [pz, h3]), if_neg (by simp)]; exact ⟨rfl, rfl⟩
  | u :: us, d :: ds, p1, p2, p3, o, hr, h2, h3, hl, ho => by
    obtain ⟨⟨a, b, rfl, rfl, hab, hbs, hall, hend⟩, hr2⟩ := hr
    simp only [List.length_cons] at hl
    have hz : pz ((a : Int) :: us) ((b : Int) :: ds) = ⟨(a : Int), (b : Int) - a⟩ :: pz us ds := rfl
    have step : ∀ o' : List Int, o'.length ≤ p1.length + 1 → ∃ l : List Int, l.length ≤ 400 ∧ ∀ k, us.length + 1 < k → impl_ShortPulses.l0 k s c o' (p3 ++ pz ((a : Int) :: us) ((b : Int) :: ds)) ((p3 ++ pz ((a : Int) :: us) ((b : Int) :: ds)).length : Int) ((p1.length : Int) + 1) = some (l, true) ∧ spec_ShortPulses.l0 k s c (p1 ++ (a : Int) :: us) (p2 ++ (b : Int) :: ds) o' ((p1.length : Int) + 1) = some (l, true) := by
      intro o' ho'
      obtain ⟨l, hl2, h⟩ := short_loops s c hs us ds (p1 ++ [(a : Int)]) (p2 ++ [(b : Int)]) (p3 ++ [⟨(a : Int), (b : Int) - a⟩]) o' hr2 (by simp [h2]) (by simp [h3]) (by simp; omega) (by simpa using ho')
      refine ⟨l, hl2, fun k hk => ?_⟩
      have := h k hk
      simp only [List.append_assoc, List.singleton_append, List.length_append, List.length_cons, List.length_nil, Nat.zero_add, Int.natCast_add, Int.natCast_one] at this
      rw [hz]
      simp only [List.length_append, List.length_cons, Int.natCast_add, Int.natCast_one]
      exact this
    have e3 : rd_T43 (p3 ++ pz ((a : Int) :: us) ((b : Int) :: ds)) (p1.length : Int) = ⟨(a : Int), (b : Int) - a⟩ := by rw [hz, ← h3, rdp_mid]
    have e1 : rd (p1 ++ (a : Int) :: us) (p1.length : Int) = a := rd_mid _ _ _
    have e2 : rd (p2 ++ (b : Int) :: ds) (p1.length : Int) = b := by rw [← h2, rd_mid]
    have hlen3 : ((p3 ++ pz ((a : Int) :: us) ((b : Int) :: ds)).length : Int) > p1.length := by rw [hz]; simp [h3]; omega
    have both : ∀ (o' : List Int), o'.length ≤ p1.length + 1 → (∀ k, impl_ShortPulses.l0 (k + 1) s c o (p3 ++ pz ((a : Int) :: us) ((b : Int) :: ds)) ((p3 ++ pz ((a : Int) :: us) ((b : Int) :: ds)).length : Int) (p1.length : Int) = impl_ShortPulses.l0 k s c o' (p3 ++ pz ((a : Int) :: us) ((b : Int) :: ds)) ((p3 ++ pz ((a : Int) :: us) ((b : Int) :: ds)).length : Int) ((p1.length : Int) + 1)) → (∀ k, spec_ShortPulses.l0 (k + 1) s c (p1 ++ (a : Int) :: us) (p2 ++ (b : Int) :: ds) o (p1.length : Int) = spec_ShortPulses.l0 k s c (p1 ++ (a : Int) :: us) (p2 ++ (b : Int) :: ds) o' ((p1.length : Int) + 1)) →
        ∃ l : List Int, l.length ≤ 400 ∧ ∀ k, ((a : Int) :: us).length + 1 < k → impl_ShortPulses.l0 k s c o (p3 ++ pz ((a : Int) :: us) ((b : Int) :: ds)) ((p3 ++ pz ((a : Int) :: us) ((b : Int) :: ds)).length : Int) (p1.length : Int) = some (l, true) ∧ spec_ShortPulses.l0 k s c (p1 ++ (a : Int) :: us) (p2 ++ (b : Int) :: ds) o (p1.length : Int) = some (l, true) := by
      intro o' ho' f1 f2
      obtain ⟨l, hl2, h⟩ := step o' ho'
      refine ⟨l, hl2, fun k hk => ?_⟩
      cases k with
      | zero => omega
      | succ k => rw [f1, f2]; exact h k (by simp at hk; omega)
    have i0 : ∀ k, impl_ShortPulses.l0 (k + 1) s c o (p3 ++ pz ((a : Int) :: us) ((b : Int) :: ds)) ((p3 ++ pz ((a : Int) :: us) ((b : Int) :: ds)).length : Int) (p1.length : Int) = if (b : Int) - a < c then (if (b : Int) < s.size then impl_ShortPulses.l0 k s c (o ++ [(a : Int)]) (p3 ++ pz ((a : Int) :: us) ((b : Int) :: ds)) ((p3 ++ pz ((a : Int) :: us) ((b : Int) :: ds)).length : Int) ((p1.length : Int) + 1) else impl_ShortPulses.l0 k s c o (p3 ++ pz ((a : Int) :: us) ((b : Int) :: ds)) ((p3 ++ pz ((a : Int) :: us) ((b : Int) :: ds)).length : Int) ((p1.length : Int) + 1)) else impl_ShortPulses.l0 k s c o (p3 ++ pz ((a : Int) :: us) ((b : Int) :: ds)) ((p3 ++ pz ((a : Int) :: us) ((b : Int) :: ds)).length : Int) ((p1.length : Int) + 1) := by
      intro k
      rw [impl_ShortPulses.l0, if_pos hlen3, if_pos (by omega), if_pos hlen3, e3]
      simp only
      rw [w64 (n := (a : Int) + ((b : Int) - a)) (by omega) (by omega), w64 (n := (p1.length : Int) + 1) (by omega) (by omega), show (a : Int) + ((b : Int) - a) = b by omega, if_pos (show o.length < 17592186044416 by omega)]
    have s0 : ∀ k, spec_ShortPulses.l0 (k + 1) s c (p1 ++ (a : Int) :: us) (p2 ++ (b : Int) :: ds) o (p1.length : Int) = if (b : Int) - a < c then (if (b : Int) < s.size then spec_ShortPulses.l0 k s c (p1 ++ (a : Int) :: us) (p2 ++ (b : Int) :: ds) (o ++ [(a : Int)]) ((p1.length : Int) + 1) else spec_ShortPulses.l0 k s c (p1 ++ (a : Int) :: us) (p2 ++ (b : Int) :: ds) o ((p1.length : Int) + 1)) else spec_ShortPulses.l0 k s c (p1 ++ (a : Int) :: us) (p2 ++ (b : Int) :: ds) o ((p1.length : Int) + 1) := by
      intro k
      rw [spec_ShortPulses.l0, if_pos (by simp; omega), if_pos (by omega), if_pos (by simp [h2]; omega), e1, e2, w64 (n := (b : Int) - a) (by omega) (by omega), w64 (n := (p1.length : Int) + 1) (by omega) (by omega), if_pos (show o.length < 17592186044416 by omega)]
    by_cases c1 : (b : Int) - a < c
    · by_cases c2 : (b : Int) < s.size
      · exact both (o ++ [(a : Int)]) (by simp; omega) (fun k => by rw [i0, if_pos c1, if_pos c2]) (fun k => by rw [s0, if_pos c1, if_pos c2])
      · exact both o (by omega) (fun k => by rw [i0, if_pos c1, if_neg c2]) (fun k => by rw [s0, if_pos c1, if_neg c2])
    · exact both o (by omega) (fun k => by rw [i0, if_neg c1]) (fun k => by rw [s0, if_neg c1])
  | [], _ :: _, _, _, _, _, hr, _, _, _, _ => hr.elim
  | _ :: _, [], _, _, _, _, hr, _, _, _, _ => hr.elim
theorem FnExactShortPulses_same (s : ByteArray) (a : Int) (hs : s.size ≤ 140737488351232) : ∃ (l : List Int) (t : Bool), l.length ≤ 1000 ∧ ∀ k, s.size + 300003 < k → impl_ShortPulses.f k s a = some (l, t) ∧ spec_ShortPulses.f k s a = some (l, t) := by
  have no : (isW s && decide (1 ≤ a ∧ a ≤ 400)) = false → ∀ k, s.size + 300003 < k → impl_ShortPulses.f k s a = some ([], false) ∧ spec_ShortPulses.f k s a = some ([], false) := by
    intro h k hk
    unfold impl_ShortPulses.f spec_ShortPulses.f
    rw [wave_eq s hs, swave_eq k s hs (by omega), Option.bind_some, Option.bind_some, within_eq, l00In_eq, Option.bind_some, Option.bind_some]
    cases k with
    | zero => omega
    | succ k =>
      rw [impl_ShortPulses.j0, impl_ShortPulses.j0, spec_ShortPulses.j0, spec_ShortPulses.j0, if_pos rfl, if_pos rfl]
      cases hw : isW s
      · exact ⟨rfl, rfl⟩
      · rw [hw, Bool.true_and] at h
        rw [h]; exact ⟨rfl, rfl⟩
  cases h : (isW s && decide (1 ≤ a ∧ a ≤ 400))
  · exact ⟨[], false, by simp, no h⟩
  · rw [Bool.and_eq_true] at h
    obtain ⟨hw, ha⟩ := h
    obtain ⟨hz, hL⟩ := (isW_iff s).1 hw
    have hl := edg_len s 49 s.size
    obtain ⟨l, hl2, hv⟩ := short_loops s a hz (edg s 49 s.size) (dns s) [] [] [] [] (runs_all s hL) rfl rfl (by simp; omega) (by simp)
    refine ⟨l, true, by omega, fun k hk => ?_⟩
    unfold impl_ShortPulses.f spec_ShortPulses.f
    rw [wave_eq s hs, swave_eq k s hs (by omega), Option.bind_some, Option.bind_some, within_eq, l00In_eq, Option.bind_some, Option.bind_some, hw, if_pos rfl, if_pos rfl, ha]
    cases k with
    | zero => omega
    | succ k =>
      rw [impl_ShortPulses.j0, spec_ShortPulses.j0, if_neg (by decide), if_neg (by decide), pulses_eq k s hz hL (by omega), l07_eq k s (by omega) (by omega), Option.bind_some, Option.bind_some]
      exact hv k (by omega)
theorem FnExactShortPulses_pure : laws_FnExactShortPulses.Pure := by
  intro s a hs _
  obtain ⟨l, t, hl, hv⟩ := FnExactShortPulses_same s a hs
  refine ⟨s.size + 400000 + 2, ?_⟩
  have h0 := hv (s.size + 400000 + 2) (by omega)
  have h1 := hv (s.size + 400000 + 1) (by omega)
  unfold laws_FnExactShortPulses.f
  split
  · rfl
  · rw [h0.1, h0.2, Option.bind_some, Option.bind_some]
    simp only
    rw [eqInt64S_refl _ l (by omega) (by omega), Option.bind_some, if_pos rfl]
    rw [laws_FnExactShortPulses.j0, if_neg (by cases t <;> decide), markInt64S_eq _ l 1 (by omega) (by omega) (by omega) (by omega), Option.bind_some]
    simp only
    rw [heldInt64S_eq _ 1 _ (by omega) (by omega) (by omega) (by omega), Option.bind_some, if_neg (by omega), if_pos rfl, h1.1, Option.bind_some]
    simp only
    rw [eqInt64S_refl _ l (by omega) (by omega), Option.bind_some, if_pos rfl]
    rw [laws_FnExactShortPulses.j1, if_neg (by cases t <;> decide), heldInt64S_eq _ 1 _ (by omega) (by omega) (by omega) (by omega), Option.bind_some, if_neg (by omega), if_pos rfl]
end Go.Proofs.YtcpfkfaiakpfjaaDoor.X

