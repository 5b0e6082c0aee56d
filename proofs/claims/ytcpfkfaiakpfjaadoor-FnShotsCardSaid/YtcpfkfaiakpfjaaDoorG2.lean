/- My own texts of this seat, merged: Xp7, Xp27, Xp28, Xp8, CWin. Conditions: as each lemma says. -/
import Derived.Test.YtcpfkfaiakpfjaaDoorG0
import Derived.Test.YtcpfkfaiakpfjaaDoorG1
-- Written by a program of this session out of the kit's print of the loaded functions: a plain function of a Go function, and its contract.
namespace Go.Proofs.YtcpfkfaiakpfjaaDoor.X
open Go.RowKit Go.Proofs.YtcpfkfaiakpfjaaDoorW.PrintWords Go.Proofs.YtcpfkfaiakpfjaaDoorW.PrintLast Go.Proofs.YtcpfkfaiakpfjaaDoorW.PrintMore
attribute [local go_sem] max2_int min2_int max_two min_two max_three min_three max_four min_four   -- for this text's walks alone
set_option linter.unusedVariables false
set_option linter.unusedSimpArgs false

/-! ### laws_FnExactTimeouts: function 7 -/
mutual
def laws_FnExactTimeouts.j0 : Nat → ByteArray → Int → List Int → Bool → List Int → Bool → Option (Bool)
  | 0, _, _, _, _, _, _ => none
  | k + 1, x0, x1, x5, x6, x7, x36 => if x36 = true then (some false) else ((laws_markInt64S.f k x7 1).bind fun bt181 => ((laws_heldInt64S.f k bt181.2 1).bind fun t183 => (if t183 < 0 then (some false) else (if t183 = bt181.1 then ((impl_Timeouts.f k x0 x1).bind fun bt184 => ((laws_eqInt64S.f k bt184.1 x5).bind fun t188 => (if t188 = true then (laws_FnExactTimeouts.j1 k bt181.2 bt181.1 (bt184.2 != x6)) else (laws_FnExactTimeouts.j1 k bt181.2 bt181.1 true)))) else (some false)))))
def laws_FnExactTimeouts.j1 : Nat → List Int → Int → Bool → Option (Bool)
  | 0, _, _, _ => none
  | k + 1, x7, x9, x62 => if x62 = true then (some false) else ((laws_heldInt64S.f k x7 1).bind fun t189 => (if t189 < 0 then (some false) else (if t189 = x9 then (some true) else (some false))))
end
def laws_FnExactTimeouts.f (k : Nat) (a0 : ByteArray) (a1 : Int) : Option (Bool) := if (a0.size : Int) > 1048576 then (some true) else ((spec_Timeouts.f k a0 a1).bind fun bt172 => ((impl_Timeouts.f k a0 a1).bind fun bt176 => ((laws_eqInt64S.f k bt176.1 bt172.1).bind fun t180 => (if t180 = true then (laws_FnExactTimeouts.j0 k a0 a1 bt172.1 bt172.2 bt176.1 (bt176.2 != bt172.2)) else (laws_FnExactTimeouts.j0 k a0 a1 bt172.1 bt172.2 bt176.1 true)))))
theorem laws_FnExactTimeouts.mono_l : ∀ k, (∀ y0 y1 y2 y3 y4 y5, LeO (laws_FnExactTimeouts.j0 k y0 y1 y2 y3 y4 y5) (laws_FnExactTimeouts.j0 (k + 1) y0 y1 y2 y3 y4 y5)) ∧ (∀ y0 y1 y2, LeO (laws_FnExactTimeouts.j1 k y0 y1 y2) (laws_FnExactTimeouts.j1 (k + 1) y0 y1 y2))
  | 0 => ⟨fun _ _ _ _ _ _ r h => by simp [laws_FnExactTimeouts.j0] at h, fun _ _ _ r h => by simp [laws_FnExactTimeouts.j1] at h⟩
  | k + 1 => by
    obtain ⟨ih0, ih1⟩ := laws_FnExactTimeouts.mono_l k
    refine ⟨?_, ?_⟩
    · intro y0 y1 y2 y3 y4 y5
      unfold laws_FnExactTimeouts.j0
      repeat' first
      | (with_reducible exact ih0 _ _ _ _ _ _)
      | (with_reducible exact ih1 _ _ _)
      | (with_reducible exact impl_Timeouts.mono _ _ _)
      | (with_reducible exact laws_eqInt64S.mono _ _ _)
      | (with_reducible exact laws_heldInt64S.mono _ _ _)
      | (with_reducible exact laws_markInt64S.mono _ _ _)
      | (with_reducible exact spec_Timeouts.mono _ _ _)
      | (with_reducible exact LeO.refl _)
      | (with_reducible exact LeO.none _)
      | (with_reducible refine LeO.ite ?_ ?_)
      | (with_reducible refine LeO.bind ?_ (fun _ => ?_))
      | exact ih0 _ _ _ _ _ _
      | exact ih1 _ _ _
      | exact impl_Timeouts.mono _ _ _
      | exact laws_eqInt64S.mono _ _ _
      | exact laws_heldInt64S.mono _ _ _
      | exact laws_markInt64S.mono _ _ _
      | exact spec_Timeouts.mono _ _ _
      | exact LeO.none _
      | refine LeO.ite ?_ ?_
      | refine LeO.bind ?_ (fun _ => ?_)
    · intro y0 y1 y2
      unfold laws_FnExactTimeouts.j1
      repeat' first
      | (with_reducible exact ih0 _ _ _ _ _ _)
      | (with_reducible exact ih1 _ _ _)
      | (with_reducible exact impl_Timeouts.mono _ _ _)
      | (with_reducible exact laws_eqInt64S.mono _ _ _)
      | (with_reducible exact laws_heldInt64S.mono _ _ _)
      | (with_reducible exact laws_markInt64S.mono _ _ _)
      | (with_reducible exact spec_Timeouts.mono _ _ _)
      | (with_reducible exact LeO.refl _)
      | (with_reducible exact LeO.none _)
      | (with_reducible refine LeO.ite ?_ ?_)
      | (with_reducible refine LeO.bind ?_ (fun _ => ?_))
      | exact ih0 _ _ _ _ _ _
      | exact ih1 _ _ _
      | exact impl_Timeouts.mono _ _ _
      | exact laws_eqInt64S.mono _ _ _
      | exact laws_heldInt64S.mono _ _ _
      | exact laws_markInt64S.mono _ _ _
      | exact spec_Timeouts.mono _ _ _
      | exact LeO.none _
      | refine LeO.ite ?_ ?_
      | refine LeO.bind ?_ (fun _ => ?_)
theorem laws_FnExactTimeouts.mono : ∀ a0 a1 k, LeO (laws_FnExactTimeouts.f k a0 a1) (laws_FnExactTimeouts.f (k + 1) a0 a1) := by
  intro a0 a1 k
  obtain ⟨ih0, ih1⟩ := laws_FnExactTimeouts.mono_l k
  unfold laws_FnExactTimeouts.f
  repeat' first
      | (with_reducible exact ih0 _ _ _ _ _ _)
      | (with_reducible exact ih1 _ _ _)
      | (with_reducible exact impl_Timeouts.mono _ _ _)
      | (with_reducible exact laws_eqInt64S.mono _ _ _)
      | (with_reducible exact laws_heldInt64S.mono _ _ _)
      | (with_reducible exact laws_markInt64S.mono _ _ _)
      | (with_reducible exact spec_Timeouts.mono _ _ _)
      | (with_reducible exact LeO.refl _)
      | (with_reducible exact LeO.none _)
      | (with_reducible refine LeO.ite ?_ ?_)
      | (with_reducible refine LeO.bind ?_ (fun _ => ?_))
      | exact ih0 _ _ _ _ _ _
      | exact ih1 _ _ _
      | exact impl_Timeouts.mono _ _ _
      | exact laws_eqInt64S.mono _ _ _
      | exact laws_heldInt64S.mono _ _ _
      | exact laws_markInt64S.mono _ _ _
      | exact spec_Timeouts.mono _ _ _
      | exact LeO.none _
      | refine LeO.ite ?_ ?_
      | refine LeO.bind ?_ (fun _ => ?_)
set_option maxHeartbeats 8000000 in
set_option maxRecDepth 100000 in
theorem laws_FnExactTimeouts.calls (k : Nat) (a0 : ByteArray) (a1 : Int) (r : Bool) (w : World) (h : laws_FnExactTimeouts.f k a0 a1 = some r) :
    Calls Tryd.prog 7 #[.string a0, .int .i64 a1] w fun e w' => e = .returned (.bool r) ∧ Below w.heap.size w w' := by
  have HB := Aside0.mk (Below.refl w.heap.size w)
  have H : (if (a0.size : Int) > 1048576 then (some true) else ((spec_Timeouts.f k a0 a1).bind fun bt172 => ((impl_Timeouts.f k a0 a1).bind fun bt176 => ((laws_eqInt64S.f k bt176.1 bt172.1).bind fun t180 => (if t180 = true then (laws_FnExactTimeouts.j0 k a0 a1 bt172.1 bt172.2 bt176.1 (bt176.2 != bt172.2)) else (laws_FnExactTimeouts.j0 k a0 a1 bt172.1 bt172.2 bt176.1 true)))))) = some r := h
  clear h
  by_cases c3 : (a0.size : Int) > 1048576
  · rw [if_pos c3] at H
    have c3b0 : decide (1048576 < (a0.size : Int)) = true := decide_eq_true c3
    have c3b1 : decide (1048576 < a0.size) = true := decide_eq_true (by omega)
    clear c3
    obtain rfl := Option.some.inj H
    go_enter Tryd.func7, Tryd.ntmps7
    go_wp2
    go_ret
    exact ⟨by first | rfl | (simp [errW_none, errW_some] <;> rfl) | (simp [*, errW_none, errW_some] <;> rfl), by repeat (first | (with_reducible first | exact HB.out | apply below_alloc | apply pw_below_drewN | apply below_drew1) | exact HB.out)⟩
  · rw [if_neg c3] at H
    have c3b0 : decide (1048576 < (a0.size : Int)) = false := decide_eq_false c3
    have c3b1 : decide (1048576 < a0.size) = false := decide_eq_false (by omega)
    clear c3
    replace H := Option.bind_eq_some_iff.mp H
    obtain ⟨⟨t172, t173⟩, A40, H⟩ := H
    replace H : ((impl_Timeouts.f k a0 a1).bind fun bt176 => ((laws_eqInt64S.f k bt176.1 t172).bind fun t180 => (if t180 = true then (laws_FnExactTimeouts.j0 k a0 a1 t172 t173 bt176.1 (bt176.2 != t173)) else (laws_FnExactTimeouts.j0 k a0 a1 t172 t173 bt176.1 true)))) = some r := H
    have A4 := Aside0.mk A40
    clear A40
    replace H := Option.bind_eq_some_iff.mp H
    obtain ⟨⟨t176, t177⟩, A50, H⟩ := H
    replace H : ((laws_eqInt64S.f k t176 t172).bind fun t180 => (if t180 = true then (laws_FnExactTimeouts.j0 k a0 a1 t172 t173 t176 (t177 != t173)) else (laws_FnExactTimeouts.j0 k a0 a1 t172 t173 t176 true))) = some r := H
    have A5 := Aside0.mk A50
    clear A50
    have HC6 := Aside0.mk H
    clear H
    go_enter Tryd.func7, Tryd.ntmps7
    go_upto_region 5 with (first | ((with_reducible refine gate_callee (f := 22) rfl ?_); refine goesL_ (some 19) rfl rfl Tryd.func22 (by kernel_rfl) rfl #[.string a0, .int .i64 a1] rfl (by (try simp only [List.map_toArray, List.map_cons, List.map_nil]); first | done | rfl | (simp only [List.length_drop, List.length_take]; rfl)) ?_; (with_reducible refine (spec_Timeouts.calls k a0 a1 t172 t173 _ A4.out).mono ?_); rintro e w7 ⟨v174, rfl, ho0, hb⟩; refine ⟨_, rfl, ?_⟩; have n0_ := Aside0.mk (Kd.R_lower ho0 (below_size (by repeat (first | (with_reducible first | exact HB.out | apply below_alloc | apply pw_below_drewN | apply below_drew1) | exact HB.out)))); have n1_ := Aside0.mk (below_step (by repeat (first | (with_reducible first | exact HB.out | apply below_alloc | apply pw_below_drewN | apply below_drew1) | exact HB.out)) hb); clear HB; have HO175 := n0_; have HB := n1_; clear n0_ n1_; (try clear hb); (try clear hb2); (try clear hk); (try clear hi); (try clear ho0)) | ((with_reducible refine gate_callee (f := 23) rfl ?_); refine goesL_ (some 25) rfl rfl Tryd.func23 (by kernel_rfl) rfl #[.string a0, .int .i64 a1] rfl (by (try simp only [List.map_toArray, List.map_cons, List.map_nil]); first | done | rfl | (simp only [List.length_drop, List.length_take]; rfl)) ?_; (with_reducible refine (impl_Timeouts.calls k a0 a1 t176 t177 _ A5.out).mono ?_); rintro e w8 ⟨v178, rfl, ho0, hb⟩; refine ⟨_, rfl, ?_⟩; have n0_ := Aside0.mk (Kd.R_elder' (by (with_reducible repeat (first | apply Kd.R_alloc | apply Kd.R_drewN | apply Kd.R_drew)); exact HO175.out) (Kd.R_base ho0) hb); have n1_ := Aside0.mk (Kd.R_lower (Kd.R_new' ho0 (Kd.R_lt (by (with_reducible repeat (first | apply Kd.R_alloc | apply Kd.R_drewN | apply Kd.R_drew)); exact HO175.out))) (below_size (by repeat (first | (with_reducible first | exact HB.out | apply below_alloc | apply pw_below_drewN | apply below_drew1) | exact HB.out)))); have n2_ := Aside0.mk (below_step (by repeat (first | (with_reducible first | exact HB.out | apply below_alloc | apply pw_below_drewN | apply below_drew1) | exact HB.out)) hb); clear HO175; clear HB; have HO175 := n0_; have HO179 := n1_; have HB := n2_; clear n0_ n1_ n2_; (try clear hb); (try clear hb2); (try clear hk); (try clear hi); (try clear ho0)))
    (try simp only [Act.put, List.setIfInBounds_toArray, List.set_cons_zero, List.set_cons_succ])
    go_cut [36] (fun v36 wc => ∃ (kq : Nat) (x36_5 : Bool), v36 = .bool x36_5 ∧ Aside0 (laws_FnExactTimeouts.j0 kq a0 a1 t172 t173 t176 x36_5 = some r) ∧ Aside0 (kq ≤ k) ∧ Aside0 (Kd.R (Kd.int .i64) 2 wc w.heap.size (fun k_ => some k_ ≠ (v178 : Value).ownBlock) v174 t172) ∧ Aside0 (Kd.R (Kd.int .i64) 2 wc w.heap.size (fun k_ => some k_ ≠ (v174 : Value).ownBlock) v178 t176) ∧ Aside0 (Below w.heap.size w wc))
    case first =>
      have H := HC6.out
      clear HC6
      replace H := Option.bind_eq_some_iff.mp H
      obtain ⟨t180, A90, H⟩ := H
      replace H : (if t180 = true then (laws_FnExactTimeouts.j0 k a0 a1 t172 t173 t176 (t177 != t173)) else (laws_FnExactTimeouts.j0 k a0 a1 t172 t173 t176 true)) = some r := H
      have A9 := Aside0.mk A90
      clear A90
      by_cases c10 : t180 = true
      · subst c10
        have H1 : (laws_FnExactTimeouts.j0 k a0 a1 t172 t173 t176 (t177 != t173)) = some r := by rw [if_pos rfl] at H; exact H
        clear H
        have H := H1
        clear H1
        have H' := Aside0.mk H
        clear H
        obtain ⟨Ao11, co11, eo11⟩ := Kd.R_slice HO179.out
        subst eo11
        obtain ⟨Ao12, co12, eo12⟩ := Kd.R_slice HO175.out
        subst eo12
        go_wp2_with (first | ((with_reducible refine gate_callee (f := 24) rfl ?_); refine goesL_ (some 30) rfl rfl Tryd.func24 (by kernel_rfl) rfl #[.slice Ao11 t176.length co11, .slice Ao12 t172.length co12] rfl (by (try simp only [List.map_toArray, List.map_cons, List.map_nil]); first | done | rfl | (simp only [List.length_drop, List.length_take]; rfl)) ?_; (with_reducible refine (laws_eqInt64S.calls k _ _ t176 _ _ t172 true _ ?side1 ?side2 ?side3 ?side4 A9.out).mono ?_); (case side1 => repeat (first | exact (Kd.R_reads' HO179.out).2.2 | (with_reducible refine Kd.C_alloc ?_ _) | (with_reducible refine Kd.C_drewN ?_ _) | (with_reducible refine Kd.C_drew ?_))); (case side2 => exact (Kd.R_reads' HO179.out).2.1); (case side3 => repeat (first | exact (Kd.R_reads' HO175.out).2.2 | (with_reducible refine Kd.C_alloc ?_ _) | (with_reducible refine Kd.C_drewN ?_ _) | (with_reducible refine Kd.C_drew ?_))); (case side4 => exact (Kd.R_reads' HO175.out).2.1); rintro e w' ⟨rfl, ⟨nd, rfl⟩⟩; refine ⟨_, rfl, ?_⟩))
        go_meet
        case rel => exact ⟨_, ((t177 != t173)), (by first | rfl | (simp; done) | (simp [*]; done)), H', ⟨by first | omega | exact Nat.le_refl _⟩, ⟨by (with_reducible repeat (first | apply Kd.R_alloc | apply Kd.R_drewN | apply Kd.R_drew)); exact Kd.R_mono HO175.out (fun _ hk => hk.2)⟩, ⟨by (with_reducible repeat (first | apply Kd.R_alloc | apply Kd.R_drewN | apply Kd.R_drew)); exact Kd.R_mono HO179.out (fun _ hk => hk.2)⟩, ⟨by repeat (first | (with_reducible first | exact HB.out | apply below_alloc | apply pw_below_drewN | apply below_drew1) | exact HB.out)⟩⟩
      · replace c10 := Bool.eq_false_iff.mpr c10
        subst c10
        have H1 : (laws_FnExactTimeouts.j0 k a0 a1 t172 t173 t176 true) = some r := by rw [if_neg (show ¬ (false = true) by decide)] at H; exact H
        clear H
        have H := H1
        clear H1
        have H' := Aside0.mk H
        clear H
        obtain ⟨Ao13, co13, eo13⟩ := Kd.R_slice HO179.out
        subst eo13
        obtain ⟨Ao14, co14, eo14⟩ := Kd.R_slice HO175.out
        subst eo14
        go_wp2_with (first | ((with_reducible refine gate_callee (f := 24) rfl ?_); refine goesL_ (some 30) rfl rfl Tryd.func24 (by kernel_rfl) rfl #[.slice Ao13 t176.length co13, .slice Ao14 t172.length co14] rfl (by (try simp only [List.map_toArray, List.map_cons, List.map_nil]); first | done | rfl | (simp only [List.length_drop, List.length_take]; rfl)) ?_; (with_reducible refine (laws_eqInt64S.calls k _ _ t176 _ _ t172 false _ ?side1 ?side2 ?side3 ?side4 A9.out).mono ?_); (case side1 => repeat (first | exact (Kd.R_reads' HO179.out).2.2 | (with_reducible refine Kd.C_alloc ?_ _) | (with_reducible refine Kd.C_drewN ?_ _) | (with_reducible refine Kd.C_drew ?_))); (case side2 => exact (Kd.R_reads' HO179.out).2.1); (case side3 => repeat (first | exact (Kd.R_reads' HO175.out).2.2 | (with_reducible refine Kd.C_alloc ?_ _) | (with_reducible refine Kd.C_drewN ?_ _) | (with_reducible refine Kd.C_drew ?_))); (case side4 => exact (Kd.R_reads' HO175.out).2.1); rintro e w' ⟨rfl, ⟨nd, rfl⟩⟩; refine ⟨_, rfl, ?_⟩))
        go_meet
        case rel => exact ⟨_, (true), (by first | rfl | (simp; done) | (simp [*]; done)), H', ⟨by first | omega | exact Nat.le_refl _⟩, ⟨by (with_reducible repeat (first | apply Kd.R_alloc | apply Kd.R_drewN | apply Kd.R_drew)); exact Kd.R_mono HO175.out (fun _ hk => hk.2)⟩, ⟨by (with_reducible repeat (first | apply Kd.R_alloc | apply Kd.R_drewN | apply Kd.R_drew)); exact Kd.R_mono HO179.out (fun _ hk => hk.2)⟩, ⟨by repeat (first | (with_reducible first | exact HB.out | apply below_alloc | apply pw_below_drewN | apply below_drew1) | exact HB.out)⟩⟩
    case rest =>
      clear HC6
      try clear c1
      try clear c2
      try clear p2
      try clear c3
      try clear c3b0
      try clear c3b1
      try clear c7
      try clear c10
      obtain ⟨kq, x36_5, rfl, HA, HJ5, HO_5, HO_7, HB⟩ := hcut
      cases kq with
      | zero => exact absurd HA.out (by simp [laws_FnExactTimeouts.j0])
      | succ kj5 =>
        have H := HA.out
        clear HA
        simp only [laws_FnExactTimeouts.j0] at H
        by_cases c15 : x36_5 = true
        · subst c15
          have H1 : (some false) = some r := by rw [if_pos rfl] at H; exact H
          clear H
          have H := H1
          clear H1
          obtain rfl := Option.some.inj H
          go_wp2
          go_ret
          exact ⟨by first | rfl | (simp [errW_none, errW_some] <;> rfl) | (simp [*, errW_none, errW_some] <;> rfl), by repeat (first | (with_reducible first | exact HB.out | apply below_alloc | apply pw_below_drewN | apply below_drew1) | exact HB.out)⟩
        · replace c15 := Bool.eq_false_iff.mpr c15
          subst c15
          have H1 : ((laws_markInt64S.f kj5 t176 1).bind fun bt181 => ((laws_heldInt64S.f kj5 bt181.2 1).bind fun t183 => (if t183 < 0 then (some false) else (if t183 = bt181.1 then ((impl_Timeouts.f kj5 a0 a1).bind fun bt184 => ((laws_eqInt64S.f kj5 bt184.1 t172).bind fun t188 => (if t188 = true then (laws_FnExactTimeouts.j1 kj5 bt181.2 bt181.1 (bt184.2 != t173)) else (laws_FnExactTimeouts.j1 kj5 bt181.2 bt181.1 true)))) else (some false))))) = some r := by rw [if_neg (show ¬ (false = true) by decide)] at H; exact H
          clear H
          have H := H1
          clear H1
          replace H := Option.bind_eq_some_iff.mp H
          obtain ⟨⟨t181, t182⟩, A160, H⟩ := H
          replace H : ((laws_heldInt64S.f kj5 t182 1).bind fun t183 => (if t183 < 0 then (some false) else (if t183 = t181 then ((impl_Timeouts.f kj5 a0 a1).bind fun bt184 => ((laws_eqInt64S.f kj5 bt184.1 t172).bind fun t188 => (if t188 = true then (laws_FnExactTimeouts.j1 kj5 t182 t181 (bt184.2 != t173)) else (laws_FnExactTimeouts.j1 kj5 t182 t181 true)))) else (some false)))) = some r := H
          have A16 := Aside0.mk A160
          clear A160
          replace H := Option.bind_eq_some_iff.mp H
          obtain ⟨t183, A170, H⟩ := H
          replace H : (if t183 < 0 then (some false) else (if t183 = t181 then ((impl_Timeouts.f kj5 a0 a1).bind fun bt184 => ((laws_eqInt64S.f kj5 bt184.1 t172).bind fun t188 => (if t188 = true then (laws_FnExactTimeouts.j1 kj5 t182 t181 (bt184.2 != t173)) else (laws_FnExactTimeouts.j1 kj5 t182 t181 true)))) else (some false))) = some r := H
          have A17 := Aside0.mk A170
          clear A170
          by_cases c18 : t183 < 0
          · rw [if_pos c18] at H
            have c18b0 : decide (t183 < 0) = true := decide_eq_true c18
            clear c18
            obtain rfl := Option.some.inj H
            obtain ⟨Ao19, co19, eo19⟩ := Kd.R_slice HO_7.out
            subst eo19
            go_wp2_with (first | ((with_reducible refine gate_callee (f := 25) rfl ?_); refine goesL_ (some 39) rfl rfl Tryd.func25 (by kernel_rfl) rfl #[.slice Ao19 t176.length co19, .int .i64 1] rfl (by (try simp only [List.map_toArray, List.map_cons, List.map_nil]); first | done | rfl | (simp only [List.length_drop, List.length_take]; rfl)) ?_; (with_reducible refine (laws_markInt64S.calls kj5 (fun k_ => some k_ = (.slice Ao19 t176.length co19 : Value).ownBlock) (.slice Ao19 t176.length co19) t176 1 t181 t182 w _ ?side1 ?side2 A16.out).mono ?_); (case side1 => repeat (first | (with_reducible first | exact HB.out | apply below_alloc | apply pw_below_drewN | apply below_drew1) | exact HB.out)); (case side2 => exact Kd.R_tight rfl HO_7.out); rintro e w20 ⟨rfl, hy0, hb, hkp⟩; refine ⟨_, rfl, ?_⟩; have n0_ := Aside0.mk (Kd.R_mono (ok' := fun k_ => some k_ ≠ (.slice Ao19 t176.length co19 : Value).ownBlock) (Kd.R_keptB (HO_5.out) hkp (fun k_ hk_ hs_ => (hk_) hs_)) (fun k_ hk_ => hk_.1)); have n1_ := Aside0.mk (Kd.R_reok rfl hy0 (fun k_ e_ => HO_7.out.1 k_ e_)); have n2_ := Aside0.mk (hb); clear HO_5; clear HO_7; clear HB; have HO_5 := n0_; have HO_7 := n1_; have HB := n2_; clear n0_ n1_ n2_; (try clear hb); (try clear hkp); (try clear hy0)) | ((with_reducible refine gate_callee (f := 26) rfl ?_); refine goesL_ (some 42) rfl rfl Tryd.func26 (by kernel_rfl) rfl #[.slice Ao19 t182.length co19, .int .i64 1] rfl (by (try simp only [List.map_toArray, List.map_cons, List.map_nil]); first | done | (rw [show t182.length = t176.length from (Kd.R_reads' HO_7.out).1.symm] <;> rfl) | rfl | (simp only [List.length_drop, List.length_take]; rfl)) ?_; (with_reducible refine (laws_heldInt64S.calls kj5 _ _ t182 1 t183 _ ?side1 ?side2 A17.out).mono ?_); (case side1 => repeat (first | exact (Kd.R_reads' HO_7.out).2.2 | (with_reducible refine Kd.C_alloc ?_ _) | (with_reducible refine Kd.C_drewN ?_ _) | (with_reducible refine Kd.C_drew ?_))); (case side2 => rw [show t182.length = t176.length from (Kd.R_reads' HO_7.out).1.symm]; exact (Kd.R_reads' HO_7.out).2.1); rintro e w' ⟨rfl, ⟨nd, rfl⟩⟩; refine ⟨_, rfl, ?_⟩))
            go_ret
            exact ⟨by first | rfl | (simp [errW_none, errW_some] <;> rfl) | (simp [*, errW_none, errW_some] <;> rfl), by repeat (first | (with_reducible first | exact HB.out | apply below_alloc | apply pw_below_drewN | apply below_drew1) | exact HB.out)⟩
          · rw [if_neg c18] at H
            have c18b0 : decide (t183 < 0) = false := decide_eq_false c18
            clear c18
            by_cases c21 : t183 = t181
            · rw [if_pos c21] at H
              have c21b0 : (t183 == t181) = true := beq_iff_eq.mpr c21
              have c21b1 : (t183 != t181) = false := bne_eq_false_iff_eq.mpr c21
              clear c21
              replace H := Option.bind_eq_some_iff.mp H
              obtain ⟨⟨t184, t185⟩, A220, H⟩ := H
              replace H : ((laws_eqInt64S.f kj5 t184 t172).bind fun t188 => (if t188 = true then (laws_FnExactTimeouts.j1 kj5 t182 t181 (t185 != t173)) else (laws_FnExactTimeouts.j1 kj5 t182 t181 true))) = some r := H
              have A22 := Aside0.mk A220
              clear A220
              have HC23 := Aside0.mk H
              clear H
              obtain ⟨Ao24, co24, eo24⟩ := Kd.R_slice HO_7.out
              subst eo24
              go_upto_region 16 with (first | ((with_reducible refine gate_callee (f := 25) rfl ?_); refine goesL_ (some 39) rfl rfl Tryd.func25 (by kernel_rfl) rfl #[.slice Ao24 t176.length co24, .int .i64 1] rfl (by (try simp only [List.map_toArray, List.map_cons, List.map_nil]); first | done | rfl | (simp only [List.length_drop, List.length_take]; rfl)) ?_; (with_reducible refine (laws_markInt64S.calls kj5 (fun k_ => some k_ = (.slice Ao24 t176.length co24 : Value).ownBlock) (.slice Ao24 t176.length co24) t176 1 t181 t182 w _ ?side1 ?side2 A16.out).mono ?_); (case side1 => repeat (first | (with_reducible first | exact HB.out | apply below_alloc | apply pw_below_drewN | apply below_drew1) | exact HB.out)); (case side2 => exact Kd.R_tight rfl HO_7.out); rintro e w25 ⟨rfl, hy0, hb, hkp⟩; refine ⟨_, rfl, ?_⟩; have n0_ := Aside0.mk (Kd.R_mono (ok' := fun k_ => some k_ ≠ (.slice Ao24 t176.length co24 : Value).ownBlock) (Kd.R_keptB (HO_5.out) hkp (fun k_ hk_ hs_ => (hk_) hs_)) (fun k_ hk_ => hk_.1)); have n1_ := Aside0.mk (Kd.R_reok rfl hy0 (fun k_ e_ => HO_7.out.1 k_ e_)); have n2_ := Aside0.mk (hb); clear HO_5; clear HO_7; clear HB; have HO_5 := n0_; have HO_7 := n1_; have HB := n2_; clear n0_ n1_ n2_; (try clear hb); (try clear hkp); (try clear hy0)) | ((with_reducible refine gate_callee (f := 26) rfl ?_); refine goesL_ (some 42) rfl rfl Tryd.func26 (by kernel_rfl) rfl #[.slice Ao24 t182.length co24, .int .i64 1] rfl (by (try simp only [List.map_toArray, List.map_cons, List.map_nil]); first | done | (rw [show t182.length = t176.length from (Kd.R_reads' HO_7.out).1.symm] <;> rfl) | rfl | (simp only [List.length_drop, List.length_take]; rfl)) ?_; (with_reducible refine (laws_heldInt64S.calls kj5 _ _ t182 1 t183 _ ?side1 ?side2 A17.out).mono ?_); (case side1 => repeat (first | exact (Kd.R_reads' HO_7.out).2.2 | (with_reducible refine Kd.C_alloc ?_ _) | (with_reducible refine Kd.C_drewN ?_ _) | (with_reducible refine Kd.C_drew ?_))); (case side2 => rw [show t182.length = t176.length from (Kd.R_reads' HO_7.out).1.symm]; exact (Kd.R_reads' HO_7.out).2.1); rintro e w' ⟨rfl, ⟨nd, rfl⟩⟩; refine ⟨_, rfl, ?_⟩) | ((with_reducible refine gate_callee (f := 23) rfl ?_); refine goesL_ (some 51) rfl rfl Tryd.func23 (by kernel_rfl) rfl #[.string a0, .int .i64 a1] rfl (by (try simp only [List.map_toArray, List.map_cons, List.map_nil]); first | done | rfl | (simp only [List.length_drop, List.length_take]; rfl)) ?_; (with_reducible refine (impl_Timeouts.calls kj5 a0 a1 t184 t185 _ A22.out).mono ?_); rintro e w26 ⟨v186, rfl, ho0, hb⟩; refine ⟨_, rfl, ?_⟩; have n0_ := Aside0.mk (Kd.R_elder' (by (with_reducible repeat (first | apply Kd.R_alloc | apply Kd.R_drewN | apply Kd.R_drew)); exact HO_5.out) (Kd.R_base ho0) hb); have n1_ := Aside0.mk (Kd.R_elder' (by (with_reducible repeat (first | apply Kd.R_alloc | apply Kd.R_drewN | apply Kd.R_drew)); exact HO_7.out) (Kd.R_base ho0) hb); have n2_ := Aside0.mk (Kd.R_lower (Kd.R_new' (Kd.R_new' ho0 (Kd.R_lt (by (with_reducible repeat (first | apply Kd.R_alloc | apply Kd.R_drewN | apply Kd.R_drew)); exact HO_5.out))) (Kd.R_lt (by (with_reducible repeat (first | apply Kd.R_alloc | apply Kd.R_drewN | apply Kd.R_drew)); exact HO_7.out))) (below_size (by repeat (first | (with_reducible first | exact HB.out | apply below_alloc | apply pw_below_drewN | apply below_drew1) | exact HB.out)))); have n3_ := Aside0.mk (below_step (by repeat (first | (with_reducible first | exact HB.out | apply below_alloc | apply pw_below_drewN | apply below_drew1) | exact HB.out)) hb); clear HO_5; clear HO_7; clear HB; have HO_5 := n0_; have HO_7 := n1_; have HO187 := n2_; have HB := n3_; clear n0_ n1_ n2_ n3_; (try clear hb); (try clear hb2); (try clear hk); (try clear hi); (try clear ho0)))
              (try simp only [Act.put, List.setIfInBounds_toArray, List.set_cons_zero, List.set_cons_succ])
              go_cut [62] (fun v62 wc => ∃ (kq : Nat) (x62_22 : Bool), v62 = .bool x62_22 ∧ Aside0 (laws_FnExactTimeouts.j1 kq t182 t181 x62_22 = some r) ∧ Aside0 (kq ≤ kj5) ∧ Aside0 (Kd.R (Kd.int .i64) 2 wc w.heap.size (fun _ => True) (.slice Ao24 t176.length co24) t182) ∧ Aside0 (Below w.heap.size w wc))
              case first =>
                have H := HC23.out
                clear HC23
                replace H := Option.bind_eq_some_iff.mp H
                obtain ⟨t188, A270, H⟩ := H
                replace H : (if t188 = true then (laws_FnExactTimeouts.j1 kj5 t182 t181 (t185 != t173)) else (laws_FnExactTimeouts.j1 kj5 t182 t181 true)) = some r := H
                have A27 := Aside0.mk A270
                clear A270
                by_cases c28 : t188 = true
                · subst c28
                  have H1 : (laws_FnExactTimeouts.j1 kj5 t182 t181 (t185 != t173)) = some r := by rw [if_pos rfl] at H; exact H
                  clear H
                  have H := H1
                  clear H1
                  have H' := Aside0.mk H
                  clear H
                  obtain ⟨Ao29, co29, eo29⟩ := Kd.R_slice HO187.out
                  subst eo29
                  obtain ⟨Ao30, co30, eo30⟩ := Kd.R_slice HO_5.out
                  subst eo30
                  go_wp2_with (first | ((with_reducible refine gate_callee (f := 24) rfl ?_); refine goesL_ (some 56) rfl rfl Tryd.func24 (by kernel_rfl) rfl #[.slice Ao29 t184.length co29, .slice Ao30 t172.length co30] rfl (by (try simp only [List.map_toArray, List.map_cons, List.map_nil]); first | done | rfl | (simp only [List.length_drop, List.length_take]; rfl)) ?_; (with_reducible refine (laws_eqInt64S.calls kj5 _ _ t184 _ _ t172 true _ ?side1 ?side2 ?side3 ?side4 A27.out).mono ?_); (case side1 => repeat (first | exact (Kd.R_reads' HO187.out).2.2 | (with_reducible refine Kd.C_alloc ?_ _) | (with_reducible refine Kd.C_drewN ?_ _) | (with_reducible refine Kd.C_drew ?_))); (case side2 => exact (Kd.R_reads' HO187.out).2.1); (case side3 => repeat (first | exact (Kd.R_reads' HO_5.out).2.2 | (with_reducible refine Kd.C_alloc ?_ _) | (with_reducible refine Kd.C_drewN ?_ _) | (with_reducible refine Kd.C_drew ?_))); (case side4 => exact (Kd.R_reads' HO_5.out).2.1); rintro e w' ⟨rfl, ⟨nd, rfl⟩⟩; refine ⟨_, rfl, ?_⟩))
                  go_meet
                  case rel => exact ⟨_, ((t185 != t173)), (by first | rfl | (simp; done) | (simp [*]; done)), H', ⟨by have := HJ5.out; first | omega | exact Nat.le_refl _⟩, ⟨by (with_reducible repeat (first | apply Kd.R_alloc | apply Kd.R_drewN | apply Kd.R_drew)); exact Kd.R_mono HO_7.out (fun _ hk => trivial)⟩, ⟨by repeat (first | (with_reducible first | exact HB.out | apply below_alloc | apply pw_below_drewN | apply below_drew1) | exact HB.out)⟩⟩
                · replace c28 := Bool.eq_false_iff.mpr c28
                  subst c28
                  have H1 : (laws_FnExactTimeouts.j1 kj5 t182 t181 true) = some r := by rw [if_neg (show ¬ (false = true) by decide)] at H; exact H
                  clear H
                  have H := H1
                  clear H1
                  have H' := Aside0.mk H
                  clear H
                  obtain ⟨Ao31, co31, eo31⟩ := Kd.R_slice HO187.out
                  subst eo31
                  obtain ⟨Ao32, co32, eo32⟩ := Kd.R_slice HO_5.out
                  subst eo32
                  go_wp2_with (first | ((with_reducible refine gate_callee (f := 24) rfl ?_); refine goesL_ (some 56) rfl rfl Tryd.func24 (by kernel_rfl) rfl #[.slice Ao31 t184.length co31, .slice Ao32 t172.length co32] rfl (by (try simp only [List.map_toArray, List.map_cons, List.map_nil]); first | done | rfl | (simp only [List.length_drop, List.length_take]; rfl)) ?_; (with_reducible refine (laws_eqInt64S.calls kj5 _ _ t184 _ _ t172 false _ ?side1 ?side2 ?side3 ?side4 A27.out).mono ?_); (case side1 => repeat (first | exact (Kd.R_reads' HO187.out).2.2 | (with_reducible refine Kd.C_alloc ?_ _) | (with_reducible refine Kd.C_drewN ?_ _) | (with_reducible refine Kd.C_drew ?_))); (case side2 => exact (Kd.R_reads' HO187.out).2.1); (case side3 => repeat (first | exact (Kd.R_reads' HO_5.out).2.2 | (with_reducible refine Kd.C_alloc ?_ _) | (with_reducible refine Kd.C_drewN ?_ _) | (with_reducible refine Kd.C_drew ?_))); (case side4 => exact (Kd.R_reads' HO_5.out).2.1); rintro e w' ⟨rfl, ⟨nd, rfl⟩⟩; refine ⟨_, rfl, ?_⟩))
                  go_meet
                  case rel => exact ⟨_, (true), (by first | rfl | (simp; done) | (simp [*]; done)), H', ⟨by have := HJ5.out; first | omega | exact Nat.le_refl _⟩, ⟨by (with_reducible repeat (first | apply Kd.R_alloc | apply Kd.R_drewN | apply Kd.R_drew)); exact Kd.R_mono HO_7.out (fun _ hk => trivial)⟩, ⟨by repeat (first | (with_reducible first | exact HB.out | apply below_alloc | apply pw_below_drewN | apply below_drew1) | exact HB.out)⟩⟩
              case rest =>
                clear HC23
                try clear c1
                try clear c2
                try clear p2
                try clear c3
                try clear c3b0
                try clear c3b1
                try clear c7
                try clear c10
                try clear c15
                try clear c18
                try clear c18b0
                try clear c21
                try clear c21b0
                try clear c21b1
                try clear c22
                try clear c23
                try clear c24
                try clear c25
                try clear c26
                try clear c28
                try clear p2
                obtain ⟨kq, x62_22, rfl, HA, HJ22, HO_7, HB⟩ := hcut
                have hl7_22 := (Kd.R_reads' HO_7.out).1
                rw [hl7_22] at HO_7
                (try simp only [hl7_22])
                cases kq with
                | zero => exact absurd HA.out (by simp [laws_FnExactTimeouts.j1])
                | succ kj22 =>
                  have H := HA.out
                  clear HA
                  simp only [laws_FnExactTimeouts.j1] at H
                  by_cases c33 : x62_22 = true
                  · subst c33
                    have H1 : (some false) = some r := by rw [if_pos rfl] at H; exact H
                    clear H
                    have H := H1
                    clear H1
                    obtain rfl := Option.some.inj H
                    go_wp2
                    go_ret
                    exact ⟨by first | rfl | (simp [errW_none, errW_some] <;> rfl) | (simp [*, errW_none, errW_some] <;> rfl), by repeat (first | (with_reducible first | exact HB.out | apply below_alloc | apply pw_below_drewN | apply below_drew1) | exact HB.out)⟩
                  · replace c33 := Bool.eq_false_iff.mpr c33
                    subst c33
                    have H1 : ((laws_heldInt64S.f kj22 t182 1).bind fun t189 => (if t189 < 0 then (some false) else (if t189 = t181 then (some true) else (some false)))) = some r := by rw [if_neg (show ¬ (false = true) by decide)] at H; exact H
                    clear H
                    have H := H1
                    clear H1
                    replace H := Option.bind_eq_some_iff.mp H
                    obtain ⟨t189, A340, H⟩ := H
                    replace H : (if t189 < 0 then (some false) else (if t189 = t181 then (some true) else (some false))) = some r := H
                    have A34 := Aside0.mk A340
                    clear A340
                    by_cases c35 : t189 < 0
                    · rw [if_pos c35] at H
                      have c35b0 : decide (t189 < 0) = true := decide_eq_true c35
                      clear c35
                      obtain rfl := Option.some.inj H
                      go_wp2_with (first | ((with_reducible refine gate_callee (f := 26) rfl ?_); refine goesL_ (some 65) rfl rfl Tryd.func26 (by kernel_rfl) rfl #[.slice Ao24 t182.length co24, .int .i64 1] rfl (by (try simp only [List.map_toArray, List.map_cons, List.map_nil]); first | done | rfl | (simp only [List.length_drop, List.length_take]; rfl)) ?_; (with_reducible refine (laws_heldInt64S.calls kj22 _ _ t182 1 t189 _ ?side1 ?side2 A34.out).mono ?_); (case side1 => repeat (first | exact (Kd.R_reads' HO_7.out).2.2 | (with_reducible refine Kd.C_alloc ?_ _) | (with_reducible refine Kd.C_drewN ?_ _) | (with_reducible refine Kd.C_drew ?_))); (case side2 => exact (Kd.R_reads' HO_7.out).2.1); rintro e w' ⟨rfl, ⟨nd, rfl⟩⟩; refine ⟨_, rfl, ?_⟩))
                      go_ret
                      exact ⟨by first | rfl | (simp [errW_none, errW_some] <;> rfl) | (simp [*, errW_none, errW_some] <;> rfl), by repeat (first | (with_reducible first | exact HB.out | apply below_alloc | apply pw_below_drewN | apply below_drew1) | exact HB.out)⟩
                    · rw [if_neg c35] at H
                      have c35b0 : decide (t189 < 0) = false := decide_eq_false c35
                      clear c35
                      by_cases c36 : t189 = t181
                      · rw [if_pos c36] at H
                        have c36b0 : (t189 == t181) = true := beq_iff_eq.mpr c36
                        have c36b1 : (t189 != t181) = false := bne_eq_false_iff_eq.mpr c36
                        clear c36
                        obtain rfl := Option.some.inj H
                        go_wp2_with (first | ((with_reducible refine gate_callee (f := 26) rfl ?_); refine goesL_ (some 65) rfl rfl Tryd.func26 (by kernel_rfl) rfl #[.slice Ao24 t182.length co24, .int .i64 1] rfl (by (try simp only [List.map_toArray, List.map_cons, List.map_nil]); first | done | rfl | (simp only [List.length_drop, List.length_take]; rfl)) ?_; (with_reducible refine (laws_heldInt64S.calls kj22 _ _ t182 1 t189 _ ?side1 ?side2 A34.out).mono ?_); (case side1 => repeat (first | exact (Kd.R_reads' HO_7.out).2.2 | (with_reducible refine Kd.C_alloc ?_ _) | (with_reducible refine Kd.C_drewN ?_ _) | (with_reducible refine Kd.C_drew ?_))); (case side2 => exact (Kd.R_reads' HO_7.out).2.1); rintro e w' ⟨rfl, ⟨nd, rfl⟩⟩; refine ⟨_, rfl, ?_⟩))
                        go_ret
                        exact ⟨by first | rfl | (simp [errW_none, errW_some] <;> rfl) | (simp [*, errW_none, errW_some] <;> rfl), by repeat (first | (with_reducible first | exact HB.out | apply below_alloc | apply pw_below_drewN | apply below_drew1) | exact HB.out)⟩
                      · rw [if_neg c36] at H
                        have c36b0 : (t189 == t181) = false := beq_eq_false_iff_ne.mpr c36
                        have c36b1 : (t189 != t181) = true := bne_iff_ne.mpr c36
                        obtain rfl := Option.some.inj H
                        go_wp2_with (first | ((with_reducible refine gate_callee (f := 26) rfl ?_); refine goesL_ (some 65) rfl rfl Tryd.func26 (by kernel_rfl) rfl #[.slice Ao24 t182.length co24, .int .i64 1] rfl (by (try simp only [List.map_toArray, List.map_cons, List.map_nil]); first | done | rfl | (simp only [List.length_drop, List.length_take]; rfl)) ?_; (with_reducible refine (laws_heldInt64S.calls kj22 _ _ t182 1 t189 _ ?side1 ?side2 A34.out).mono ?_); (case side1 => repeat (first | exact (Kd.R_reads' HO_7.out).2.2 | (with_reducible refine Kd.C_alloc ?_ _) | (with_reducible refine Kd.C_drewN ?_ _) | (with_reducible refine Kd.C_drew ?_))); (case side2 => exact (Kd.R_reads' HO_7.out).2.1); rintro e w' ⟨rfl, ⟨nd, rfl⟩⟩; refine ⟨_, rfl, ?_⟩))
                        go_ret
                        exact ⟨by first | rfl | (simp [errW_none, errW_some] <;> rfl) | (simp [*, errW_none, errW_some] <;> rfl), by repeat (first | (with_reducible first | exact HB.out | apply below_alloc | apply pw_below_drewN | apply below_drew1) | exact HB.out)⟩
            · rw [if_neg c21] at H
              have c21b0 : (t183 == t181) = false := beq_eq_false_iff_ne.mpr c21
              have c21b1 : (t183 != t181) = true := bne_iff_ne.mpr c21
              obtain rfl := Option.some.inj H
              obtain ⟨Ao37, co37, eo37⟩ := Kd.R_slice HO_7.out
              subst eo37
              go_wp2_with (first | ((with_reducible refine gate_callee (f := 25) rfl ?_); refine goesL_ (some 39) rfl rfl Tryd.func25 (by kernel_rfl) rfl #[.slice Ao37 t176.length co37, .int .i64 1] rfl (by (try simp only [List.map_toArray, List.map_cons, List.map_nil]); first | done | rfl | (simp only [List.length_drop, List.length_take]; rfl)) ?_; (with_reducible refine (laws_markInt64S.calls kj5 (fun k_ => some k_ = (.slice Ao37 t176.length co37 : Value).ownBlock) (.slice Ao37 t176.length co37) t176 1 t181 t182 w _ ?side1 ?side2 A16.out).mono ?_); (case side1 => repeat (first | (with_reducible first | exact HB.out | apply below_alloc | apply pw_below_drewN | apply below_drew1) | exact HB.out)); (case side2 => exact Kd.R_tight rfl HO_7.out); rintro e w38 ⟨rfl, hy0, hb, hkp⟩; refine ⟨_, rfl, ?_⟩; have n0_ := Aside0.mk (Kd.R_mono (ok' := fun k_ => some k_ ≠ (.slice Ao37 t176.length co37 : Value).ownBlock) (Kd.R_keptB (HO_5.out) hkp (fun k_ hk_ hs_ => (hk_) hs_)) (fun k_ hk_ => hk_.1)); have n1_ := Aside0.mk (Kd.R_reok rfl hy0 (fun k_ e_ => HO_7.out.1 k_ e_)); have n2_ := Aside0.mk (hb); clear HO_5; clear HO_7; clear HB; have HO_5 := n0_; have HO_7 := n1_; have HB := n2_; clear n0_ n1_ n2_; (try clear hb); (try clear hkp); (try clear hy0)) | ((with_reducible refine gate_callee (f := 26) rfl ?_); refine goesL_ (some 42) rfl rfl Tryd.func26 (by kernel_rfl) rfl #[.slice Ao37 t182.length co37, .int .i64 1] rfl (by (try simp only [List.map_toArray, List.map_cons, List.map_nil]); first | done | (rw [show t182.length = t176.length from (Kd.R_reads' HO_7.out).1.symm] <;> rfl) | rfl | (simp only [List.length_drop, List.length_take]; rfl)) ?_; (with_reducible refine (laws_heldInt64S.calls kj5 _ _ t182 1 t183 _ ?side1 ?side2 A17.out).mono ?_); (case side1 => repeat (first | exact (Kd.R_reads' HO_7.out).2.2 | (with_reducible refine Kd.C_alloc ?_ _) | (with_reducible refine Kd.C_drewN ?_ _) | (with_reducible refine Kd.C_drew ?_))); (case side2 => rw [show t182.length = t176.length from (Kd.R_reads' HO_7.out).1.symm]; exact (Kd.R_reads' HO_7.out).2.1); rintro e w' ⟨rfl, ⟨nd, rfl⟩⟩; refine ⟨_, rfl, ?_⟩))
              go_ret
              exact ⟨by first | rfl | (simp [errW_none, errW_some] <;> rfl) | (simp [*, errW_none, errW_some] <;> rfl), by repeat (first | (with_reducible first | exact HB.out | apply below_alloc | apply pw_below_drewN | apply below_drew1) | exact HB.out)⟩

/-- THE ONE PURE STATEMENT of laws_FnExactTimeouts: yours. -/
def laws_FnExactTimeouts.Pure : Prop := ∀ (a0 : ByteArray) (a1 : Int), a0.size ≤ 140737488351232 → (Lit.int .i64 a1).wf = true → ∃ k, laws_FnExactTimeouts.f k a0 a1 = some true
theorem laws_FnExactTimeouts.walk (P : laws_FnExactTimeouts.Pure) (a0 : ByteArray) (a1 : Int) (w : World) (w0 : a0.size ≤ 140737488351232) (w1 : (Lit.int .i64 a1).wf = true) :
    Calls Tryd.prog 7 #[.string a0, .int .i64 a1] w fun e w' => e = .returned (.bool true) ∧ Below w.heap.size w w' := by
  obtain ⟨k, h⟩ := P a0 a1 w0 w1
  refine (laws_FnExactTimeouts.calls k a0 a1 true w h).mono ?_
  rintro e w' ⟨rfl, hd⟩
  exact ⟨rfl, hd⟩

end Go.Proofs.YtcpfkfaiakpfjaaDoor.X

-- Written by a program of this session out of the kit's print of the loaded functions: a plain function of a Go function, and its contract.
namespace Go.Proofs.YtcpfkfaiakpfjaaDoor.X
open Go.RowKit Go.Proofs.YtcpfkfaiakpfjaaDoorW.PrintWords Go.Proofs.YtcpfkfaiakpfjaaDoorW.PrintLast Go.Proofs.YtcpfkfaiakpfjaaDoorW.PrintMore
attribute [local go_sem] max2_int min2_int max_two min_two max_three min_three max_four min_four   -- for this text's walks alone
set_option linter.unusedVariables false
set_option linter.unusedSimpArgs false

/-! ### spec_CountWindows: function 27 -/
def spec_CountWindows.l0 : Nat → ByteArray → Int → List Int → Int → Option (List Int × Bool)
  | 0, _, _, _, _ => none
  | k + 1, x0, x1, x6, x7 => if (wrap64 (x7 + x1)) ≤ (x0.size : Int) then ((spec_l09Ups.f k x0 x7 (wrap64 (x7 + x1))).bind fun t194 => (if x6.length < 17592186044416 then (spec_CountWindows.l0 k x0 x1 (x6 ++ [t194]) (wrap64 (x7 + x1))) else (none))) else (some (x6, true))
def spec_CountWindows.f (k : Nat) (a0 : ByteArray) (a1 : Int) : Option (List Int × Bool) := (spec_l09Filter.f k a0 a1).bind fun t190 => (if t190 = true then (spec_CountWindows.l0 k a0 a1 (([] : List Int)) 0) else (some (([] : List Int), false)))
theorem spec_CountWindows.mono_l : ∀ k, (∀ y0 y1 y2 y3, LeO (spec_CountWindows.l0 k y0 y1 y2 y3) (spec_CountWindows.l0 (k + 1) y0 y1 y2 y3))
  | 0 => fun _ _ _ _ r h => by simp [spec_CountWindows.l0] at h
  | k + 1 => by
    have ih0 := spec_CountWindows.mono_l k
    · intro y0 y1 y2 y3
      unfold spec_CountWindows.l0
      repeat' first
      | (with_reducible exact ih0 _ _ _ _)
      | (with_reducible exact spec_l09Filter.mono _ _ _)
      | (with_reducible exact spec_l09Ups.mono _ _ _ _)
      | (with_reducible exact LeO.refl _)
      | (with_reducible exact LeO.none _)
      | (with_reducible refine LeO.ite ?_ ?_)
      | (with_reducible refine LeO.bind ?_ (fun _ => ?_))
      | exact ih0 _ _ _ _
      | exact spec_l09Filter.mono _ _ _
      | exact spec_l09Ups.mono _ _ _ _
      | exact LeO.none _
      | refine LeO.ite ?_ ?_
      | refine LeO.bind ?_ (fun _ => ?_)
theorem spec_CountWindows.mono : ∀ a0 a1 k, LeO (spec_CountWindows.f k a0 a1) (spec_CountWindows.f (k + 1) a0 a1) := by
  intro a0 a1 k
  have ih0 := spec_CountWindows.mono_l k
  unfold spec_CountWindows.f
  repeat' first
      | (with_reducible exact ih0 _ _ _ _)
      | (with_reducible exact spec_l09Filter.mono _ _ _)
      | (with_reducible exact spec_l09Ups.mono _ _ _ _)
      | (with_reducible exact LeO.refl _)
      | (with_reducible exact LeO.none _)
      | (with_reducible refine LeO.ite ?_ ?_)
      | (with_reducible refine LeO.bind ?_ (fun _ => ?_))
      | exact ih0 _ _ _ _
      | exact spec_l09Filter.mono _ _ _
      | exact spec_l09Ups.mono _ _ _ _
      | exact LeO.none _
      | refine LeO.ite ?_ ?_
      | refine LeO.bind ?_ (fun _ => ?_)
set_option maxHeartbeats 8000000 in
set_option maxRecDepth 100000 in
theorem spec_CountWindows.calls (k : Nat) (a0 : ByteArray) (a1 : Int) (r1 : List Int) (r2 : Bool) (w : World) (h : spec_CountWindows.f k a0 a1 = some (r1, r2)) :
    Calls Tryd.prog 27 #[.string a0, .int .i64 a1] w fun e w' => ∃ v0_ : Value, e = .returned (.tuple #[v0_, .bool r2]) ∧ Kd.R (Kd.int .i64) 2 w' w.heap.size (fun _ => True) v0_ r1 ∧ Below w.heap.size w w' := by
  have HB := Aside0.mk (Below.refl w.heap.size w)
  have H : ((spec_l09Filter.f k a0 a1).bind fun t190 => (if t190 = true then (spec_CountWindows.l0 k a0 a1 (([] : List Int)) 0) else (some (([] : List Int), false)))) = some (r1, r2) := h
  clear h
  replace H := Option.bind_eq_some_iff.mp H
  obtain ⟨t190, A30, H⟩ := H
  replace H : (if t190 = true then (spec_CountWindows.l0 k a0 a1 (([] : List Int)) 0) else (some (([] : List Int), false))) = some (r1, r2) := H
  have A3 := Aside0.mk A30
  clear A30
  by_cases c4 : t190 = true
  · subst c4
    have H1 : (spec_CountWindows.l0 k a0 a1 (([] : List Int)) 0) = some (r1, r2) := by rw [if_pos rfl] at H; exact H
    clear H
    have H := H1
    clear H1
    obtain ⟨y191, hy191⟩ : ∃ y_ : List Int, y_ = (([] : List Int)) := ⟨_, rfl⟩
    replace H : (spec_CountWindows.l0 k a0 a1 y191 0) = some (r1, r2) := by first | (rw [hy191]; with_reducible exact H) | (have H2_ := (Option.bind_some _ _).symm.trans H; rw [hy191]; with_reducible exact H2_) | (have H2_ := (Option.bind_some _ _).symm.trans H; with_reducible exact H2_) | with_reducible exact H | (rw [hy191]; exact H) | exact H
    have Ny191 := Aside0.mk hy191
    clear hy191
    have H' := Aside0.mk H
    clear H
    go_enter Tryd.func27, Tryd.ntmps27
    go_wp2_with (first | ((with_reducible refine gate_callee (f := 40) rfl ?_); refine goesL_ (some 10) rfl rfl Tryd.func40 (by kernel_rfl) rfl #[.string a0, .int .i64 a1] rfl (by (try simp only [List.map_toArray, List.map_cons, List.map_nil]); first | done | rfl | (simp only [List.length_drop, List.length_take]; rfl)) ?_; (with_reducible refine (spec_l09Filter.calls k a0 a1 true _ A3.out).mono ?_); rintro e w' ⟨rfl, ⟨nd, rfl⟩⟩; refine ⟨_, rfl, ?_⟩) | ((with_reducible refine gate_dst (N := 12) rfl ?_); refine Kd.R_lit (Kd.int .i64) _ 2 ?hg (N := 12) ?hd (xs := ([] : List Int)) (inner := []) (ok := fun _ => True) (okp := fun _ => True) ?hr ?hp (fun _ hk => hk) trivial (Below.refl _ _) (Nat.le_refl _) (by simp) ?_; (case hd => rfl); (case hg => rfl); (case hr => first | (go_simp; done) | (go_simp; rfl)); (case hp => exact (Reps.none _ _)); intro v192 w5 ho6 hb hg_ hnew_; clear hg_ hnew_; (first | rw [← Ny191.out] at ho6 | (simp only [Int.reduceToNat] at ho6; rw [← Ny191.out] at ho6)); have n0_ := Aside0.mk (Kd.R_lower ho6 (below_size (by repeat (first | (with_reducible first | exact HB.out | apply below_alloc | apply pw_below_drewN | apply below_drew1) | exact HB.out)))); have n1_ := Aside0.mk (below_step (by repeat (first | (with_reducible first | exact HB.out | apply below_alloc | apply pw_below_drewN | apply below_drew1) | exact HB.out)) hb); clear HB; have HO193 := n0_; have HB := n1_; clear n0_ n1_; clear hb ho6))
    go_loopg [6, 7] k (fun kq v6 v7 w' => ∃ (x6_1 : List Int) (x7_1 : Int), v7 = .int .i64 x7_1 ∧ Aside0 (spec_CountWindows.l0 kq a0 a1 x6_1 x7_1 = some (r1, r2)) ∧ Aside0 (kq ≤ k) ∧ Aside0 (Kd.R (Kd.int .i64) 2 w' w.heap.size (fun _ => True) v6 x6_1) ∧ Aside0 (Below w.heap.size w w'))
    case atStart => exact ⟨(y191), (0), (by first | rfl | (simp; done) | (simp [*]; done)), H', ⟨Nat.le_refl _⟩, ⟨by (with_reducible repeat (first | apply Kd.R_alloc | apply Kd.R_drewN | apply Kd.R_drew)); exact HO193.out⟩, ⟨by repeat (first | (with_reducible first | exact HB.out | apply below_alloc | apply pw_below_drewN | apply below_drew1) | exact HB.out)⟩⟩
    case round =>
      clear H'
      try clear c2
      try clear p2
      try clear c4
      obtain ⟨x6_1, x7_1, rfl, HA, HK1, HO_6, HB⟩ := hrel
      cases gk with
      | zero => exact absurd HA.out (by simp [spec_CountWindows.l0])
      | succ k1 =>
        have H := HA.out
        clear HA
        simp only [spec_CountWindows.l0] at H
        by_cases c7 : (wrap64 (x7_1 + a1)) ≤ (a0.size : Int)
        · rw [if_pos c7] at H
          have c7b0 : decide ((wrap64 (x7_1 + a1)) ≤ (a0.size : Int)) = true := decide_eq_true c7
          clear c7
          replace H := Option.bind_eq_some_iff.mp H
          obtain ⟨t194, A80, H⟩ := H
          replace H : (if x6_1.length < 17592186044416 then (spec_CountWindows.l0 k1 a0 a1 (x6_1 ++ [t194]) (wrap64 (x7_1 + a1))) else (none)) = some (r1, r2) := H
          have A8 := Aside0.mk A80
          clear A80
          by_cases c9 : x6_1.length < 17592186044416
          · rw [if_pos c9] at H
            have LMc9 := Aside0.mk c9
            clear c9
            obtain ⟨y195, hy195⟩ : ∃ y_ : List Int, y_ = (x6_1 ++ [t194]) := ⟨_, rfl⟩
            replace H : (spec_CountWindows.l0 k1 a0 a1 y195 (wrap64 (x7_1 + a1))) = some (r1, r2) := by first | (rw [hy195]; with_reducible exact H) | (have H2_ := (Option.bind_some _ _).symm.trans H; rw [hy195]; with_reducible exact H2_) | (have H2_ := (Option.bind_some _ _).symm.trans H; with_reducible exact H2_) | with_reducible exact H | (rw [hy195]; exact H) | exact H
            have Ny195 := Aside0.mk hy195
            clear hy195
            have H' := Aside0.mk H
            clear H
            go_wp2_with (first | ((with_reducible refine gate_callee (f := 52) rfl ?_); refine goesL_ (some 28) rfl rfl Tryd.func52 (by kernel_rfl) rfl #[.string a0, .int .i64 x7_1, .int .i64 (wrap64 (x7_1 + a1))] rfl (by (try simp only [List.map_toArray, List.map_cons, List.map_nil]); first | done | rfl | (simp only [List.length_drop, List.length_take]; rfl)) ?_; (with_reducible refine (spec_l09Ups.calls k1 a0 x7_1 (wrap64 (x7_1 + a1)) t194 _ A8.out).mono ?_); rintro e w10 ⟨rfl, hb⟩; refine ⟨_, rfl, ?_⟩; have n0_ := Aside0.mk (Kd.R_below (by (with_reducible repeat (first | apply Kd.R_alloc | apply Kd.R_drewN | apply Kd.R_drew)); exact HO_6.out) hb); have n1_ := Aside0.mk (below_step (by repeat (first | (with_reducible first | exact HB.out | apply below_alloc | apply pw_below_drewN | apply below_drew1) | exact HB.out)) hb); clear HO_6; clear HB; have HO_6 := n0_; have HB := n1_; clear n0_ n1_; (try clear hb); (try clear hb2); (try clear hk); (try clear hi)) | ((with_reducible refine gate_builtin (b := .append) (xs := #[.tmp 22, .tmp 29]) rfl ?_); at_builtin; refine Kd.R_append (Kd.int .i64) (w0 := w) w.heap.size rfl (.tmp 22) (.tmp 29) 29 2 (.int .i64 0) 8 rfl Tryd.underlying29 info2 rfl (by decide) (by omega) u6 x6_1 t194 [.int .i64 t194] (fun _ => True) (fun _ => False) rfl rfl ?aP (fun _ hk => hk.elim) ?aF ?aO ?aB ?aS ?aL ?_; (case aP => exact rfl); (case aB => exact (by repeat (first | (with_reducible first | exact HB.out | apply below_alloc | apply pw_below_drewN | apply below_drew1) | exact HB.out))); (case aF => exact (fun _ _ => trivial)); (case aO => exact (by (with_reducible repeat (first | apply Kd.R_alloc | apply Kd.R_drewN | apply Kd.R_drew)); exact HO_6.out)); (case aS => exact (below_size (by repeat (first | (with_reducible first | exact HB.out | apply below_alloc | apply pw_below_drewN | apply below_drew1) | exact HB.out)))); (case aL => have := LMc9.out; omega); intro v196 w11 ho hb hg hat; rw [← Ny195.out] at ho; have n0_ := Aside0.mk (hb); have n1_ := Aside0.mk (ho); clear HB; clear HO_6; have HB := n0_; have HO197 := n1_; clear n0_ n1_; clear ho hb hg hat))
            go_roundg k1
            case measure => have := HK1.out; omega
            case rel => exact ⟨(y195), (wrap64 (x7_1 + a1)), (by first | rfl | (simp; done) | (simp [*]; done)), H', ⟨by have := HK1.out; omega⟩, ⟨by (with_reducible repeat (first | apply Kd.R_alloc | apply Kd.R_drewN | apply Kd.R_drew)); exact HO197.out⟩, ⟨by repeat (first | (with_reducible first | exact HB.out | apply below_alloc | apply pw_below_drewN | apply below_drew1) | exact HB.out)⟩⟩
          · rw [if_neg c9] at H
            exact absurd H (by simp)
        · rw [if_neg c7] at H
          have c7b0 : decide ((wrap64 (x7_1 + a1)) ≤ (a0.size : Int)) = false := decide_eq_false c7
          clear c7
          simp only [Option.some.injEq, Prod.mk.injEq] at H
          obtain ⟨rfl, rfl⟩ := H
          go_wp2
          go_ret2
          exact ⟨_, by first | rfl | (simp [errW_none, errW_some] <;> rfl) | (simp [*, errW_none, errW_some] <;> rfl), by (with_reducible repeat (first | apply Kd.R_alloc | apply Kd.R_drewN | apply Kd.R_drew)); exact HO_6.out, by repeat (first | (with_reducible first | exact HB.out | apply below_alloc | apply pw_below_drewN | apply below_drew1) | exact HB.out)⟩
  · replace c4 := Bool.eq_false_iff.mpr c4
    subst c4
    have H1 : (some (([] : List Int), false)) = some (r1, r2) := by rw [if_neg (show ¬ (false = true) by decide)] at H; exact H
    clear H
    have H := H1
    clear H1
    simp only [Option.some.injEq, Prod.mk.injEq] at H
    obtain ⟨rfl, rfl⟩ := H
    go_enter Tryd.func27, Tryd.ntmps27
    go_wp2_with (first | ((with_reducible refine gate_callee (f := 40) rfl ?_); refine goesL_ (some 10) rfl rfl Tryd.func40 (by kernel_rfl) rfl #[.string a0, .int .i64 a1] rfl (by (try simp only [List.map_toArray, List.map_cons, List.map_nil]); first | done | rfl | (simp only [List.length_drop, List.length_take]; rfl)) ?_; (with_reducible refine (spec_l09Filter.calls k a0 a1 false _ A3.out).mono ?_); rintro e w' ⟨rfl, ⟨nd, rfl⟩⟩; refine ⟨_, rfl, ?_⟩))
    go_ret2
    exact ⟨_, by first | rfl | (simp [errW_none, errW_some] <;> rfl) | (simp [*, errW_none, errW_some] <;> rfl), by first | exact Kd.R_nil _ _ _ _ _ | exact Kd.N_nil _ _ _ _ _ | exact Kd.V_nil _ _ _ _ _ | exact Kd.Q_nil _ _ _ _ _ | exact Kd.S_nil _ _ _ _ _, by repeat (first | (with_reducible first | exact HB.out | apply below_alloc | apply pw_below_drewN | apply below_drew1) | exact HB.out)⟩

end Go.Proofs.YtcpfkfaiakpfjaaDoor.X

-- Written by a program of this session out of the kit's print of the loaded functions: a plain function of a Go function, and its contract.
namespace Go.Proofs.YtcpfkfaiakpfjaaDoor.X
open Go.RowKit Go.Proofs.YtcpfkfaiakpfjaaDoorW.PrintWords Go.Proofs.YtcpfkfaiakpfjaaDoorW.PrintLast Go.Proofs.YtcpfkfaiakpfjaaDoorW.PrintMore
attribute [local go_sem] max2_int min2_int max_two min_two max_three min_three max_four min_four   -- for this text's walks alone
set_option linter.unusedVariables false
set_option linter.unusedSimpArgs false

/-! ### impl_CountWindows: function 28 -/
def impl_CountWindows.l0 : Nat → ByteArray → Int → List Int → List Int → Int → Option (List Int × Bool)
  | 0, _, _, _, _, _ => none
  | k + 1, x0, x1, x6, x7, x8 => if (wrap64 (x8 + x1)) ≤ (x0.size : Int) then ((impl_upsIn.f k x6 x8 (wrap64 (x8 + x1))).bind fun t205 => (if x7.length < 17592186044416 then (impl_CountWindows.l0 k x0 x1 x6 (x7 ++ [t205]) (wrap64 (x8 + x1))) else (none))) else (some (x7, true))
def impl_CountWindows.f (k : Nat) (a0 : ByteArray) (a1 : Int) : Option (List Int × Bool) := (impl_isFilter.f a0 a1).bind fun t198 => (if t198 = true then ((impl_changesTo.f k a0 49).bind fun t199 => (impl_CountWindows.l0 k a0 a1 t199 (([] : List Int)) 0)) else (some (([] : List Int), false)))
theorem impl_CountWindows.mono_l : ∀ k, (∀ y0 y1 y2 y3 y4, LeO (impl_CountWindows.l0 k y0 y1 y2 y3 y4) (impl_CountWindows.l0 (k + 1) y0 y1 y2 y3 y4))
  | 0 => fun _ _ _ _ _ r h => by simp [impl_CountWindows.l0] at h
  | k + 1 => by
    have ih0 := impl_CountWindows.mono_l k
    · intro y0 y1 y2 y3 y4
      unfold impl_CountWindows.l0
      repeat' first
      | (with_reducible exact ih0 _ _ _ _ _)
      | (with_reducible exact impl_changesTo.mono _ _ _)
      | (with_reducible exact impl_upsIn.mono _ _ _ _)
      | (with_reducible exact LeO.refl _)
      | (with_reducible exact LeO.none _)
      | (with_reducible refine LeO.ite ?_ ?_)
      | (with_reducible refine LeO.bind ?_ (fun _ => ?_))
      | exact ih0 _ _ _ _ _
      | exact impl_changesTo.mono _ _ _
      | exact impl_upsIn.mono _ _ _ _
      | exact LeO.none _
      | refine LeO.ite ?_ ?_
      | refine LeO.bind ?_ (fun _ => ?_)
theorem impl_CountWindows.mono : ∀ a0 a1 k, LeO (impl_CountWindows.f k a0 a1) (impl_CountWindows.f (k + 1) a0 a1) := by
  intro a0 a1 k
  have ih0 := impl_CountWindows.mono_l k
  unfold impl_CountWindows.f
  repeat' first
      | (with_reducible exact ih0 _ _ _ _ _)
      | (with_reducible exact impl_changesTo.mono _ _ _)
      | (with_reducible exact impl_upsIn.mono _ _ _ _)
      | (with_reducible exact LeO.refl _)
      | (with_reducible exact LeO.none _)
      | (with_reducible refine LeO.ite ?_ ?_)
      | (with_reducible refine LeO.bind ?_ (fun _ => ?_))
      | exact ih0 _ _ _ _ _
      | exact impl_changesTo.mono _ _ _
      | exact impl_upsIn.mono _ _ _ _
      | exact LeO.none _
      | refine LeO.ite ?_ ?_
      | refine LeO.bind ?_ (fun _ => ?_)
set_option maxHeartbeats 8000000 in
set_option maxRecDepth 100000 in
theorem impl_CountWindows.calls (k : Nat) (a0 : ByteArray) (a1 : Int) (r1 : List Int) (r2 : Bool) (w : World) (h : impl_CountWindows.f k a0 a1 = some (r1, r2)) :
    Calls Tryd.prog 28 #[.string a0, .int .i64 a1] w fun e w' => ∃ v0_ : Value, e = .returned (.tuple #[v0_, .bool r2]) ∧ Kd.R (Kd.int .i64) 2 w' w.heap.size (fun _ => True) v0_ r1 ∧ Below w.heap.size w w' := by
  have HB := Aside0.mk (Below.refl w.heap.size w)
  have H : ((impl_isFilter.f a0 a1).bind fun t198 => (if t198 = true then ((impl_changesTo.f k a0 49).bind fun t199 => (impl_CountWindows.l0 k a0 a1 t199 (([] : List Int)) 0)) else (some (([] : List Int), false)))) = some (r1, r2) := h
  clear h
  replace H := Option.bind_eq_some_iff.mp H
  obtain ⟨t198, A30, H⟩ := H
  replace H : (if t198 = true then ((impl_changesTo.f k a0 49).bind fun t199 => (impl_CountWindows.l0 k a0 a1 t199 (([] : List Int)) 0)) else (some (([] : List Int), false))) = some (r1, r2) := H
  have A3 := Aside0.mk A30
  clear A30
  by_cases c4 : t198 = true
  · subst c4
    have H1 : ((impl_changesTo.f k a0 49).bind fun t199 => (impl_CountWindows.l0 k a0 a1 t199 (([] : List Int)) 0)) = some (r1, r2) := by rw [if_pos rfl] at H; exact H
    clear H
    have H := H1
    clear H1
    replace H := Option.bind_eq_some_iff.mp H
    obtain ⟨t199, A50, H⟩ := H
    replace H : (impl_CountWindows.l0 k a0 a1 t199 (([] : List Int)) 0) = some (r1, r2) := H
    have A5 := Aside0.mk A50
    clear A50
    obtain ⟨y202, hy202⟩ : ∃ y_ : List Int, y_ = (([] : List Int)) := ⟨_, rfl⟩
    replace H : (impl_CountWindows.l0 k a0 a1 t199 y202 0) = some (r1, r2) := by first | (rw [hy202]; with_reducible exact H) | (have H2_ := (Option.bind_some _ _).symm.trans H; rw [hy202]; with_reducible exact H2_) | (have H2_ := (Option.bind_some _ _).symm.trans H; with_reducible exact H2_) | with_reducible exact H | (rw [hy202]; exact H) | exact H
    have Ny202 := Aside0.mk hy202
    clear hy202
    have H' := Aside0.mk H
    clear H
    go_enter Tryd.func28, Tryd.ntmps28
    go_wp2_with (first | ((with_reducible refine gate_callee (f := 42) rfl ?_); refine goesL_ (some 11) rfl rfl Tryd.func42 (by kernel_rfl) rfl #[.string a0, .int .i64 a1] rfl (by (try simp only [List.map_toArray, List.map_cons, List.map_nil]); first | done | rfl | (simp only [List.length_drop, List.length_take]; rfl)) ?_; (with_reducible refine (impl_isFilter.calls a0 a1 true _ A3.out).mono ?_); rintro e w6 ⟨rfl, hb⟩; refine ⟨_, rfl, ?_⟩; have n0_ := Aside0.mk (below_step (by repeat (first | (with_reducible first | exact HB.out | apply below_alloc | apply pw_below_drewN | apply below_drew1) | exact HB.out)) hb); clear HB; have HB := n0_; clear n0_; (try clear hb); (try clear hb2); (try clear hk); (try clear hi)) | ((with_reducible refine gate_callee (f := 48) rfl ?_); refine goesL_ (some 14) rfl rfl Tryd.func48 (by kernel_rfl) rfl #[.string a0, .int .u8 49] rfl (by (try simp only [List.map_toArray, List.map_cons, List.map_nil]); first | done | rfl | (simp only [List.length_drop, List.length_take]; rfl)) ?_; (with_reducible refine (impl_changesTo.calls k a0 49 t199 _ A5.out).mono ?_); rintro e w7 ⟨v200, rfl, ho0, hb⟩; refine ⟨_, rfl, ?_⟩; have n0_ := Aside0.mk (Kd.R_lower ho0 (below_size (by repeat (first | (with_reducible first | exact HB.out | apply below_alloc | apply pw_below_drewN | apply below_drew1) | exact HB.out)))); have n1_ := Aside0.mk (below_step (by repeat (first | (with_reducible first | exact HB.out | apply below_alloc | apply pw_below_drewN | apply below_drew1) | exact HB.out)) hb); clear HB; have HO201 := n0_; have HB := n1_; clear n0_ n1_; (try clear hb); (try clear hb2); (try clear hk); (try clear hi); (try clear ho0)) | ((with_reducible refine gate_dst (N := 15) rfl ?_); refine Kd.R_lit (Kd.int .i64) _ 2 ?hg (N := 15) ?hd (xs := ([] : List Int)) (inner := []) (ok := fun _ => True) (okp := fun _ => True) ?hr ?hp (fun _ hk => hk) trivial (Below.refl _ _) (Nat.le_refl _) (by simp) ?_; (case hd => rfl); (case hg => rfl); (case hr => first | (go_simp; done) | (go_simp; rfl)); (case hp => exact (Reps.none _ _)); intro v203 w8 ho9 hb hg_ hnew_; clear hg_ hnew_; (first | rw [← Ny202.out] at ho9 | (simp only [Int.reduceToNat] at ho9; rw [← Ny202.out] at ho9)); have n0_ := Aside0.mk (Kd.R_elder' (by (with_reducible repeat (first | apply Kd.R_alloc | apply Kd.R_drewN | apply Kd.R_drew)); exact HO201.out) (Kd.R_base ho9) hb); have n1_ := Aside0.mk (Kd.R_lower (Kd.R_new' ho9 (Kd.R_lt (by (with_reducible repeat (first | apply Kd.R_alloc | apply Kd.R_drewN | apply Kd.R_drew)); exact HO201.out))) (below_size (by repeat (first | (with_reducible first | exact HB.out | apply below_alloc | apply pw_below_drewN | apply below_drew1) | exact HB.out)))); have n2_ := Aside0.mk (below_step (by repeat (first | (with_reducible first | exact HB.out | apply below_alloc | apply pw_below_drewN | apply below_drew1) | exact HB.out)) hb); clear HO201; clear HB; have HO201 := n0_; have HO204 := n1_; have HB := n2_; clear n0_ n1_ n2_; clear hb ho9))
    go_loopg [7, 8] k (fun kq v7 v8 w' => ∃ (x7_1 : List Int) (x8_1 : Int), v8 = .int .i64 x8_1 ∧ Aside0 (impl_CountWindows.l0 kq a0 a1 t199 x7_1 x8_1 = some (r1, r2)) ∧ Aside0 (kq ≤ k) ∧ Aside0 (Kd.R (Kd.int .i64) 2 w' w.heap.size (fun k_ => some k_ ≠ (v7 : Value).ownBlock) v200 t199) ∧ Aside0 (Kd.R (Kd.int .i64) 2 w' w.heap.size (fun k_ => some k_ ≠ (v200 : Value).ownBlock) v7 x7_1) ∧ Aside0 (Below w.heap.size w w'))
    case atStart => exact ⟨(y202), (0), (by first | rfl | (simp; done) | (simp [*]; done)), H', ⟨Nat.le_refl _⟩, ⟨by (with_reducible repeat (first | apply Kd.R_alloc | apply Kd.R_drewN | apply Kd.R_drew)); exact Kd.R_mono HO201.out (fun _ hk => hk.2)⟩, ⟨by (with_reducible repeat (first | apply Kd.R_alloc | apply Kd.R_drewN | apply Kd.R_drew)); exact Kd.R_mono HO204.out (fun _ hk => hk.2)⟩, ⟨by repeat (first | (with_reducible first | exact HB.out | apply below_alloc | apply pw_below_drewN | apply below_drew1) | exact HB.out)⟩⟩
    case round =>
      clear H'
      try clear c2
      try clear p2
      try clear c4
      obtain ⟨x7_1, x8_1, rfl, HA, HK1, HO_6, HO_7, HB⟩ := hrel
      cases gk with
      | zero => exact absurd HA.out (by simp [impl_CountWindows.l0])
      | succ k1 =>
        have H := HA.out
        clear HA
        simp only [impl_CountWindows.l0] at H
        by_cases c10 : (wrap64 (x8_1 + a1)) ≤ (a0.size : Int)
        · rw [if_pos c10] at H
          have c10b0 : decide ((wrap64 (x8_1 + a1)) ≤ (a0.size : Int)) = true := decide_eq_true c10
          clear c10
          replace H := Option.bind_eq_some_iff.mp H
          obtain ⟨t205, A110, H⟩ := H
          replace H : (if x7_1.length < 17592186044416 then (impl_CountWindows.l0 k1 a0 a1 t199 (x7_1 ++ [t205]) (wrap64 (x8_1 + a1))) else (none)) = some (r1, r2) := H
          have A11 := Aside0.mk A110
          clear A110
          by_cases c12 : x7_1.length < 17592186044416
          · rw [if_pos c12] at H
            have LMc12 := Aside0.mk c12
            clear c12
            obtain ⟨y206, hy206⟩ : ∃ y_ : List Int, y_ = (x7_1 ++ [t205]) := ⟨_, rfl⟩
            replace H : (impl_CountWindows.l0 k1 a0 a1 t199 y206 (wrap64 (x8_1 + a1))) = some (r1, r2) := by first | (rw [hy206]; with_reducible exact H) | (have H2_ := (Option.bind_some _ _).symm.trans H; rw [hy206]; with_reducible exact H2_) | (have H2_ := (Option.bind_some _ _).symm.trans H; with_reducible exact H2_) | with_reducible exact H | (rw [hy206]; exact H) | exact H
            have Ny206 := Aside0.mk hy206
            clear hy206
            have H' := Aside0.mk H
            clear H
            obtain ⟨Ao13, co13, eo13⟩ := Kd.R_slice HO_6.out
            subst eo13
            go_wp2_with (first | ((with_reducible refine gate_callee (f := 54) rfl ?_); refine goesL_ (some 31) rfl rfl Tryd.func54 (by kernel_rfl) rfl #[.slice Ao13 t199.length co13, .int .i64 x8_1, .int .i64 (wrap64 (x8_1 + a1))] rfl (by (try simp only [List.map_toArray, List.map_cons, List.map_nil]); first | done | rfl | (simp only [List.length_drop, List.length_take]; rfl)) ?_; (with_reducible refine (impl_upsIn.calls k1 _ _ t199 x8_1 (wrap64 (x8_1 + a1)) t205 _ ?side1 ?side2 A11.out).mono ?_); (case side1 => repeat (first | exact (Kd.R_reads' HO_6.out).2.2 | (with_reducible refine Kd.C_alloc ?_ _) | (with_reducible refine Kd.C_drewN ?_ _) | (with_reducible refine Kd.C_drew ?_))); (case side2 => exact (Kd.R_reads' HO_6.out).2.1); rintro e w' ⟨rfl, ⟨nd, rfl⟩⟩; refine ⟨_, rfl, ?_⟩) | ((with_reducible refine gate_builtin (b := .append) (xs := #[.tmp 25, .tmp 32]) rfl ?_); at_builtin; refine Kd.R_append (Kd.int .i64) (w0 := w) w.heap.size rfl (.tmp 25) (.tmp 32) 29 2 (.int .i64 0) 8 rfl Tryd.underlying29 info2 rfl (by decide) (by omega) u7 x7_1 t205 [.int .i64 t205] (fun k_ => some k_ ≠ (.slice Ao13 t199.length co13 : Value).ownBlock) (fun _ => False) rfl rfl ?aP (fun _ hk => hk.elim) ?aF ?aO ?aB ?aS ?aL ?_; (case aP => exact rfl); (case aB => exact (by repeat (first | (with_reducible first | exact HB.out | apply below_alloc | apply pw_below_drewN | apply below_drew1) | exact HB.out))); (case aF => exact (fun k_ hk => Kd.fresh' (Kd.R_lt (by (with_reducible repeat (first | apply Kd.R_alloc | apply Kd.R_drewN | apply Kd.R_drew)); exact HO_6.out)) k_ hk)); (case aO => exact (by (with_reducible repeat (first | apply Kd.R_alloc | apply Kd.R_drewN | apply Kd.R_drew)); exact HO_7.out)); (case aS => exact (below_size (by repeat (first | (with_reducible first | exact HB.out | apply below_alloc | apply pw_below_drewN | apply below_drew1) | exact HB.out)))); (case aL => have := LMc12.out; omega); intro v207 w14 ho hb hg hat; rw [← Ny206.out] at ho; have n0_ := Aside0.mk (Kd.R_after (ok := (fun _ => True)) (by (with_reducible repeat (first | apply Kd.R_alloc | apply Kd.R_drewN | apply Kd.R_drew)); exact Kd.R_mono HO_6.out (fun _ hk => ⟨trivial, hk⟩)) hg hat); have n1_ := Aside0.mk (hb); have n2_ := Aside0.mk (ho); clear HO_6; clear HB; clear HO_7; have HO_6 := n0_; have HB := n1_; have HO208 := n2_; clear n0_ n1_ n2_; clear ho hb hg hat))
            go_roundg k1
            case measure => have := HK1.out; omega
            case rel => exact ⟨(y206), (wrap64 (x8_1 + a1)), (by first | rfl | (simp; done) | (simp [*]; done)), H', ⟨by have := HK1.out; omega⟩, ⟨by (with_reducible repeat (first | apply Kd.R_alloc | apply Kd.R_drewN | apply Kd.R_drew)); exact Kd.R_mono HO_6.out (fun _ hk => hk.2)⟩, ⟨by (with_reducible repeat (first | apply Kd.R_alloc | apply Kd.R_drewN | apply Kd.R_drew)); exact HO208.out⟩, ⟨by repeat (first | (with_reducible first | exact HB.out | apply below_alloc | apply pw_below_drewN | apply below_drew1) | exact HB.out)⟩⟩
          · rw [if_neg c12] at H
            exact absurd H (by simp)
        · rw [if_neg c10] at H
          have c10b0 : decide ((wrap64 (x8_1 + a1)) ≤ (a0.size : Int)) = false := decide_eq_false c10
          clear c10
          simp only [Option.some.injEq, Prod.mk.injEq] at H
          obtain ⟨rfl, rfl⟩ := H
          go_wp2
          go_ret2
          exact ⟨_, by first | rfl | (simp [errW_none, errW_some] <;> rfl) | (simp [*, errW_none, errW_some] <;> rfl), by (with_reducible repeat (first | apply Kd.R_alloc | apply Kd.R_drewN | apply Kd.R_drew)); exact Kd.R_mono HO_7.out (fun _ hk => trivial), by repeat (first | (with_reducible first | exact HB.out | apply below_alloc | apply pw_below_drewN | apply below_drew1) | exact HB.out)⟩
  · replace c4 := Bool.eq_false_iff.mpr c4
    subst c4
    have H1 : (some (([] : List Int), false)) = some (r1, r2) := by rw [if_neg (show ¬ (false = true) by decide)] at H; exact H
    clear H
    have H := H1
    clear H1
    simp only [Option.some.injEq, Prod.mk.injEq] at H
    obtain ⟨rfl, rfl⟩ := H
    go_enter Tryd.func28, Tryd.ntmps28
    go_wp2_with (first | ((with_reducible refine gate_callee (f := 42) rfl ?_); refine goesL_ (some 11) rfl rfl Tryd.func42 (by kernel_rfl) rfl #[.string a0, .int .i64 a1] rfl (by (try simp only [List.map_toArray, List.map_cons, List.map_nil]); first | done | rfl | (simp only [List.length_drop, List.length_take]; rfl)) ?_; (with_reducible refine (impl_isFilter.calls a0 a1 false _ A3.out).mono ?_); rintro e w15 ⟨rfl, hb⟩; refine ⟨_, rfl, ?_⟩; have n0_ := Aside0.mk (below_step (by repeat (first | (with_reducible first | exact HB.out | apply below_alloc | apply pw_below_drewN | apply below_drew1) | exact HB.out)) hb); clear HB; have HB := n0_; clear n0_; (try clear hb); (try clear hb2); (try clear hk); (try clear hi)))
    go_ret2
    exact ⟨_, by first | rfl | (simp [errW_none, errW_some] <;> rfl) | (simp [*, errW_none, errW_some] <;> rfl), by first | exact Kd.R_nil _ _ _ _ _ | exact Kd.N_nil _ _ _ _ _ | exact Kd.V_nil _ _ _ _ _ | exact Kd.Q_nil _ _ _ _ _ | exact Kd.S_nil _ _ _ _ _, by repeat (first | (with_reducible first | exact HB.out | apply below_alloc | apply pw_below_drewN | apply below_drew1) | exact HB.out)⟩

end Go.Proofs.YtcpfkfaiakpfjaaDoor.X

-- Written by a program of this session out of the kit's print of the loaded functions: a plain function of a Go function, and its contract.
namespace Go.Proofs.YtcpfkfaiakpfjaaDoor.X
open Go.RowKit Go.Proofs.YtcpfkfaiakpfjaaDoorW.PrintWords Go.Proofs.YtcpfkfaiakpfjaaDoorW.PrintLast Go.Proofs.YtcpfkfaiakpfjaaDoorW.PrintMore
attribute [local go_sem] max2_int min2_int max_two min_two max_three min_three max_four min_four   -- for this text's walks alone
set_option linter.unusedVariables false
set_option linter.unusedSimpArgs false

/-! ### laws_FnExactCountWindows: function 8 -/
mutual
def laws_FnExactCountWindows.j0 : Nat → ByteArray → Int → List Int → Bool → List Int → Bool → Option (Bool)
  | 0, _, _, _, _, _, _ => none
  | k + 1, x0, x1, x5, x6, x7, x36 => if x36 = true then (some false) else ((laws_markInt64S.f k x7 1).bind fun bt218 => ((laws_heldInt64S.f k bt218.2 1).bind fun t220 => (if t220 < 0 then (some false) else (if t220 = bt218.1 then ((impl_CountWindows.f k x0 x1).bind fun bt221 => ((laws_eqInt64S.f k bt221.1 x5).bind fun t225 => (if t225 = true then (laws_FnExactCountWindows.j1 k bt218.2 bt218.1 (bt221.2 != x6)) else (laws_FnExactCountWindows.j1 k bt218.2 bt218.1 true)))) else (some false)))))
def laws_FnExactCountWindows.j1 : Nat → List Int → Int → Bool → Option (Bool)
  | 0, _, _, _ => none
  | k + 1, x7, x9, x62 => if x62 = true then (some false) else ((laws_heldInt64S.f k x7 1).bind fun t226 => (if t226 < 0 then (some false) else (if t226 = x9 then (some true) else (some false))))
end
def laws_FnExactCountWindows.f (k : Nat) (a0 : ByteArray) (a1 : Int) : Option (Bool) := if (a0.size : Int) > 1048576 then (some true) else ((spec_CountWindows.f k a0 a1).bind fun bt209 => ((impl_CountWindows.f k a0 a1).bind fun bt213 => ((laws_eqInt64S.f k bt213.1 bt209.1).bind fun t217 => (if t217 = true then (laws_FnExactCountWindows.j0 k a0 a1 bt209.1 bt209.2 bt213.1 (bt213.2 != bt209.2)) else (laws_FnExactCountWindows.j0 k a0 a1 bt209.1 bt209.2 bt213.1 true)))))
theorem laws_FnExactCountWindows.mono_l : ∀ k, (∀ y0 y1 y2 y3 y4 y5, LeO (laws_FnExactCountWindows.j0 k y0 y1 y2 y3 y4 y5) (laws_FnExactCountWindows.j0 (k + 1) y0 y1 y2 y3 y4 y5)) ∧ (∀ y0 y1 y2, LeO (laws_FnExactCountWindows.j1 k y0 y1 y2) (laws_FnExactCountWindows.j1 (k + 1) y0 y1 y2))
  | 0 => ⟨fun _ _ _ _ _ _ r h => by simp [laws_FnExactCountWindows.j0] at h, fun _ _ _ r h => by simp [laws_FnExactCountWindows.j1] at h⟩
  | k + 1 => by
    obtain ⟨ih0, ih1⟩ := laws_FnExactCountWindows.mono_l k
    refine ⟨?_, ?_⟩
    · intro y0 y1 y2 y3 y4 y5
      unfold laws_FnExactCountWindows.j0
      repeat' first
      | (with_reducible exact ih0 _ _ _ _ _ _)
      | (with_reducible exact ih1 _ _ _)
      | (with_reducible exact impl_CountWindows.mono _ _ _)
      | (with_reducible exact laws_eqInt64S.mono _ _ _)
      | (with_reducible exact laws_heldInt64S.mono _ _ _)
      | (with_reducible exact laws_markInt64S.mono _ _ _)
      | (with_reducible exact spec_CountWindows.mono _ _ _)
      | (with_reducible exact LeO.refl _)
      | (with_reducible exact LeO.none _)
      | (with_reducible refine LeO.ite ?_ ?_)
      | (with_reducible refine LeO.bind ?_ (fun _ => ?_))
      | exact ih0 _ _ _ _ _ _
      | exact ih1 _ _ _
      | exact impl_CountWindows.mono _ _ _
      | exact laws_eqInt64S.mono _ _ _
      | exact laws_heldInt64S.mono _ _ _
      | exact laws_markInt64S.mono _ _ _
      | exact spec_CountWindows.mono _ _ _
      | exact LeO.none _
      | refine LeO.ite ?_ ?_
      | refine LeO.bind ?_ (fun _ => ?_)
    · intro y0 y1 y2
      unfold laws_FnExactCountWindows.j1
      repeat' first
      | (with_reducible exact ih0 _ _ _ _ _ _)
      | (with_reducible exact ih1 _ _ _)
      | (with_reducible exact impl_CountWindows.mono _ _ _)
      | (with_reducible exact laws_eqInt64S.mono _ _ _)
      | (with_reducible exact laws_heldInt64S.mono _ _ _)
      | (with_reducible exact laws_markInt64S.mono _ _ _)
      | (with_reducible exact spec_CountWindows.mono _ _ _)
      | (with_reducible exact LeO.refl _)
      | (with_reducible exact LeO.none _)
      | (with_reducible refine LeO.ite ?_ ?_)
      | (with_reducible refine LeO.bind ?_ (fun _ => ?_))
      | exact ih0 _ _ _ _ _ _
      | exact ih1 _ _ _
      | exact impl_CountWindows.mono _ _ _
      | exact laws_eqInt64S.mono _ _ _
      | exact laws_heldInt64S.mono _ _ _
      | exact laws_markInt64S.mono _ _ _
      | exact spec_CountWindows.mono _ _ _
      | exact LeO.none _
      | refine LeO.ite ?_ ?_
      | refine LeO.bind ?_ (fun _ => ?_)
theorem laws_FnExactCountWindows.mono : ∀ a0 a1 k, LeO (laws_FnExactCountWindows.f k a0 a1) (laws_FnExactCountWindows.f (k + 1) a0 a1) := by
  intro a0 a1 k
  obtain ⟨ih0, ih1⟩ := laws_FnExactCountWindows.mono_l k
  unfold laws_FnExactCountWindows.f
  repeat' first
      | (with_reducible exact ih0 _ _ _ _ _ _)
      | (with_reducible exact ih1 _ _ _)
      | (with_reducible exact impl_CountWindows.mono _ _ _)
      | (with_reducible exact laws_eqInt64S.mono _ _ _)
      | (with_reducible exact laws_heldInt64S.mono _ _ _)
      | (with_reducible exact laws_markInt64S.mono _ _ _)
      | (with_reducible exact spec_CountWindows.mono _ _ _)
      | (with_reducible exact LeO.refl _)
      | (with_reducible exact LeO.none _)
      | (with_reducible refine LeO.ite ?_ ?_)
      | (with_reducible refine LeO.bind ?_ (fun _ => ?_))
      | exact ih0 _ _ _ _ _ _
      | exact ih1 _ _ _
      | exact impl_CountWindows.mono _ _ _
      | exact laws_eqInt64S.mono _ _ _
      | exact laws_heldInt64S.mono _ _ _
      | exact laws_markInt64S.mono _ _ _
      | exact spec_CountWindows.mono _ _ _
      | exact LeO.none _
      | refine LeO.ite ?_ ?_
      | refine LeO.bind ?_ (fun _ => ?_)
set_option maxHeartbeats 8000000 in
set_option maxRecDepth 100000 in
theorem laws_FnExactCountWindows.calls (k : Nat) (a0 : ByteArray) (a1 : Int) (r : Bool) (w : World) (h : laws_FnExactCountWindows.f k a0 a1 = some r) :
    Calls Tryd.prog 8 #[.string a0, .int .i64 a1] w fun e w' => e = .returned (.bool r) ∧ Below w.heap.size w w' := by
  have HB := Aside0.mk (Below.refl w.heap.size w)
  have H : (if (a0.size : Int) > 1048576 then (some true) else ((spec_CountWindows.f k a0 a1).bind fun bt209 => ((impl_CountWindows.f k a0 a1).bind fun bt213 => ((laws_eqInt64S.f k bt213.1 bt209.1).bind fun t217 => (if t217 = true then (laws_FnExactCountWindows.j0 k a0 a1 bt209.1 bt209.2 bt213.1 (bt213.2 != bt209.2)) else (laws_FnExactCountWindows.j0 k a0 a1 bt209.1 bt209.2 bt213.1 true)))))) = some r := h
  clear h
  by_cases c3 : (a0.size : Int) > 1048576
  · rw [if_pos c3] at H
    have c3b0 : decide (1048576 < (a0.size : Int)) = true := decide_eq_true c3
    have c3b1 : decide (1048576 < a0.size) = true := decide_eq_true (by omega)
    clear c3
    obtain rfl := Option.some.inj H
    go_enter Tryd.func8, Tryd.ntmps8
    go_wp2
    go_ret
    exact ⟨by first | rfl | (simp [errW_none, errW_some] <;> rfl) | (simp [*, errW_none, errW_some] <;> rfl), by repeat (first | (with_reducible first | exact HB.out | apply below_alloc | apply pw_below_drewN | apply below_drew1) | exact HB.out)⟩
  · rw [if_neg c3] at H
    have c3b0 : decide (1048576 < (a0.size : Int)) = false := decide_eq_false c3
    have c3b1 : decide (1048576 < a0.size) = false := decide_eq_false (by omega)
    clear c3
    replace H := Option.bind_eq_some_iff.mp H
    obtain ⟨⟨t209, t210⟩, A40, H⟩ := H
    replace H : ((impl_CountWindows.f k a0 a1).bind fun bt213 => ((laws_eqInt64S.f k bt213.1 t209).bind fun t217 => (if t217 = true then (laws_FnExactCountWindows.j0 k a0 a1 t209 t210 bt213.1 (bt213.2 != t210)) else (laws_FnExactCountWindows.j0 k a0 a1 t209 t210 bt213.1 true)))) = some r := H
    have A4 := Aside0.mk A40
    clear A40
    replace H := Option.bind_eq_some_iff.mp H
    obtain ⟨⟨t213, t214⟩, A50, H⟩ := H
    replace H : ((laws_eqInt64S.f k t213 t209).bind fun t217 => (if t217 = true then (laws_FnExactCountWindows.j0 k a0 a1 t209 t210 t213 (t214 != t210)) else (laws_FnExactCountWindows.j0 k a0 a1 t209 t210 t213 true))) = some r := H
    have A5 := Aside0.mk A50
    clear A50
    have HC6 := Aside0.mk H
    clear H
    go_enter Tryd.func8, Tryd.ntmps8
    go_upto_region 5 with (first | ((with_reducible refine gate_callee (f := 27) rfl ?_); refine goesL_ (some 19) rfl rfl Tryd.func27 (by kernel_rfl) rfl #[.string a0, .int .i64 a1] rfl (by (try simp only [List.map_toArray, List.map_cons, List.map_nil]); first | done | rfl | (simp only [List.length_drop, List.length_take]; rfl)) ?_; (with_reducible refine (spec_CountWindows.calls k a0 a1 t209 t210 _ A4.out).mono ?_); rintro e w7 ⟨v211, rfl, ho0, hb⟩; refine ⟨_, rfl, ?_⟩; have n0_ := Aside0.mk (Kd.R_lower ho0 (below_size (by repeat (first | (with_reducible first | exact HB.out | apply below_alloc | apply pw_below_drewN | apply below_drew1) | exact HB.out)))); have n1_ := Aside0.mk (below_step (by repeat (first | (with_reducible first | exact HB.out | apply below_alloc | apply pw_below_drewN | apply below_drew1) | exact HB.out)) hb); clear HB; have HO212 := n0_; have HB := n1_; clear n0_ n1_; (try clear hb); (try clear hb2); (try clear hk); (try clear hi); (try clear ho0)) | ((with_reducible refine gate_callee (f := 28) rfl ?_); refine goesL_ (some 25) rfl rfl Tryd.func28 (by kernel_rfl) rfl #[.string a0, .int .i64 a1] rfl (by (try simp only [List.map_toArray, List.map_cons, List.map_nil]); first | done | rfl | (simp only [List.length_drop, List.length_take]; rfl)) ?_; (with_reducible refine (impl_CountWindows.calls k a0 a1 t213 t214 _ A5.out).mono ?_); rintro e w8 ⟨v215, rfl, ho0, hb⟩; refine ⟨_, rfl, ?_⟩; have n0_ := Aside0.mk (Kd.R_elder' (by (with_reducible repeat (first | apply Kd.R_alloc | apply Kd.R_drewN | apply Kd.R_drew)); exact HO212.out) (Kd.R_base ho0) hb); have n1_ := Aside0.mk (Kd.R_lower (Kd.R_new' ho0 (Kd.R_lt (by (with_reducible repeat (first | apply Kd.R_alloc | apply Kd.R_drewN | apply Kd.R_drew)); exact HO212.out))) (below_size (by repeat (first | (with_reducible first | exact HB.out | apply below_alloc | apply pw_below_drewN | apply below_drew1) | exact HB.out)))); have n2_ := Aside0.mk (below_step (by repeat (first | (with_reducible first | exact HB.out | apply below_alloc | apply pw_below_drewN | apply below_drew1) | exact HB.out)) hb); clear HO212; clear HB; have HO212 := n0_; have HO216 := n1_; have HB := n2_; clear n0_ n1_ n2_; (try clear hb); (try clear hb2); (try clear hk); (try clear hi); (try clear ho0)))
    (try simp only [Act.put, List.setIfInBounds_toArray, List.set_cons_zero, List.set_cons_succ])
    go_cut [36] (fun v36 wc => ∃ (kq : Nat) (x36_5 : Bool), v36 = .bool x36_5 ∧ Aside0 (laws_FnExactCountWindows.j0 kq a0 a1 t209 t210 t213 x36_5 = some r) ∧ Aside0 (kq ≤ k) ∧ Aside0 (Kd.R (Kd.int .i64) 2 wc w.heap.size (fun k_ => some k_ ≠ (v215 : Value).ownBlock) v211 t209) ∧ Aside0 (Kd.R (Kd.int .i64) 2 wc w.heap.size (fun k_ => some k_ ≠ (v211 : Value).ownBlock) v215 t213) ∧ Aside0 (Below w.heap.size w wc))
    case first =>
      have H := HC6.out
      clear HC6
      replace H := Option.bind_eq_some_iff.mp H
      obtain ⟨t217, A90, H⟩ := H
      replace H : (if t217 = true then (laws_FnExactCountWindows.j0 k a0 a1 t209 t210 t213 (t214 != t210)) else (laws_FnExactCountWindows.j0 k a0 a1 t209 t210 t213 true)) = some r := H
      have A9 := Aside0.mk A90
      clear A90
      by_cases c10 : t217 = true
      · subst c10
        have H1 : (laws_FnExactCountWindows.j0 k a0 a1 t209 t210 t213 (t214 != t210)) = some r := by rw [if_pos rfl] at H; exact H
        clear H
        have H := H1
        clear H1
        have H' := Aside0.mk H
        clear H
        obtain ⟨Ao11, co11, eo11⟩ := Kd.R_slice HO216.out
        subst eo11
        obtain ⟨Ao12, co12, eo12⟩ := Kd.R_slice HO212.out
        subst eo12
        go_wp2_with (first | ((with_reducible refine gate_callee (f := 24) rfl ?_); refine goesL_ (some 30) rfl rfl Tryd.func24 (by kernel_rfl) rfl #[.slice Ao11 t213.length co11, .slice Ao12 t209.length co12] rfl (by (try simp only [List.map_toArray, List.map_cons, List.map_nil]); first | done | rfl | (simp only [List.length_drop, List.length_take]; rfl)) ?_; (with_reducible refine (laws_eqInt64S.calls k _ _ t213 _ _ t209 true _ ?side1 ?side2 ?side3 ?side4 A9.out).mono ?_); (case side1 => repeat (first | exact (Kd.R_reads' HO216.out).2.2 | (with_reducible refine Kd.C_alloc ?_ _) | (with_reducible refine Kd.C_drewN ?_ _) | (with_reducible refine Kd.C_drew ?_))); (case side2 => exact (Kd.R_reads' HO216.out).2.1); (case side3 => repeat (first | exact (Kd.R_reads' HO212.out).2.2 | (with_reducible refine Kd.C_alloc ?_ _) | (with_reducible refine Kd.C_drewN ?_ _) | (with_reducible refine Kd.C_drew ?_))); (case side4 => exact (Kd.R_reads' HO212.out).2.1); rintro e w' ⟨rfl, ⟨nd, rfl⟩⟩; refine ⟨_, rfl, ?_⟩))
        go_meet
        case rel => exact ⟨_, ((t214 != t210)), (by first | rfl | (simp; done) | (simp [*]; done)), H', ⟨by first | omega | exact Nat.le_refl _⟩, ⟨by (with_reducible repeat (first | apply Kd.R_alloc | apply Kd.R_drewN | apply Kd.R_drew)); exact Kd.R_mono HO212.out (fun _ hk => hk.2)⟩, ⟨by (with_reducible repeat (first | apply Kd.R_alloc | apply Kd.R_drewN | apply Kd.R_drew)); exact Kd.R_mono HO216.out (fun _ hk => hk.2)⟩, ⟨by repeat (first | (with_reducible first | exact HB.out | apply below_alloc | apply pw_below_drewN | apply below_drew1) | exact HB.out)⟩⟩
      · replace c10 := Bool.eq_false_iff.mpr c10
        subst c10
        have H1 : (laws_FnExactCountWindows.j0 k a0 a1 t209 t210 t213 true) = some r := by rw [if_neg (show ¬ (false = true) by decide)] at H; exact H
        clear H
        have H := H1
        clear H1
        have H' := Aside0.mk H
        clear H
        obtain ⟨Ao13, co13, eo13⟩ := Kd.R_slice HO216.out
        subst eo13
        obtain ⟨Ao14, co14, eo14⟩ := Kd.R_slice HO212.out
        subst eo14
        go_wp2_with (first | ((with_reducible refine gate_callee (f := 24) rfl ?_); refine goesL_ (some 30) rfl rfl Tryd.func24 (by kernel_rfl) rfl #[.slice Ao13 t213.length co13, .slice Ao14 t209.length co14] rfl (by (try simp only [List.map_toArray, List.map_cons, List.map_nil]); first | done | rfl | (simp only [List.length_drop, List.length_take]; rfl)) ?_; (with_reducible refine (laws_eqInt64S.calls k _ _ t213 _ _ t209 false _ ?side1 ?side2 ?side3 ?side4 A9.out).mono ?_); (case side1 => repeat (first | exact (Kd.R_reads' HO216.out).2.2 | (with_reducible refine Kd.C_alloc ?_ _) | (with_reducible refine Kd.C_drewN ?_ _) | (with_reducible refine Kd.C_drew ?_))); (case side2 => exact (Kd.R_reads' HO216.out).2.1); (case side3 => repeat (first | exact (Kd.R_reads' HO212.out).2.2 | (with_reducible refine Kd.C_alloc ?_ _) | (with_reducible refine Kd.C_drewN ?_ _) | (with_reducible refine Kd.C_drew ?_))); (case side4 => exact (Kd.R_reads' HO212.out).2.1); rintro e w' ⟨rfl, ⟨nd, rfl⟩⟩; refine ⟨_, rfl, ?_⟩))
        go_meet
        case rel => exact ⟨_, (true), (by first | rfl | (simp; done) | (simp [*]; done)), H', ⟨by first | omega | exact Nat.le_refl _⟩, ⟨by (with_reducible repeat (first | apply Kd.R_alloc | apply Kd.R_drewN | apply Kd.R_drew)); exact Kd.R_mono HO212.out (fun _ hk => hk.2)⟩, ⟨by (with_reducible repeat (first | apply Kd.R_alloc | apply Kd.R_drewN | apply Kd.R_drew)); exact Kd.R_mono HO216.out (fun _ hk => hk.2)⟩, ⟨by repeat (first | (with_reducible first | exact HB.out | apply below_alloc | apply pw_below_drewN | apply below_drew1) | exact HB.out)⟩⟩
    case rest =>
      clear HC6
      try clear c1
      try clear c2
      try clear p2
      try clear c3
      try clear c3b0
      try clear c3b1
      try clear c8
      try clear c10
      obtain ⟨kq, x36_5, rfl, HA, HJ5, HO_5, HO_7, HB⟩ := hcut
      cases kq with
      | zero => exact absurd HA.out (by simp [laws_FnExactCountWindows.j0])
      | succ kj5 =>
        have H := HA.out
        clear HA
        simp only [laws_FnExactCountWindows.j0] at H
        by_cases c15 : x36_5 = true
        · subst c15
          have H1 : (some false) = some r := by rw [if_pos rfl] at H; exact H
          clear H
          have H := H1
          clear H1
          obtain rfl := Option.some.inj H
          go_wp2
          go_ret
          exact ⟨by first | rfl | (simp [errW_none, errW_some] <;> rfl) | (simp [*, errW_none, errW_some] <;> rfl), by repeat (first | (with_reducible first | exact HB.out | apply below_alloc | apply pw_below_drewN | apply below_drew1) | exact HB.out)⟩
        · replace c15 := Bool.eq_false_iff.mpr c15
          subst c15
          have H1 : ((laws_markInt64S.f kj5 t213 1).bind fun bt218 => ((laws_heldInt64S.f kj5 bt218.2 1).bind fun t220 => (if t220 < 0 then (some false) else (if t220 = bt218.1 then ((impl_CountWindows.f kj5 a0 a1).bind fun bt221 => ((laws_eqInt64S.f kj5 bt221.1 t209).bind fun t225 => (if t225 = true then (laws_FnExactCountWindows.j1 kj5 bt218.2 bt218.1 (bt221.2 != t210)) else (laws_FnExactCountWindows.j1 kj5 bt218.2 bt218.1 true)))) else (some false))))) = some r := by rw [if_neg (show ¬ (false = true) by decide)] at H; exact H
          clear H
          have H := H1
          clear H1
          replace H := Option.bind_eq_some_iff.mp H
          obtain ⟨⟨t218, t219⟩, A160, H⟩ := H
          replace H : ((laws_heldInt64S.f kj5 t219 1).bind fun t220 => (if t220 < 0 then (some false) else (if t220 = t218 then ((impl_CountWindows.f kj5 a0 a1).bind fun bt221 => ((laws_eqInt64S.f kj5 bt221.1 t209).bind fun t225 => (if t225 = true then (laws_FnExactCountWindows.j1 kj5 t219 t218 (bt221.2 != t210)) else (laws_FnExactCountWindows.j1 kj5 t219 t218 true)))) else (some false)))) = some r := H
          have A16 := Aside0.mk A160
          clear A160
          replace H := Option.bind_eq_some_iff.mp H
          obtain ⟨t220, A170, H⟩ := H
          replace H : (if t220 < 0 then (some false) else (if t220 = t218 then ((impl_CountWindows.f kj5 a0 a1).bind fun bt221 => ((laws_eqInt64S.f kj5 bt221.1 t209).bind fun t225 => (if t225 = true then (laws_FnExactCountWindows.j1 kj5 t219 t218 (bt221.2 != t210)) else (laws_FnExactCountWindows.j1 kj5 t219 t218 true)))) else (some false))) = some r := H
          have A17 := Aside0.mk A170
          clear A170
          by_cases c18 : t220 < 0
          · rw [if_pos c18] at H
            have c18b0 : decide (t220 < 0) = true := decide_eq_true c18
            clear c18
            obtain rfl := Option.some.inj H
            obtain ⟨Ao19, co19, eo19⟩ := Kd.R_slice HO_7.out
            subst eo19
            go_wp2_with (first | ((with_reducible refine gate_callee (f := 25) rfl ?_); refine goesL_ (some 39) rfl rfl Tryd.func25 (by kernel_rfl) rfl #[.slice Ao19 t213.length co19, .int .i64 1] rfl (by (try simp only [List.map_toArray, List.map_cons, List.map_nil]); first | done | rfl | (simp only [List.length_drop, List.length_take]; rfl)) ?_; (with_reducible refine (laws_markInt64S.calls kj5 (fun k_ => some k_ = (.slice Ao19 t213.length co19 : Value).ownBlock) (.slice Ao19 t213.length co19) t213 1 t218 t219 w _ ?side1 ?side2 A16.out).mono ?_); (case side1 => repeat (first | (with_reducible first | exact HB.out | apply below_alloc | apply pw_below_drewN | apply below_drew1) | exact HB.out)); (case side2 => exact Kd.R_tight rfl HO_7.out); rintro e w20 ⟨rfl, hy0, hb, hkp⟩; refine ⟨_, rfl, ?_⟩; have n0_ := Aside0.mk (Kd.R_mono (ok' := fun k_ => some k_ ≠ (.slice Ao19 t213.length co19 : Value).ownBlock) (Kd.R_keptB (HO_5.out) hkp (fun k_ hk_ hs_ => (hk_) hs_)) (fun k_ hk_ => hk_.1)); have n1_ := Aside0.mk (Kd.R_reok rfl hy0 (fun k_ e_ => HO_7.out.1 k_ e_)); have n2_ := Aside0.mk (hb); clear HO_5; clear HO_7; clear HB; have HO_5 := n0_; have HO_7 := n1_; have HB := n2_; clear n0_ n1_ n2_; (try clear hb); (try clear hkp); (try clear hy0)) | ((with_reducible refine gate_callee (f := 26) rfl ?_); refine goesL_ (some 42) rfl rfl Tryd.func26 (by kernel_rfl) rfl #[.slice Ao19 t219.length co19, .int .i64 1] rfl (by (try simp only [List.map_toArray, List.map_cons, List.map_nil]); first | done | (rw [show t219.length = t213.length from (Kd.R_reads' HO_7.out).1.symm] <;> rfl) | rfl | (simp only [List.length_drop, List.length_take]; rfl)) ?_; (with_reducible refine (laws_heldInt64S.calls kj5 _ _ t219 1 t220 _ ?side1 ?side2 A17.out).mono ?_); (case side1 => repeat (first | exact (Kd.R_reads' HO_7.out).2.2 | (with_reducible refine Kd.C_alloc ?_ _) | (with_reducible refine Kd.C_drewN ?_ _) | (with_reducible refine Kd.C_drew ?_))); (case side2 => rw [show t219.length = t213.length from (Kd.R_reads' HO_7.out).1.symm]; exact (Kd.R_reads' HO_7.out).2.1); rintro e w' ⟨rfl, ⟨nd, rfl⟩⟩; refine ⟨_, rfl, ?_⟩))
            go_ret
            exact ⟨by first | rfl | (simp [errW_none, errW_some] <;> rfl) | (simp [*, errW_none, errW_some] <;> rfl), by repeat (first | (with_reducible first | exact HB.out | apply below_alloc | apply pw_below_drewN | apply below_drew1) | exact HB.out)⟩
          · rw [if_neg c18] at H
            have c18b0 : decide (t220 < 0) = false := decide_eq_false c18
            clear c18
            by_cases c21 : t220 = t218
            · rw [if_pos c21] at H
              have c21b0 : (t220 == t218) = true := beq_iff_eq.mpr c21
              have c21b1 : (t220 != t218) = false := bne_eq_false_iff_eq.mpr c21
              clear c21
              replace H := Option.bind_eq_some_iff.mp H
              obtain ⟨⟨t221, t222⟩, A220, H⟩ := H
              replace H : ((laws_eqInt64S.f kj5 t221 t209).bind fun t225 => (if t225 = true then (laws_FnExactCountWindows.j1 kj5 t219 t218 (t222 != t210)) else (laws_FnExactCountWindows.j1 kj5 t219 t218 true))) = some r := H
              have A22 := Aside0.mk A220
              clear A220
              have HC23 := Aside0.mk H
              clear H
              obtain ⟨Ao24, co24, eo24⟩ := Kd.R_slice HO_7.out
              subst eo24
              go_upto_region 16 with (first | ((with_reducible refine gate_callee (f := 25) rfl ?_); refine goesL_ (some 39) rfl rfl Tryd.func25 (by kernel_rfl) rfl #[.slice Ao24 t213.length co24, .int .i64 1] rfl (by (try simp only [List.map_toArray, List.map_cons, List.map_nil]); first | done | rfl | (simp only [List.length_drop, List.length_take]; rfl)) ?_; (with_reducible refine (laws_markInt64S.calls kj5 (fun k_ => some k_ = (.slice Ao24 t213.length co24 : Value).ownBlock) (.slice Ao24 t213.length co24) t213 1 t218 t219 w _ ?side1 ?side2 A16.out).mono ?_); (case side1 => repeat (first | (with_reducible first | exact HB.out | apply below_alloc | apply pw_below_drewN | apply below_drew1) | exact HB.out)); (case side2 => exact Kd.R_tight rfl HO_7.out); rintro e w25 ⟨rfl, hy0, hb, hkp⟩; refine ⟨_, rfl, ?_⟩; have n0_ := Aside0.mk (Kd.R_mono (ok' := fun k_ => some k_ ≠ (.slice Ao24 t213.length co24 : Value).ownBlock) (Kd.R_keptB (HO_5.out) hkp (fun k_ hk_ hs_ => (hk_) hs_)) (fun k_ hk_ => hk_.1)); have n1_ := Aside0.mk (Kd.R_reok rfl hy0 (fun k_ e_ => HO_7.out.1 k_ e_)); have n2_ := Aside0.mk (hb); clear HO_5; clear HO_7; clear HB; have HO_5 := n0_; have HO_7 := n1_; have HB := n2_; clear n0_ n1_ n2_; (try clear hb); (try clear hkp); (try clear hy0)) | ((with_reducible refine gate_callee (f := 26) rfl ?_); refine goesL_ (some 42) rfl rfl Tryd.func26 (by kernel_rfl) rfl #[.slice Ao24 t219.length co24, .int .i64 1] rfl (by (try simp only [List.map_toArray, List.map_cons, List.map_nil]); first | done | (rw [show t219.length = t213.length from (Kd.R_reads' HO_7.out).1.symm] <;> rfl) | rfl | (simp only [List.length_drop, List.length_take]; rfl)) ?_; (with_reducible refine (laws_heldInt64S.calls kj5 _ _ t219 1 t220 _ ?side1 ?side2 A17.out).mono ?_); (case side1 => repeat (first | exact (Kd.R_reads' HO_7.out).2.2 | (with_reducible refine Kd.C_alloc ?_ _) | (with_reducible refine Kd.C_drewN ?_ _) | (with_reducible refine Kd.C_drew ?_))); (case side2 => rw [show t219.length = t213.length from (Kd.R_reads' HO_7.out).1.symm]; exact (Kd.R_reads' HO_7.out).2.1); rintro e w' ⟨rfl, ⟨nd, rfl⟩⟩; refine ⟨_, rfl, ?_⟩) | ((with_reducible refine gate_callee (f := 28) rfl ?_); refine goesL_ (some 51) rfl rfl Tryd.func28 (by kernel_rfl) rfl #[.string a0, .int .i64 a1] rfl (by (try simp only [List.map_toArray, List.map_cons, List.map_nil]); first | done | rfl | (simp only [List.length_drop, List.length_take]; rfl)) ?_; (with_reducible refine (impl_CountWindows.calls kj5 a0 a1 t221 t222 _ A22.out).mono ?_); rintro e w26 ⟨v223, rfl, ho0, hb⟩; refine ⟨_, rfl, ?_⟩; have n0_ := Aside0.mk (Kd.R_elder' (by (with_reducible repeat (first | apply Kd.R_alloc | apply Kd.R_drewN | apply Kd.R_drew)); exact HO_5.out) (Kd.R_base ho0) hb); have n1_ := Aside0.mk (Kd.R_elder' (by (with_reducible repeat (first | apply Kd.R_alloc | apply Kd.R_drewN | apply Kd.R_drew)); exact HO_7.out) (Kd.R_base ho0) hb); have n2_ := Aside0.mk (Kd.R_lower (Kd.R_new' (Kd.R_new' ho0 (Kd.R_lt (by (with_reducible repeat (first | apply Kd.R_alloc | apply Kd.R_drewN | apply Kd.R_drew)); exact HO_5.out))) (Kd.R_lt (by (with_reducible repeat (first | apply Kd.R_alloc | apply Kd.R_drewN | apply Kd.R_drew)); exact HO_7.out))) (below_size (by repeat (first | (with_reducible first | exact HB.out | apply below_alloc | apply pw_below_drewN | apply below_drew1) | exact HB.out)))); have n3_ := Aside0.mk (below_step (by repeat (first | (with_reducible first | exact HB.out | apply below_alloc | apply pw_below_drewN | apply below_drew1) | exact HB.out)) hb); clear HO_5; clear HO_7; clear HB; have HO_5 := n0_; have HO_7 := n1_; have HO224 := n2_; have HB := n3_; clear n0_ n1_ n2_ n3_; (try clear hb); (try clear hb2); (try clear hk); (try clear hi); (try clear ho0)))
              (try simp only [Act.put, List.setIfInBounds_toArray, List.set_cons_zero, List.set_cons_succ])
              go_cut [62] (fun v62 wc => ∃ (kq : Nat) (x62_22 : Bool), v62 = .bool x62_22 ∧ Aside0 (laws_FnExactCountWindows.j1 kq t219 t218 x62_22 = some r) ∧ Aside0 (kq ≤ kj5) ∧ Aside0 (Kd.R (Kd.int .i64) 2 wc w.heap.size (fun _ => True) (.slice Ao24 t213.length co24) t219) ∧ Aside0 (Below w.heap.size w wc))
              case first =>
                have H := HC23.out
                clear HC23
                replace H := Option.bind_eq_some_iff.mp H
                obtain ⟨t225, A270, H⟩ := H
                replace H : (if t225 = true then (laws_FnExactCountWindows.j1 kj5 t219 t218 (t222 != t210)) else (laws_FnExactCountWindows.j1 kj5 t219 t218 true)) = some r := H
                have A27 := Aside0.mk A270
                clear A270
                by_cases c28 : t225 = true
                · subst c28
                  have H1 : (laws_FnExactCountWindows.j1 kj5 t219 t218 (t222 != t210)) = some r := by rw [if_pos rfl] at H; exact H
                  clear H
                  have H := H1
                  clear H1
                  have H' := Aside0.mk H
                  clear H
                  obtain ⟨Ao29, co29, eo29⟩ := Kd.R_slice HO224.out
                  subst eo29
                  obtain ⟨Ao30, co30, eo30⟩ := Kd.R_slice HO_5.out
                  subst eo30
                  go_wp2_with (first | ((with_reducible refine gate_callee (f := 24) rfl ?_); refine goesL_ (some 56) rfl rfl Tryd.func24 (by kernel_rfl) rfl #[.slice Ao29 t221.length co29, .slice Ao30 t209.length co30] rfl (by (try simp only [List.map_toArray, List.map_cons, List.map_nil]); first | done | rfl | (simp only [List.length_drop, List.length_take]; rfl)) ?_; (with_reducible refine (laws_eqInt64S.calls kj5 _ _ t221 _ _ t209 true _ ?side1 ?side2 ?side3 ?side4 A27.out).mono ?_); (case side1 => repeat (first | exact (Kd.R_reads' HO224.out).2.2 | (with_reducible refine Kd.C_alloc ?_ _) | (with_reducible refine Kd.C_drewN ?_ _) | (with_reducible refine Kd.C_drew ?_))); (case side2 => exact (Kd.R_reads' HO224.out).2.1); (case side3 => repeat (first | exact (Kd.R_reads' HO_5.out).2.2 | (with_reducible refine Kd.C_alloc ?_ _) | (with_reducible refine Kd.C_drewN ?_ _) | (with_reducible refine Kd.C_drew ?_))); (case side4 => exact (Kd.R_reads' HO_5.out).2.1); rintro e w' ⟨rfl, ⟨nd, rfl⟩⟩; refine ⟨_, rfl, ?_⟩))
                  go_meet
                  case rel => exact ⟨_, ((t222 != t210)), (by first | rfl | (simp; done) | (simp [*]; done)), H', ⟨by have := HJ5.out; first | omega | exact Nat.le_refl _⟩, ⟨by (with_reducible repeat (first | apply Kd.R_alloc | apply Kd.R_drewN | apply Kd.R_drew)); exact Kd.R_mono HO_7.out (fun _ hk => trivial)⟩, ⟨by repeat (first | (with_reducible first | exact HB.out | apply below_alloc | apply pw_below_drewN | apply below_drew1) | exact HB.out)⟩⟩
                · replace c28 := Bool.eq_false_iff.mpr c28
                  subst c28
                  have H1 : (laws_FnExactCountWindows.j1 kj5 t219 t218 true) = some r := by rw [if_neg (show ¬ (false = true) by decide)] at H; exact H
                  clear H
                  have H := H1
                  clear H1
                  have H' := Aside0.mk H
                  clear H
                  obtain ⟨Ao31, co31, eo31⟩ := Kd.R_slice HO224.out
                  subst eo31
                  obtain ⟨Ao32, co32, eo32⟩ := Kd.R_slice HO_5.out
                  subst eo32
                  go_wp2_with (first | ((with_reducible refine gate_callee (f := 24) rfl ?_); refine goesL_ (some 56) rfl rfl Tryd.func24 (by kernel_rfl) rfl #[.slice Ao31 t221.length co31, .slice Ao32 t209.length co32] rfl (by (try simp only [List.map_toArray, List.map_cons, List.map_nil]); first | done | rfl | (simp only [List.length_drop, List.length_take]; rfl)) ?_; (with_reducible refine (laws_eqInt64S.calls kj5 _ _ t221 _ _ t209 false _ ?side1 ?side2 ?side3 ?side4 A27.out).mono ?_); (case side1 => repeat (first | exact (Kd.R_reads' HO224.out).2.2 | (with_reducible refine Kd.C_alloc ?_ _) | (with_reducible refine Kd.C_drewN ?_ _) | (with_reducible refine Kd.C_drew ?_))); (case side2 => exact (Kd.R_reads' HO224.out).2.1); (case side3 => repeat (first | exact (Kd.R_reads' HO_5.out).2.2 | (with_reducible refine Kd.C_alloc ?_ _) | (with_reducible refine Kd.C_drewN ?_ _) | (with_reducible refine Kd.C_drew ?_))); (case side4 => exact (Kd.R_reads' HO_5.out).2.1); rintro e w' ⟨rfl, ⟨nd, rfl⟩⟩; refine ⟨_, rfl, ?_⟩))
                  go_meet
                  case rel => exact ⟨_, (true), (by first | rfl | (simp; done) | (simp [*]; done)), H', ⟨by have := HJ5.out; first | omega | exact Nat.le_refl _⟩, ⟨by (with_reducible repeat (first | apply Kd.R_alloc | apply Kd.R_drewN | apply Kd.R_drew)); exact Kd.R_mono HO_7.out (fun _ hk => trivial)⟩, ⟨by repeat (first | (with_reducible first | exact HB.out | apply below_alloc | apply pw_below_drewN | apply below_drew1) | exact HB.out)⟩⟩
              case rest =>
                clear HC23
                try clear c1
                try clear c2
                try clear p2
                try clear c3
                try clear c3b0
                try clear c3b1
                try clear c8
                try clear c10
                try clear c15
                try clear c18
                try clear c18b0
                try clear c21
                try clear c21b0
                try clear c21b1
                try clear c24
                try clear c25
                try clear c26
                try clear c27
                try clear c28
                try clear p2
                obtain ⟨kq, x62_22, rfl, HA, HJ22, HO_7, HB⟩ := hcut
                have hl7_22 := (Kd.R_reads' HO_7.out).1
                rw [hl7_22] at HO_7
                (try simp only [hl7_22])
                cases kq with
                | zero => exact absurd HA.out (by simp [laws_FnExactCountWindows.j1])
                | succ kj22 =>
                  have H := HA.out
                  clear HA
                  simp only [laws_FnExactCountWindows.j1] at H
                  by_cases c33 : x62_22 = true
                  · subst c33
                    have H1 : (some false) = some r := by rw [if_pos rfl] at H; exact H
                    clear H
                    have H := H1
                    clear H1
                    obtain rfl := Option.some.inj H
                    go_wp2
                    go_ret
                    exact ⟨by first | rfl | (simp [errW_none, errW_some] <;> rfl) | (simp [*, errW_none, errW_some] <;> rfl), by repeat (first | (with_reducible first | exact HB.out | apply below_alloc | apply pw_below_drewN | apply below_drew1) | exact HB.out)⟩
                  · replace c33 := Bool.eq_false_iff.mpr c33
                    subst c33
                    have H1 : ((laws_heldInt64S.f kj22 t219 1).bind fun t226 => (if t226 < 0 then (some false) else (if t226 = t218 then (some true) else (some false)))) = some r := by rw [if_neg (show ¬ (false = true) by decide)] at H; exact H
                    clear H
                    have H := H1
                    clear H1
                    replace H := Option.bind_eq_some_iff.mp H
                    obtain ⟨t226, A340, H⟩ := H
                    replace H : (if t226 < 0 then (some false) else (if t226 = t218 then (some true) else (some false))) = some r := H
                    have A34 := Aside0.mk A340
                    clear A340
                    by_cases c35 : t226 < 0
                    · rw [if_pos c35] at H
                      have c35b0 : decide (t226 < 0) = true := decide_eq_true c35
                      clear c35
                      obtain rfl := Option.some.inj H
                      go_wp2_with (first | ((with_reducible refine gate_callee (f := 26) rfl ?_); refine goesL_ (some 65) rfl rfl Tryd.func26 (by kernel_rfl) rfl #[.slice Ao24 t219.length co24, .int .i64 1] rfl (by (try simp only [List.map_toArray, List.map_cons, List.map_nil]); first | done | rfl | (simp only [List.length_drop, List.length_take]; rfl)) ?_; (with_reducible refine (laws_heldInt64S.calls kj22 _ _ t219 1 t226 _ ?side1 ?side2 A34.out).mono ?_); (case side1 => repeat (first | exact (Kd.R_reads' HO_7.out).2.2 | (with_reducible refine Kd.C_alloc ?_ _) | (with_reducible refine Kd.C_drewN ?_ _) | (with_reducible refine Kd.C_drew ?_))); (case side2 => exact (Kd.R_reads' HO_7.out).2.1); rintro e w' ⟨rfl, ⟨nd, rfl⟩⟩; refine ⟨_, rfl, ?_⟩))
                      go_ret
                      exact ⟨by first | rfl | (simp [errW_none, errW_some] <;> rfl) | (simp [*, errW_none, errW_some] <;> rfl), by repeat (first | (with_reducible first | exact HB.out | apply below_alloc | apply pw_below_drewN | apply below_drew1) | exact HB.out)⟩
                    · rw [if_neg c35] at H
                      have c35b0 : decide (t226 < 0) = false := decide_eq_false c35
                      clear c35
                      by_cases c36 : t226 = t218
                      · rw [if_pos c36] at H
                        have c36b0 : (t226 == t218) = true := beq_iff_eq.mpr c36
                        have c36b1 : (t226 != t218) = false := bne_eq_false_iff_eq.mpr c36
                        clear c36
                        obtain rfl := Option.some.inj H
                        go_wp2_with (first | ((with_reducible refine gate_callee (f := 26) rfl ?_); refine goesL_ (some 65) rfl rfl Tryd.func26 (by kernel_rfl) rfl #[.slice Ao24 t219.length co24, .int .i64 1] rfl (by (try simp only [List.map_toArray, List.map_cons, List.map_nil]); first | done | rfl | (simp only [List.length_drop, List.length_take]; rfl)) ?_; (with_reducible refine (laws_heldInt64S.calls kj22 _ _ t219 1 t226 _ ?side1 ?side2 A34.out).mono ?_); (case side1 => repeat (first | exact (Kd.R_reads' HO_7.out).2.2 | (with_reducible refine Kd.C_alloc ?_ _) | (with_reducible refine Kd.C_drewN ?_ _) | (with_reducible refine Kd.C_drew ?_))); (case side2 => exact (Kd.R_reads' HO_7.out).2.1); rintro e w' ⟨rfl, ⟨nd, rfl⟩⟩; refine ⟨_, rfl, ?_⟩))
                        go_ret
                        exact ⟨by first | rfl | (simp [errW_none, errW_some] <;> rfl) | (simp [*, errW_none, errW_some] <;> rfl), by repeat (first | (with_reducible first | exact HB.out | apply below_alloc | apply pw_below_drewN | apply below_drew1) | exact HB.out)⟩
                      · rw [if_neg c36] at H
                        have c36b0 : (t226 == t218) = false := beq_eq_false_iff_ne.mpr c36
                        have c36b1 : (t226 != t218) = true := bne_iff_ne.mpr c36
                        obtain rfl := Option.some.inj H
                        go_wp2_with (first | ((with_reducible refine gate_callee (f := 26) rfl ?_); refine goesL_ (some 65) rfl rfl Tryd.func26 (by kernel_rfl) rfl #[.slice Ao24 t219.length co24, .int .i64 1] rfl (by (try simp only [List.map_toArray, List.map_cons, List.map_nil]); first | done | rfl | (simp only [List.length_drop, List.length_take]; rfl)) ?_; (with_reducible refine (laws_heldInt64S.calls kj22 _ _ t219 1 t226 _ ?side1 ?side2 A34.out).mono ?_); (case side1 => repeat (first | exact (Kd.R_reads' HO_7.out).2.2 | (with_reducible refine Kd.C_alloc ?_ _) | (with_reducible refine Kd.C_drewN ?_ _) | (with_reducible refine Kd.C_drew ?_))); (case side2 => exact (Kd.R_reads' HO_7.out).2.1); rintro e w' ⟨rfl, ⟨nd, rfl⟩⟩; refine ⟨_, rfl, ?_⟩))
                        go_ret
                        exact ⟨by first | rfl | (simp [errW_none, errW_some] <;> rfl) | (simp [*, errW_none, errW_some] <;> rfl), by repeat (first | (with_reducible first | exact HB.out | apply below_alloc | apply pw_below_drewN | apply below_drew1) | exact HB.out)⟩
            · rw [if_neg c21] at H
              have c21b0 : (t220 == t218) = false := beq_eq_false_iff_ne.mpr c21
              have c21b1 : (t220 != t218) = true := bne_iff_ne.mpr c21
              obtain rfl := Option.some.inj H
              obtain ⟨Ao37, co37, eo37⟩ := Kd.R_slice HO_7.out
              subst eo37
              go_wp2_with (first | ((with_reducible refine gate_callee (f := 25) rfl ?_); refine goesL_ (some 39) rfl rfl Tryd.func25 (by kernel_rfl) rfl #[.slice Ao37 t213.length co37, .int .i64 1] rfl (by (try simp only [List.map_toArray, List.map_cons, List.map_nil]); first | done | rfl | (simp only [List.length_drop, List.length_take]; rfl)) ?_; (with_reducible refine (laws_markInt64S.calls kj5 (fun k_ => some k_ = (.slice Ao37 t213.length co37 : Value).ownBlock) (.slice Ao37 t213.length co37) t213 1 t218 t219 w _ ?side1 ?side2 A16.out).mono ?_); (case side1 => repeat (first | (with_reducible first | exact HB.out | apply below_alloc | apply pw_below_drewN | apply below_drew1) | exact HB.out)); (case side2 => exact Kd.R_tight rfl HO_7.out); rintro e w38 ⟨rfl, hy0, hb, hkp⟩; refine ⟨_, rfl, ?_⟩; have n0_ := Aside0.mk (Kd.R_mono (ok' := fun k_ => some k_ ≠ (.slice Ao37 t213.length co37 : Value).ownBlock) (Kd.R_keptB (HO_5.out) hkp (fun k_ hk_ hs_ => (hk_) hs_)) (fun k_ hk_ => hk_.1)); have n1_ := Aside0.mk (Kd.R_reok rfl hy0 (fun k_ e_ => HO_7.out.1 k_ e_)); have n2_ := Aside0.mk (hb); clear HO_5; clear HO_7; clear HB; have HO_5 := n0_; have HO_7 := n1_; have HB := n2_; clear n0_ n1_ n2_; (try clear hb); (try clear hkp); (try clear hy0)) | ((with_reducible refine gate_callee (f := 26) rfl ?_); refine goesL_ (some 42) rfl rfl Tryd.func26 (by kernel_rfl) rfl #[.slice Ao37 t219.length co37, .int .i64 1] rfl (by (try simp only [List.map_toArray, List.map_cons, List.map_nil]); first | done | (rw [show t219.length = t213.length from (Kd.R_reads' HO_7.out).1.symm] <;> rfl) | rfl | (simp only [List.length_drop, List.length_take]; rfl)) ?_; (with_reducible refine (laws_heldInt64S.calls kj5 _ _ t219 1 t220 _ ?side1 ?side2 A17.out).mono ?_); (case side1 => repeat (first | exact (Kd.R_reads' HO_7.out).2.2 | (with_reducible refine Kd.C_alloc ?_ _) | (with_reducible refine Kd.C_drewN ?_ _) | (with_reducible refine Kd.C_drew ?_))); (case side2 => rw [show t219.length = t213.length from (Kd.R_reads' HO_7.out).1.symm]; exact (Kd.R_reads' HO_7.out).2.1); rintro e w' ⟨rfl, ⟨nd, rfl⟩⟩; refine ⟨_, rfl, ?_⟩))
              go_ret
              exact ⟨by first | rfl | (simp [errW_none, errW_some] <;> rfl) | (simp [*, errW_none, errW_some] <;> rfl), by repeat (first | (with_reducible first | exact HB.out | apply below_alloc | apply pw_below_drewN | apply below_drew1) | exact HB.out)⟩

/-- THE ONE PURE STATEMENT of laws_FnExactCountWindows: yours. -/
def laws_FnExactCountWindows.Pure : Prop := ∀ (a0 : ByteArray) (a1 : Int), a0.size ≤ 140737488351232 → (Lit.int .i64 a1).wf = true → ∃ k, laws_FnExactCountWindows.f k a0 a1 = some true
theorem laws_FnExactCountWindows.walk (P : laws_FnExactCountWindows.Pure) (a0 : ByteArray) (a1 : Int) (w : World) (w0 : a0.size ≤ 140737488351232) (w1 : (Lit.int .i64 a1).wf = true) :
    Calls Tryd.prog 8 #[.string a0, .int .i64 a1] w fun e w' => e = .returned (.bool true) ∧ Below w.heap.size w w' := by
  obtain ⟨k, h⟩ := P a0 a1 w0 w1
  refine (laws_FnExactCountWindows.calls k a0 a1 true w h).mono ?_
  rintro e w' ⟨rfl, hd⟩
  exact ⟨rfl, hd⟩

end Go.Proofs.YtcpfkfaiakpfjaaDoor.X

/- Windows over a wave: the plain laws of WindowRange, CountWindows and Timeouts. Conditions: as each lemma says. -/
namespace Go.Proofs.YtcpfkfaiakpfjaaDoor.X
open Go.RowKit Go.Proofs.YtcpfkfaiakpfjaaDoorW.PrintWords Go.Proofs.YtcpfkfaiakpfjaaDoorW.PrintLast Go.Proofs.YtcpfkfaiakpfjaaDoorW.PrintMore
set_option linter.unusedVariables false
set_option linter.unusedSimpArgs false

theorem edg_len' (s : ByteArray) (c : Int) : (edg s c s.size).length ≤ s.size := edg_len s c s.size
/-- How many of the first numbers of a list lie in a window. -/
def upsN (l : List Int) (a b : Int) : Nat → Int
  | 0 => 0
  | i + 1 => if a ≤ rd l i ∧ rd l i < b then upsN l a b i + 1 else upsN l a b i
theorem upsN_rng (l : List Int) (a b : Int) : ∀ i : Nat, 0 ≤ upsN l a b i ∧ upsN l a b i ≤ i
  | 0 => by simp [upsN]
  | i + 1 => by
    have := upsN_rng l a b i
    unfold upsN
    split <;> omega
theorem ups_loops (l : List Int) (a b : Int) (hl : l.length ≤ 1000) (hb : -1000000 ≤ b) (hb2 : b ≤ 1000000) : ∀ (d k i : Nat), i + d = l.length → d < k →
    impl_upsIn.l0 k a b (upsN l a b i) l l.length i = some (upsN l a b l.length) ∧ spec_l09Ups.l0 k a b (upsN l a b i) l i = some (upsN l a b l.length)
  | 0, k, i, hi, hk => by
    cases k with
    | zero => omega
    | succ k =>
      constructor
      · rw [impl_upsIn.l0, if_neg (by omega), show i = l.length by omega]
      · rw [spec_l09Ups.l0, if_neg (by omega), show i = l.length by omega]
  | d + 1, k, i, hi, hk => by
    cases k with
    | zero => omega
    | succ k =>
      have ih := ups_loops l a b hl hb hb2 d k (i + 1) (by omega) (by omega)
      have hr := upsN_rng l a b i
      rw [upsN, Int.natCast_add, Int.natCast_one] at ih
      constructor
      · rw [impl_upsIn.l0, if_pos (by omega), if_pos (by omega), if_pos (by omega), w64 (n := b - 1) (by omega) (by omega), within_eq, Option.bind_some, w64 (n := (i : Int) + 1) (by omega) (by omega), w64 (n := upsN l a b i + 1) (by omega) (by omega)]
        by_cases h : a ≤ rd l i ∧ rd l i < b
        · rw [if_pos h] at ih
          rw [decide_eq_true (by omega), if_pos rfl]; exact ih.1
        · rw [if_neg h] at ih
          rw [decide_eq_false (by omega), if_neg (by decide)]; exact ih.1
      · rw [spec_l09Ups.l0, if_pos (by omega), if_pos (by omega), w64 (n := (i : Int) + 1) (by omega) (by omega), w64 (n := upsN l a b i + 1) (by omega) (by omega)]
        by_cases h : a ≤ rd l i ∧ rd l i < b
        · rw [if_pos h] at ih
          rw [if_pos h.1, if_pos h.2]; exact ih.2
        · rw [if_neg h] at ih
          by_cases h1 : rd l i ≥ a
          · rw [if_pos h1, if_neg (by omega)]; exact ih.2
          · rw [if_neg h1]; exact ih.2
theorem upsIn_eq (k : Nat) (l : List Int) (a b : Int) (hl : l.length ≤ 1000) (hb : -1000000 ≤ b) (hb2 : b ≤ 1000000) (hk : l.length < k) : impl_upsIn.f k l a b = some (upsN l a b l.length) := by
  unfold impl_upsIn.f
  have := (ups_loops l a b hl hb hb2 l.length k 0 (by omega) hk).1
  simpa [upsN] using this
theorem l09Ups_eq (k : Nat) (s : ByteArray) (a b : Int) (hs : s.size ≤ 400) (hb : -1000000 ≤ b) (hb2 : b ≤ 1000000) (hk : 400 < k) : spec_l09Ups.f k s a b = some (upsN (edg s 49 s.size) a b (edg s 49 s.size).length) := by
  unfold spec_l09Ups.f
  have hl := edg_len' s 49
  rw [edges_eq k s 49 (by omega) (by omega), Option.bind_some]
  have := (ups_loops (edg s 49 s.size) a b (by omega) hb hb2 (edg s 49 s.size).length k 0 (by omega) (by omega)).2
  simpa [upsN] using this
theorem isFilter_eq (s : ByteArray) (a : Int) (hs : s.size ≤ 140737488351232) : impl_isFilter.f s a = some (isW s && decide (1 ≤ a ∧ a ≤ 50)) := by
  unfold impl_isFilter.f
  rw [wave_eq s hs, Option.bind_some]
  cases h : isW s
  · rw [if_neg (by decide)]; rfl
  · rw [if_pos rfl, within_eq, Option.bind_some, Bool.true_and]
theorem l09Filter_eq (k : Nat) (s : ByteArray) (a : Int) (hs : s.size ≤ 140737488351232) (hk : s.size < k) : spec_l09Filter.f k s a = some (isW s && decide (1 ≤ a ∧ a ≤ 50)) := by
  unfold spec_l09Filter.f
  rw [swave_eq k s hs hk, Option.bind_some]
  cases h : isW s
  · rw [if_neg (by decide)]; rfl
  · rw [if_pos rfl, l00In_eq, Option.bind_some, Bool.true_and]

/-! ## WindowRange -/
theorem range_loops (s : ByteArray) (a : Int) (hs : s.size ≤ 400) (h1 : 1 ≤ a) (h2 : a ≤ 50) : ∀ (d i : Nat) (lo hi : Int), i + d = s.size →
    ∃ v, ∀ k, 1000 + d < k → impl_WindowRange.l0 k s a (edg s 49 s.size) lo hi i = some v ∧ spec_WindowRange.l0 k s a lo hi i = some v
  | 0, i, lo, hi, hd => by
    refine ⟨(lo, hi, true), fun k hk => ?_⟩
    cases k with
    | zero => omega
    | succ k =>
      rw [impl_WindowRange.l0, spec_WindowRange.l0, w64 (n := (i : Int) + a) (by omega) (by omega), if_neg (by omega), if_neg (by omega)]
      exact ⟨rfl, rfl⟩
  | d + 1, i, lo, hi, hd => by
    have hl := edg_len' s 49
    by_cases h : (i : Int) + a ≤ s.size
    · obtain ⟨v, hv⟩ := range_loops s a hs h1 h2 d (i + 1) (min lo (upsN (edg s 49 s.size) i (i + a) (edg s 49 s.size).length)) (max hi (upsN (edg s 49 s.size) i (i + a) (edg s 49 s.size).length)) (by omega)
      refine ⟨v, fun k hk => ?_⟩
      cases k with
      | zero => omega
      | succ k =>
        have ih := hv k (by omega)
        rw [Int.natCast_add, Int.natCast_one] at ih
        rw [impl_WindowRange.l0, spec_WindowRange.l0, w64 (n := (i : Int) + a) (by omega) (by omega), if_pos h, if_pos h, w64 (n := (i : Int) + 1) (by omega) (by omega), upsIn_eq k _ _ _ (by omega) (by omega) (by omega) (by omega), l09Ups_eq k s _ _ hs (by omega) (by omega) (by omega), Option.bind_some, Option.bind_some, mn_eq, mx_eq]
        refine ⟨ih.1, ?_⟩
        have e1 : ∀ x y : Int, spec_l00Min.f x y = some (min x y) := by intro x y; unfold spec_l00Min.f; split <;> (congr 1; omega)
        have e2 : ∀ x y : Int, spec_l00Max.f x y = some (max x y) := by intro x y; unfold spec_l00Max.f; split <;> (congr 1; omega)
        rw [e1, Option.bind_some, e2, Option.bind_some]
        exact ih.2
    · refine ⟨(lo, hi, true), fun k hk => ?_⟩
      cases k with
      | zero => omega
      | succ k =>
        rw [impl_WindowRange.l0, spec_WindowRange.l0, w64 (n := (i : Int) + a) (by omega) (by omega), if_neg h, if_neg h]
        exact ⟨rfl, rfl⟩
theorem FnExactWindowRange_same (s : ByteArray) (a : Int) (hs : s.size ≤ 140737488351232) : ∃ v, ∀ k, s.size + 2000 < k → impl_WindowRange.f k s a = some v ∧ spec_WindowRange.f k s a = some v := by
  cases h : (isW s && decide (1 ≤ a ∧ a ≤ 50))
  · refine ⟨(0, 0, false), fun k hk => ?_⟩
    unfold impl_WindowRange.f spec_WindowRange.f
    rw [isFilter_eq s a hs, l09Filter_eq k s a hs (by omega), h, Option.bind_some, Option.bind_some, if_neg (by decide), if_neg (by decide)]
    cases k with
    | zero => omega
    | succ k => rw [impl_WindowRange.j0, spec_WindowRange.j0]; exact ⟨rfl, rfl⟩
  · rw [Bool.and_eq_true, decide_eq_true_eq, isW_iff] at h
    obtain ⟨⟨hz, hL⟩, ha⟩ := h
    have hw : (isW s && decide (1 ≤ a ∧ a ≤ 50)) = true := by rw [Bool.and_eq_true, decide_eq_true_eq, isW_iff]; exact ⟨⟨hz, hL⟩, ha⟩
    obtain ⟨v, hv⟩ := range_loops s a hz ha.1 ha.2 s.size 0 a 0 (by omega)
    by_cases h3 : (s.size : Int) < a
    · refine ⟨(0, 0, false), fun k hk => ?_⟩
      unfold impl_WindowRange.f spec_WindowRange.f
      rw [isFilter_eq s a hs, l09Filter_eq k s a hs (by omega), hw, Option.bind_some, Option.bind_some, if_pos rfl, if_pos rfl, decide_eq_true h3]
      cases k with
      | zero => omega
      | succ k => rw [impl_WindowRange.j0, spec_WindowRange.j0]; exact ⟨rfl, rfl⟩
    · refine ⟨v, fun k hk => ?_⟩
      unfold impl_WindowRange.f spec_WindowRange.f
      rw [isFilter_eq s a hs, l09Filter_eq k s a hs (by omega), hw, Option.bind_some, Option.bind_some, if_pos rfl, if_pos rfl, decide_eq_false h3]
      cases k with
      | zero => omega
      | succ k =>
        rw [impl_WindowRange.j0, spec_WindowRange.j0, if_neg (by decide), if_neg (by decide), changes_eq k s 49 (by omega) (by omega), Option.bind_some]
        exact hv k (by omega)
theorem FnExactWindowRange_pure : laws_FnExactWindowRange.Pure := by
  intro s a hs _
  obtain ⟨v, hv⟩ := FnExactWindowRange_same s a hs
  refine ⟨s.size + 2001, ?_⟩
  have := hv (s.size + 2001) (by omega)
  unfold laws_FnExactWindowRange.f
  split
  · rfl
  · rw [this.1, this.2, Option.bind_some, Option.bind_some, if_pos rfl, if_pos rfl, if_neg (by cases v.2.2 <;> decide)]

/-! ## CountWindows -/
theorem count_loops (s : ByteArray) (a : Int) (hs : s.size ≤ 400) (h1 : 1 ≤ a) (h2 : a ≤ 50) : ∀ (d : Nat) (i : Nat) (o : List Int), i + d = s.size + 50 → o.length ≤ i →
    ∃ l : List Int, l.length ≤ 1000 ∧ ∀ k, 1000 + d < k → impl_CountWindows.l0 k s a (edg s 49 s.size) o i = some (l, true) ∧ spec_CountWindows.l0 k s a o i = some (l, true)
  | 0, i, o, hd, ho => by
    refine ⟨o, by omega, fun k hk => ?_⟩
    cases k with
    | zero => omega
    | succ k =>
      rw [impl_CountWindows.l0, spec_CountWindows.l0, w64 (n := (i : Int) + a) (by omega) (by omega), if_neg (by omega), if_neg (by omega)]
      exact ⟨rfl, rfl⟩
  | d + 1, i, o, hd, ho => by
    have hl := edg_len' s 49
    by_cases h : (i : Int) + a ≤ s.size
    · obtain ⟨l, hl2, hv⟩ := count_loops s a hs h1 h2 (d + 1 - a.toNat) (i + a.toNat) (o ++ [upsN (edg s 49 s.size) i (i + a) (edg s 49 s.size).length]) (by omega) (by simp; omega)
      refine ⟨l, hl2, fun k hk => ?_⟩
      cases k with
      | zero => omega
      | succ k =>
        have ih := hv k (by omega)
        rw [show ((i + a.toNat : Nat) : Int) = (i : Int) + a by omega] at ih
        rw [impl_CountWindows.l0, spec_CountWindows.l0, w64 (n := (i : Int) + a) (by omega) (by omega), if_pos h, if_pos h, upsIn_eq k _ _ _ (by omega) (by omega) (by omega) (by omega), l09Ups_eq k s _ _ hs (by omega) (by omega) (by omega), Option.bind_some, Option.bind_some, if_pos (show o.length < 17592186044416 by omega), if_pos (show o.length < 17592186044416 by omega)]
        exact ih
    · refine ⟨o, by omega, fun k hk => ?_⟩
      cases k with
      | zero => omega
      | succ k =>
        rw [impl_CountWindows.l0, spec_CountWindows.l0, w64 (n := (i : Int) + a) (by omega) (by omega), if_neg h, if_neg h]
        exact ⟨rfl, rfl⟩
termination_by d => d
decreasing_by omega
theorem FnExactCountWindows_same (s : ByteArray) (a : Int) (hs : s.size ≤ 140737488351232) : ∃ (l : List Int) (t : Bool), l.length ≤ 1000 ∧ ∀ k, s.size + 2000 < k → impl_CountWindows.f k s a = some (l, t) ∧ spec_CountWindows.f k s a = some (l, t) := by
  cases h : (isW s && decide (1 ≤ a ∧ a ≤ 50))
  · refine ⟨[], false, by simp, fun k hk => ?_⟩
    unfold impl_CountWindows.f spec_CountWindows.f
    rw [isFilter_eq s a hs, l09Filter_eq k s a hs (by omega), h, Option.bind_some, Option.bind_some, if_neg (by decide), if_neg (by decide)]
    exact ⟨rfl, rfl⟩
  · have hw := h
    rw [Bool.and_eq_true, decide_eq_true_eq, isW_iff] at h
    obtain ⟨⟨hz, hL⟩, ha⟩ := h
    obtain ⟨l, hl, hv⟩ := count_loops s a hz ha.1 ha.2 (s.size + 50) 0 [] (by omega) (by simp)
    refine ⟨l, true, hl, fun k hk => ?_⟩
    unfold impl_CountWindows.f spec_CountWindows.f
    rw [isFilter_eq s a hs, l09Filter_eq k s a hs (by omega), hw, Option.bind_some, Option.bind_some, if_pos rfl, if_pos rfl, changes_eq k s 49 (by omega) (by omega), Option.bind_some]
    exact hv k (by omega)

/-! ## Timeouts -/
theorem index_loop (l : List Int) (a : Int) (hl : l.length ≤ 100000) : ∀ (d k i : Nat), i + d = l.length → d < k →
    ∃ v : Int, slices_Index_int64_int64.l0 k l a l.length i = some v ∧ (v ≥ 0 ↔ a ∈ l.drop i)
  | 0, k, i, hi, hk => by
    cases k with
    | zero => omega
    | succ k =>
      refine ⟨-1, by rw [slices_Index_int64_int64.l0, if_neg (by omega)], ?_⟩
      rw [List.drop_eq_nil_of_le (by omega)]; simp
  | d + 1, k, i, hi, hk => by
    cases k with
    | zero => omega
    | succ k =>
      obtain ⟨v, hv, hm⟩ := index_loop l a hl d k (i + 1) (by omega) (by omega)
      have hi2 : i < l.length := by omega
      rw [slices_Index_int64_int64.l0, if_pos (by omega), if_pos (by omega), if_pos (by omega), w64 (by omega) (by omega), rd_nat l i hi2]
      rw [Int.natCast_add, Int.natCast_one] at hv
      by_cases h : a = l[i]
      · rw [if_pos h]; exact ⟨i, rfl, by rw [List.drop_eq_getElem_cons hi2, List.mem_cons]; exact ⟨fun _ => .inl h, fun _ => by omega⟩⟩
      · rw [if_neg h]; exact ⟨v, hv, by rw [hm, List.drop_eq_getElem_cons hi2, List.mem_cons]; exact ⟨.inr, fun h3 => h3.resolve_left h⟩⟩
theorem contains_eq (k : Nat) (l : List Int) (a : Int) (hl : l.length ≤ 100000) (hk : l.length < k) : slices_Contains_int64_int64.f k l a = some (decide (a ∈ l)) := by
  unfold slices_Contains_int64_int64.f slices_Index_int64_int64.f
  obtain ⟨v, hv, hm⟩ := index_loop l a hl l.length k 0 (by omega) hk
  rw [Int.natCast_zero] at hv
  rw [hv, Option.bind_some]
  congr 1
  rw [decide_eq_decide, hm]; simp
theorem edg_at (s : ByteArray) (c : Int) (n i : Nat) (h : i < n) : ((i : Int) ∈ edg s c n) ↔ isE s c i = true := by
  rw [edg_mem]
  constructor
  · rintro ⟨j, _, h2, h3⟩
    have : i = j := by omega
    subst this; exact h2
  · intro h2; exact ⟨i, h, h2, rfl⟩
theorem time_loops (s : ByteArray) (a : Int) (hs : s.size ≤ 400) (hL : Lev s) (h1 : 1 ≤ a) (h2 : a ≤ 50) : ∀ (d : Nat) (i : Nat) (o : List Int) (q : Int), i + d = s.size → o.length ≤ i → 0 ≤ q → q ≤ i →
    ∃ l : List Int, l.length ≤ 1000 ∧ ∀ k, 1000 + 3 * d < k → impl_Timeouts.l0 k a (edg s 49 s.size) o q s.size i = some (l, true) ∧ spec_Timeouts.l0 k s a o q i = some (l, true)
  | 0, i, o, q, hd, ho, hq, hq2 => by
    refine ⟨o, by omega, fun k hk => ?_⟩
    cases k with
    | zero => omega
    | succ k =>
      rw [impl_Timeouts.l0, spec_Timeouts.l0, if_neg (by omega), if_neg (by omega)]
      exact ⟨rfl, rfl⟩
  | d + 1, i, o, q, hd, ho, hq, hq2 => by
    have hl := edg_len' s 49
    have hlen : ∀ x : Int, (o ++ [x]).length ≤ i + 1 := by intro x; simp; omega
    have hup : ∀ k, spec_Timeouts.l0 (k + 2) s a o q i = spec_Timeouts.j1 (k + 1) s a o (q + 1) i (isE s 49 i) := by
      intro k
      rw [spec_Timeouts.l0, if_pos (by omega), if_pos (by omega), w64 (n := q + 1) (by omega) (by omega), w64 (n := (i : Int) - 1) (by omega) (by omega)]
      by_cases hb : bt s i = 49
      · rw [if_pos hb]
        by_cases h0 : i = 0
        · subst h0
          have : isE s 49 0 = true := by unfold isE; rw [decide_eq_true hb]; rfl
          rw [if_pos (by omega), this]
        · rw [if_neg (by omega), if_pos (by omega), if_pos (by omega)]
          congr 1
          have e : prv s i = bt s ((i : Int) - 1) := by unfold prv; rw [if_neg h0]; congr 1; omega
          unfold isE
          rw [decide_eq_true hb, e, Bool.true_and, Bool.eq_iff_iff, beq_iff_eq]
          have := hL (i - 1) (by omega)
          rw [show ((i - 1 : Nat) : Int) = (i : Int) - 1 by omega] at this
          simp; omega
      · have : isE s 49 i = false := by unfold isE; rw [decide_eq_false hb]; rfl
        rw [if_neg hb, this]
    have himp : ∀ k, 400 < k → impl_Timeouts.l0 (k + 1) a (edg s 49 s.size) o q s.size i = if isE s 49 i = true then impl_Timeouts.l0 k a (edg s 49 s.size) o 0 s.size (i + 1) else if q + 1 = a then impl_Timeouts.l0 k a (edg s 49 s.size) (o ++ [(i : Int)]) (q + 1) s.size (i + 1) else impl_Timeouts.l0 k a (edg s 49 s.size) o (q + 1) s.size (i + 1) := by
      intro k hk
      rw [impl_Timeouts.l0, if_pos (by omega), contains_eq k _ _ (by omega) (by omega), Option.bind_some, w64 (n := q + 1) (by omega) (by omega), w64 (n := (i : Int) + 1) (by omega) (by omega), if_neg (show ¬ (0 : Int) = a by omega), if_pos (show o.length < 17592186044416 by omega)]
      cases he : isE s 49 i
      · rw [decide_eq_false (by rw [edg_at s 49 s.size i (by omega), he]; decide)]
      · rw [decide_eq_true (by rw [edg_at s 49 s.size i (by omega), he])]
    have hj : ∀ k, spec_Timeouts.j1 (k + 1) s a o (q + 1) i (isE s 49 i) = if isE s 49 i = true then spec_Timeouts.l0 k s a o 0 (i + 1) else if q + 1 = a then spec_Timeouts.l0 k s a (o ++ [(i : Int)]) (q + 1) (i + 1) else spec_Timeouts.l0 k s a o (q + 1) (i + 1) := by
      intro k
      rw [spec_Timeouts.j1, w64 (n := (i : Int) + 1) (by omega) (by omega), if_neg (show ¬ (0 : Int) = a by omega), if_pos (show o.length < 17592186044416 by omega)]
    have key : ∀ (o' : List Int) (q' : Int), o'.length ≤ i + 1 → 0 ≤ q' → q' ≤ q + 1 → (∀ k, impl_Timeouts.l0 k a (edg s 49 s.size) o' q' s.size ((i : Int) + 1) = (if isE s 49 i = true then impl_Timeouts.l0 k a (edg s 49 s.size) o 0 s.size (i + 1) else if q + 1 = a then impl_Timeouts.l0 k a (edg s 49 s.size) (o ++ [(i : Int)]) (q + 1) s.size (i + 1) else impl_Timeouts.l0 k a (edg s 49 s.size) o (q + 1) s.size (i + 1))) → (∀ k, spec_Timeouts.l0 k s a o' q' ((i : Int) + 1) = (if isE s 49 i = true then spec_Timeouts.l0 k s a o 0 (i + 1) else if q + 1 = a then spec_Timeouts.l0 k s a (o ++ [(i : Int)]) (q + 1) (i + 1) else spec_Timeouts.l0 k s a o (q + 1) (i + 1))) →
        ∃ l : List Int, l.length ≤ 1000 ∧ ∀ k, 1000 + 3 * (d + 1) < k → impl_Timeouts.l0 k a (edg s 49 s.size) o q s.size i = some (l, true) ∧ spec_Timeouts.l0 k s a o q i = some (l, true) := by
      intro o' q' ho' hq0 hq1 e1 e2
      obtain ⟨l, hl2, hv⟩ := time_loops s a hs hL h1 h2 d (i + 1) o' q' (by omega) ho' hq0 (by omega)
      refine ⟨l, hl2, fun k hk => ?_⟩
      obtain ⟨m, rfl⟩ : ∃ m, k = m + 2 := ⟨k - 2, by omega⟩
      rw [Int.natCast_add, Int.natCast_one] at hv
      rw [hup, hj, himp (m + 1) (by omega), ← e1, ← e2]
      exact ⟨(hv (m + 1) (by omega)).1, (hv m (by omega)).2⟩
    cases he : isE s 49 i
    · by_cases hqa : q + 1 = a
      · exact key (o ++ [(i : Int)]) (q + 1) (hlen _) (by omega) (by omega) (fun k => by rw [he, if_neg (by decide), if_pos hqa]) (fun k => by rw [he, if_neg (by decide), if_pos hqa])
      · exact key o (q + 1) (by omega) (by omega) (by omega) (fun k => by rw [he, if_neg (by decide), if_neg hqa]) (fun k => by rw [he, if_neg (by decide), if_neg hqa])
    · exact key o 0 (by omega) (by omega) (by omega) (fun k => by rw [he, if_pos rfl]) (fun k => by rw [he, if_pos rfl])
theorem FnExactTimeouts_same (s : ByteArray) (a : Int) (hs : s.size ≤ 140737488351232) : ∃ (l : List Int) (t : Bool), l.length ≤ 1000 ∧ ∀ k, s.size + 3000 < k → impl_Timeouts.f k s a = some (l, t) ∧ spec_Timeouts.f k s a = some (l, t) := by
  cases h : (isW s && decide (1 ≤ a ∧ a ≤ 50))
  · refine ⟨[], false, by simp, fun k hk => ?_⟩
    unfold impl_Timeouts.f spec_Timeouts.f
    rw [isFilter_eq s a hs, l09Filter_eq k s a hs (by omega), h, Option.bind_some, Option.bind_some, if_neg (by decide), if_neg (by decide)]
    exact ⟨rfl, rfl⟩
  · have hw := h
    rw [Bool.and_eq_true, decide_eq_true_eq, isW_iff] at h
    obtain ⟨⟨hz, hL⟩, ha⟩ := h
    obtain ⟨l, hl, hv⟩ := time_loops s a hz hL ha.1 ha.2 s.size 0 [] 0 (by omega) (by simp) (by omega) (by omega)
    refine ⟨l, true, hl, fun k hk => ?_⟩
    unfold impl_Timeouts.f spec_Timeouts.f
    rw [isFilter_eq s a hs, l09Filter_eq k s a hs (by omega), hw, Option.bind_some, Option.bind_some, if_pos rfl, if_pos rfl, changes_eq k s 49 (by omega) (by omega), Option.bind_some]
    exact hv k (by omega)
theorem FnExactCountWindows_pure : laws_FnExactCountWindows.Pure := by
  intro s a hs _
  obtain ⟨l, t, hl, hv⟩ := FnExactCountWindows_same s a hs
  refine ⟨s.size + 4000 + 2, ?_⟩
  have h0 := hv (s.size + 4000 + 2) (by omega)
  have h1 := hv (s.size + 4000 + 1) (by omega)
  unfold laws_FnExactCountWindows.f
  split
  · rfl
  · rw [h0.1, h0.2, Option.bind_some, Option.bind_some]
    simp only
    rw [eqInt64S_refl _ l (by omega) (by omega), Option.bind_some, if_pos rfl]
    rw [laws_FnExactCountWindows.j0, if_neg (by cases t <;> decide), markInt64S_eq _ l 1 (by omega) (by omega) (by omega) (by omega), Option.bind_some]
    simp only
    rw [heldInt64S_eq _ 1 _ (by omega) (by omega) (by omega) (by omega), Option.bind_some, if_neg (by omega), if_pos rfl, h1.1, Option.bind_some]
    simp only
    rw [eqInt64S_refl _ l (by omega) (by omega), Option.bind_some, if_pos rfl]
    rw [laws_FnExactCountWindows.j1, if_neg (by cases t <;> decide), heldInt64S_eq _ 1 _ (by omega) (by omega) (by omega) (by omega), Option.bind_some, if_neg (by omega), if_pos rfl]
theorem FnExactTimeouts_pure : laws_FnExactTimeouts.Pure := by
  intro s a hs _
  obtain ⟨l, t, hl, hv⟩ := FnExactTimeouts_same s a hs
  refine ⟨s.size + 4000 + 2, ?_⟩
  have h0 := hv (s.size + 4000 + 2) (by omega)
  have h1 := hv (s.size + 4000 + 1) (by omega)
  unfold laws_FnExactTimeouts.f
  split
  · rfl
  · rw [h0.1, h0.2, Option.bind_some, Option.bind_some]
    simp only
    rw [eqInt64S_refl _ l (by omega) (by omega), Option.bind_some, if_pos rfl]
    rw [laws_FnExactTimeouts.j0, if_neg (by cases t <;> decide), markInt64S_eq _ l 1 (by omega) (by omega) (by omega) (by omega), Option.bind_some]
    simp only
    rw [heldInt64S_eq _ 1 _ (by omega) (by omega) (by omega) (by omega), Option.bind_some, if_neg (by omega), if_pos rfl, h1.1, Option.bind_some]
    simp only
    rw [eqInt64S_refl _ l (by omega) (by omega), Option.bind_some, if_pos rfl]
    rw [laws_FnExactTimeouts.j1, if_neg (by cases t <;> decide), heldInt64S_eq _ 1 _ (by omega) (by omega) (by omega) (by omega), Option.bind_some, if_neg (by omega), if_pos rfl]
end Go.Proofs.YtcpfkfaiakpfjaaDoor.X

