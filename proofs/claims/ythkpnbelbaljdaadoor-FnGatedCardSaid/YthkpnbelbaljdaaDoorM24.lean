/- My own texts of this seat and its words, merged: Xp34, Xp49, Xp35, Xp36, Xp37, XClean, XAreWaves, XReset, XGate. Conditions: as each lemma says. -/
import Derived.Test.YthkpnbelbaljdaaDoorM21
import Derived.Test.YthkpnbelbaljdaaDoorM23
import Derived.Test.YthkpnbelbaljdaaDoorM22
section
-- Written by a program of this session out of the kit's print of the loaded functions: a plain function of a Go function, and its contract.
namespace Go.Proofs.YthkpnbelbaljdaaDoor.X
open Go.RowKit Go.Proofs.YthkpnbelbaljdaaDoorW.PrintWords Go.Proofs.YthkpnbelbaljdaaDoorW.PrintLast Go.Proofs.YthkpnbelbaljdaaDoorW.PrintMore
attribute [local go_sem] max2_int min2_int max_two min_two max_three min_three max_four min_four   -- for this text's walks alone
set_option linter.unusedVariables false
set_option linter.unusedSimpArgs false
/-! ### impl_ShortPulses: function 34 -/
mutual
def impl_ShortPulses.j0 : Nat → ByteArray → Int → Bool → Option (List Int × Bool)
  | 0, _, _, _ => none
  | k + 1, x0, x1, x16 => if x16 = true then (some (([] : List Int), false)) else ((impl_pulses.f k x0).bind fun t460 => (impl_ShortPulses.l0 k x0 x1 (([] : List Int)) t460 (t460.length : Int) 0))
def impl_ShortPulses.l0 : Nat → ByteArray → Int → List Int → List (S61) → Int → Int → Option (List Int × Bool)
  | 0, _, _, _, _, _, _ => none
  | k + 1, x0, x1, x6, x19, x20, x21 => if x21 < x20 then (if 0 ≤ x21 then (if x21 < (x19.length : Int) then (if ((rd_T61 x19 x21).f1) < x1 then (if (wrap64 (((rd_T61 x19 x21).f0) + ((rd_T61 x19 x21).f1))) < (x0.size : Int) then (if x6.length < 17592186044416 then (impl_ShortPulses.l0 k x0 x1 (x6 ++ [(rd_T61 x19 x21).f0]) x19 x20 (wrap64 (x21 + 1))) else (none)) else (impl_ShortPulses.l0 k x0 x1 x6 x19 x20 (wrap64 (x21 + 1)))) else (impl_ShortPulses.l0 k x0 x1 x6 x19 x20 (wrap64 (x21 + 1)))) else (none)) else (none)) else (some (x6, true))
end
def impl_ShortPulses.f (k : Nat) (a0 : ByteArray) (a1 : Int) : Option (List Int × Bool) := (impl_IsWave.f a0).bind fun t455 => (if t455 = true then ((impl_within.f a1 1 400).bind fun t456 => (impl_ShortPulses.j0 k a0 a1 (!t456))) else (impl_ShortPulses.j0 k a0 a1 true))
set_option maxHeartbeats 8000000 in
set_option maxRecDepth 100000 in
theorem impl_ShortPulses.calls (k : Nat) (a0 : ByteArray) (a1 : Int) (r1 : List Int) (r2 : Bool) (w : World) (h : impl_ShortPulses.f k a0 a1 = some (r1, r2)) :
    Calls Tryd.prog 34 #[.string a0, .int .i64 a1] w fun e w' => ∃ v0_ : Value, e = .returned (.tuple #[v0_, .bool r2]) ∧ Kd.R (Kd.int .i64) 2 w' w.heap.size (fun _ => True) v0_ r1 ∧ Below w.heap.size w w' := by
  have hu61 := Tryd.underlying61
  have HB := Aside0.mk (Below.refl w.heap.size w)
  have H : ((impl_IsWave.f a0).bind fun t455 => (if t455 = true then ((impl_within.f a1 1 400).bind fun t456 => (impl_ShortPulses.j0 k a0 a1 (!t456))) else (impl_ShortPulses.j0 k a0 a1 true))) = some (r1, r2) := h
  clear h
  have HC3 := Aside0.mk H
  clear H
  go_enter Tryd.func34, Tryd.ntmps34
  go_upto_region 1 with (fail)
  go_cut [16] (fun v16 wc => ∃ (kq : Nat) (x16_2 : Bool), v16 = .bool x16_2 ∧ Aside0 (impl_ShortPulses.j0 kq a0 a1 x16_2 = some (r1, r2)) ∧ Aside0 (kq ≤ k) ∧ Aside0 (Below w.heap.size w wc))
  case first =>
    have H := HC3.out
    clear HC3
    replace H := Option.bind_eq_some_iff.mp H
    obtain ⟨t455, A40, H⟩ := H
    replace H : (if t455 = true then ((impl_within.f a1 1 400).bind fun t456 => (impl_ShortPulses.j0 k a0 a1 (!t456))) else (impl_ShortPulses.j0 k a0 a1 true)) = some (r1, r2) := H
    have A4 := Aside0.mk A40
    clear A40
    by_cases c5 : t455 = true
    · subst c5
      have H1 : ((impl_within.f a1 1 400).bind fun t456 => (impl_ShortPulses.j0 k a0 a1 (!t456))) = some (r1, r2) := by rw [if_pos rfl] at H; exact H
      clear H
      have H := H1
      clear H1
      replace H := Option.bind_eq_some_iff.mp H
      obtain ⟨t456, A60, H⟩ := H
      replace H : (impl_ShortPulses.j0 k a0 a1 (!t456)) = some (r1, r2) := H
      have A6 := Aside0.mk A60
      clear A60
      have H' := Aside0.mk H
      clear H
      go_wp2_with (first | ((with_reducible refine gate_callee (f := 69) rfl ?_); refine goesL_ (some 10) rfl rfl Tryd.func69 (by kernel_rfl) rfl #[.string a0] rfl (by (try simp only [List.map_toArray, List.map_cons, List.map_nil]); first | done | rfl | (simp only [List.length_drop, List.length_take]; rfl)) ?_; (with_reducible refine (impl_IsWave.calls a0 true _ A4.out).mono ?_); rintro e w7 ⟨rfl, hb⟩; refine ⟨_, rfl, ?_⟩; have n0_ := Aside0.mk (below_step (by repeat (first | (with_reducible first | exact HB.out | apply below_alloc | apply pw_below_drewN | apply below_drew1) | exact HB.out)) hb); clear HB; have HB := n0_; clear n0_; (try clear hb); (try clear hb2); (try clear hk); (try clear hi)) | (go_at_call 48; (with_reducible refine (impl_within.calls a1 1 400 t456 _ A6.out).mono ?_); rintro e w' ⟨rfl, ⟨nd, rfl⟩⟩))
      go_meet
      case rel => exact ⟨_, (!t456), (by first | rfl | (simp; done) | (simp [*]; done)), H', ⟨by first | omega | exact Nat.le_refl _⟩, ⟨by repeat (first | (with_reducible first | exact HB.out | apply below_alloc | apply pw_below_drewN | apply below_drew1) | exact HB.out)⟩⟩
    · replace c5 := Bool.eq_false_iff.mpr c5
      subst c5
      have H1 : (impl_ShortPulses.j0 k a0 a1 true) = some (r1, r2) := by rw [if_neg (show ¬ (false = true) by decide)] at H; exact H
      clear H
      have H := H1
      clear H1
      have H' := Aside0.mk H
      clear H
      go_wp2_with (first | ((with_reducible refine gate_callee (f := 69) rfl ?_); refine goesL_ (some 10) rfl rfl Tryd.func69 (by kernel_rfl) rfl #[.string a0] rfl (by (try simp only [List.map_toArray, List.map_cons, List.map_nil]); first | done | rfl | (simp only [List.length_drop, List.length_take]; rfl)) ?_; (with_reducible refine (impl_IsWave.calls a0 false _ A4.out).mono ?_); rintro e w8 ⟨rfl, hb⟩; refine ⟨_, rfl, ?_⟩; have n0_ := Aside0.mk (below_step (by repeat (first | (with_reducible first | exact HB.out | apply below_alloc | apply pw_below_drewN | apply below_drew1) | exact HB.out)) hb); clear HB; have HB := n0_; clear n0_; (try clear hb); (try clear hb2); (try clear hk); (try clear hi)))
      go_meet
      case rel => exact ⟨_, (true), (by first | rfl | (simp; done) | (simp [*]; done)), H', ⟨by first | omega | exact Nat.le_refl _⟩, ⟨by repeat (first | (with_reducible first | exact HB.out | apply below_alloc | apply pw_below_drewN | apply below_drew1) | exact HB.out)⟩⟩
  case rest =>
    clear HC3
    try clear p2
    try clear c3
    try clear c5
    try clear c6
    obtain ⟨kq, x16_2, rfl, HA, HJ2, HB⟩ := hcut
    cases kq with
    | zero => exact absurd HA.out (by simp [impl_ShortPulses.j0])
    | succ kj2 =>
      have H := HA.out
      clear HA
      simp only [impl_ShortPulses.j0] at H
      by_cases c9 : x16_2 = true
      · subst c9
        have H1 : (some (([] : List Int), false)) = some (r1, r2) := by rw [if_pos rfl] at H; exact H
        clear H
        have H := H1
        clear H1
        simp only [Option.some.injEq, Prod.mk.injEq] at H
        obtain ⟨rfl, rfl⟩ := H
        go_wp2
        go_ret2
        exact ⟨_, by first | rfl | (simp [errW_none, errW_some] <;> rfl) | (simp [*, errW_none, errW_some] <;> rfl), by first | exact Kd.R_nil _ _ _ _ _ | exact Kd.N_nil _ _ _ _ _ | exact Kd.V_nil _ _ _ _ _ | exact Kd.Q_nil _ _ _ _ _ | exact Kd.S_nil _ _ _ _ _, by repeat (first | (with_reducible first | exact HB.out | apply below_alloc | apply pw_below_drewN | apply below_drew1) | exact HB.out)⟩
      · replace c9 := Bool.eq_false_iff.mpr c9
        subst c9
        have H1 : ((impl_pulses.f kj2 a0).bind fun t460 => (impl_ShortPulses.l0 kj2 a0 a1 (([] : List Int)) t460 (t460.length : Int) 0)) = some (r1, r2) := by rw [if_neg (show ¬ (false = true) by decide)] at H; exact H
        clear H
        have H := H1
        clear H1
        obtain ⟨y457, hy457⟩ : ∃ y_ : List Int, y_ = (([] : List Int)) := ⟨_, rfl⟩
        replace H : ((impl_pulses.f kj2 a0).bind fun t460 => (impl_ShortPulses.l0 kj2 a0 a1 y457 t460 (t460.length : Int) 0)) = some (r1, r2) := by first | (rw [hy457]; with_reducible exact H) | (have H2_ := (Option.bind_some _ _).symm.trans H; rw [hy457]; with_reducible exact H2_) | (have H2_ := (Option.bind_some _ _).symm.trans H; with_reducible exact H2_) | with_reducible exact H | (rw [hy457]; exact H) | exact H
        have Ny457 := Aside0.mk hy457
        clear hy457
        replace H := Option.bind_eq_some_iff.mp H
        obtain ⟨t460, A100, H⟩ := H
        replace H : (impl_ShortPulses.l0 kj2 a0 a1 y457 t460 (t460.length : Int) 0) = some (r1, r2) := H
        have A10 := Aside0.mk A100
        clear A100
        have H' := Aside0.mk H
        clear H
        go_wp2_with (first | ((with_reducible refine gate_dst (N := 17) rfl ?_); (try (refine gate_guard (by rfl) ?_; dsimp only)); refine Kd.R_lit (Kd.int .i64) _ 2 ?hg (N := 17) ?hd (xs := ([] : List Int)) (inner := []) (ok := fun _ => True) (okp := fun _ => True) ?hr ?hp (fun _ hk => hk) trivial (Below.refl _ _) (Nat.le_refl _) (by simp) ?_; (case hd => rfl); (case hg => rfl); (case hr => first | (go_simp; done) | (go_simp; rfl)); (case hp => exact (Reps.none _ _)); intro v458 w11 ho12 hb hg_ hnew_; clear hg_ hnew_; (first | rw [← Ny457.out] at ho12 | (simp only [Int.reduceToNat] at ho12; rw [← Ny457.out] at ho12)); have n0_ := Aside0.mk (Kd.R_lower ho12 (below_size (by repeat (first | (with_reducible first | exact HB.out | apply below_alloc | apply pw_below_drewN | apply below_drew1) | exact HB.out)))); have n1_ := Aside0.mk (below_step (by repeat (first | (with_reducible first | exact HB.out | apply below_alloc | apply pw_below_drewN | apply below_drew1) | exact HB.out)) hb); clear HB; have HO459 := n0_; have HB := n1_; clear n0_ n1_; clear hb ho12) | ((with_reducible refine gate_callee (f := 55) rfl ?_); refine goesL_ (some 19) rfl rfl Tryd.func55 (by kernel_rfl) rfl #[.string a0] rfl (by (try simp only [List.map_toArray, List.map_cons, List.map_nil]); first | done | rfl | (simp only [List.length_drop, List.length_take]; rfl)) ?_; (with_reducible refine (impl_pulses.calls kj2 a0 t460 _ A10.out).mono ?_); rintro e w13 ⟨v461, rfl, ho0, hb⟩; refine ⟨_, rfl, ?_⟩; have n0_ := Aside0.mk (Kd.R_below (by (with_reducible repeat (first | apply Kd.R_alloc | apply Kd.R_drewN | apply Kd.R_drew)); exact HO459.out) hb); have n1_ := Aside0.mk (Kd.R_lower ho0 (below_size (by repeat (first | (with_reducible first | exact HB.out | apply below_alloc | apply pw_below_drewN | apply below_drew1) | exact HB.out)))); have n2_ := Aside0.mk (below_step (by repeat (first | (with_reducible first | exact HB.out | apply below_alloc | apply pw_below_drewN | apply below_drew1) | exact HB.out)) hb); clear HO459; clear HB; have HO459 := n0_; have HO462 := n1_; have HB := n2_; clear n0_ n1_ n2_; (try clear hb); (try clear hb2); (try clear hk); (try clear hi); (try clear ho0); obtain ⟨Ao14, co14, eo14⟩ := Kd.R_slice HO462.out; subst eo14))
        go_loopg [6, 21] kj2 (fun kq v6 v21 w' => ∃ (x6_2 : List Int) (x21_2 : Int), v21 = .int .i64 x21_2 ∧ Aside0 (impl_ShortPulses.l0 kq a0 a1 x6_2 t460 (t460.length : Int) x21_2 = some (r1, r2)) ∧ Aside0 (kq ≤ kj2) ∧ Aside0 (Kd.R (Kd.int .i64) 2 w' w.heap.size (fun _ => True) v6 x6_2) ∧ Aside0 (Kd.R k61 61 w' w.heap.size (fun _ => True) (.slice Ao14 t460.length co14) t460) ∧ Aside0 (Below w.heap.size w w'))
        case atStart => exact ⟨(y457), (0), (by first | rfl | (simp; done) | (simp [*]; done)), H', ⟨Nat.le_refl _⟩, ⟨by (with_reducible repeat (first | apply Kd.R_alloc | apply Kd.R_drewN | apply Kd.R_drew)); exact HO459.out⟩, ⟨by (with_reducible repeat (first | apply Kd.R_alloc | apply Kd.R_drewN | apply Kd.R_drew)); exact HO462.out⟩, ⟨by repeat (first | (with_reducible first | exact HB.out | apply below_alloc | apply pw_below_drewN | apply below_drew1) | exact HB.out)⟩⟩
        case round =>
          clear H'
          try clear p2
          try clear c3
          try clear c5
          try clear c6
          try clear c9
          try clear p2
          obtain ⟨x6_2, x21_2, rfl, HA, HK2, HO_6, HO_19, HB⟩ := hrel
          cases gk with
          | zero => exact absurd HA.out (by simp [impl_ShortPulses.l0])
          | succ k2 =>
            have H := HA.out
            clear HA
            simp only [impl_ShortPulses.l0] at H
            by_cases c15 : x21_2 < (t460.length : Int)
            · rw [if_pos c15] at H
              have c15b0 : decide (x21_2 < (t460.length : Int)) = true := decide_eq_true c15
              clear c15
              by_cases c16 : 0 ≤ x21_2
              · rw [if_pos c16] at H
                have c16b0 : decide (0 ≤ x21_2) = true := decide_eq_true c16
                clear c16
                by_cases c17 : x21_2 < (t460.length : Int)
                · rw [if_pos c17] at H
                  have c17b0 : decide (x21_2 < (t460.length : Int)) = true := decide_eq_true c17
                  clear c17
                  by_cases c18 : ((rd_T61 t460 x21_2).f1) < a1
                  · rw [if_pos c18] at H
                    have c18b0 : decide (((rd_T61 t460 x21_2).f1) < a1) = true := decide_eq_true c18
                    clear c18
                    by_cases c19 : (wrap64 (((rd_T61 t460 x21_2).f0) + ((rd_T61 t460 x21_2).f1))) < (a0.size : Int)
                    · rw [if_pos c19] at H
                      have c19b0 : decide ((wrap64 (((rd_T61 t460 x21_2).f0) + ((rd_T61 t460 x21_2).f1))) < (a0.size : Int)) = true := decide_eq_true c19
                      clear c19
                      by_cases c20 : x6_2.length < 17592186044416
                      · rw [if_pos c20] at H
                        have LMc20 := Aside0.mk c20
                        clear c20
                        obtain ⟨y465, hy465⟩ : ∃ y_ : List Int, y_ = (x6_2 ++ [(rd_T61 t460 x21_2).f0]) := ⟨_, rfl⟩
                        replace H : (impl_ShortPulses.l0 k2 a0 a1 y465 t460 (t460.length : Int) (wrap64 (x21_2 + 1))) = some (r1, r2) := by first | (rw [hy465]; with_reducible exact H) | (have H2_ := (Option.bind_some _ _).symm.trans H; rw [hy465]; with_reducible exact H2_) | (have H2_ := (Option.bind_some _ _).symm.trans H; with_reducible exact H2_) | with_reducible exact H | (rw [hy465]; exact H) | exact H
                        have Ny465 := Aside0.mk hy465
                        clear hy465
                        have H' := Aside0.mk H
                        clear H
                        have p463 : 0 ≤ (x21_2 : Int) := of_decide_eq_true (by first | (with_reducible assumption) | assumption)
                        have q463 : x21_2 < (t460.length : Int) := of_decide_eq_true (by first | (with_reducible assumption) | assumption)
                        obtain ⟨ad463, e463, hx463_0, hx463_1⟩ := at_T61 (Kd.R_reads' HO_19.out).2.2 x21_2 p463 q463
                        cases e463
                        replace p463 := eq_true p463
                        replace q463 := eq_true q463
                        go_wp2_with (first | ((with_reducible refine gate_dst (N := 8) rfl ?_); (try (refine gate_guard (by rfl) ?_; dsimp only)); refine box_event ?hg (N := 8) ?hd (cs := #[.int .i64 0, .int .i64 0]) (t := 61) ?hr ?_; (case hd => rfl); (case hg => rfl); (case hr => first | (go_simp; done) | (go_simp; rfl)); intro gb464 hg w21 hbox hb; have n0_ := Aside0.mk (Kd.R_below (by (with_reducible repeat (first | apply Kd.R_alloc | apply Kd.R_drewN | apply Kd.R_drew)); exact HO_6.out) hb); have n1_ := Aside0.mk (Kd.R_below (Kd.R_elderB (by (with_reducible repeat (first | apply Kd.R_alloc | apply Kd.R_drewN | apply Kd.R_drew)); exact HO_19.out) gb464 (Nat.le_of_eq hg.symm)) hb); have n2_ := Aside0.mk (below_step (by repeat (first | (with_reducible first | exact HB.out | apply below_alloc | apply pw_below_drewN | apply below_drew1) | exact HB.out)) hb); have n3_ := Aside0.mk (hbox); have n4_ := Aside0.mk ((by rw [hg]; exact (below_size (by repeat (first | (with_reducible first | exact HB.out | apply below_alloc | apply pw_below_drewN | apply below_drew1) | exact HB.out))) : w.heap.size ≤ gb464)); have n5_ := Aside0.mk ((by rw [hg]; exact (below_size (by repeat (first | (with_reducible first | exact HB.out | apply below_alloc | apply pw_below_drewN | apply below_drew1) | exact HB.out))) : w.heap.size ≤ gb464)); clear HO_6; clear HO_19; clear HB; have HO_6 := n0_; have HO_19 := n1_; have HB := n2_; have BK464 := n3_; have GW464 := n4_; have GE464 := n5_; clear n0_ n1_ n2_ n3_ n4_ n5_; clear hb hbox hg; have hcz22_0 : w21.cell? ⟨gb464, 0, none⟩ = some (.int .i64 0) := (blk_cell BK464.out 0).trans rfl; have hcz22_1 : w21.cell? ⟨gb464, 1, none⟩ = some (.int .i64 0) := (blk_cell BK464.out 1).trans rfl; have hfz22_0 := blk_frozen BK464.out 0; have hfz22_1 := blk_frozen BK464.out 1) | ((with_reducible refine gate_builtin (b := .append) (xs := #[.tmp 39, .tmp 42]) rfl ?_); (try (refine gate_guard (by rfl) ?_; dsimp only)); at_builtin; refine Kd.R_append (Kd.int .i64) (w0 := w) w.heap.size rfl (.tmp 39) (.tmp 42) 34 2 (.int .i64 0) 8 rfl Tryd.underlying34 info2 rfl (by decide) (by omega) u6 x6_2 ((rd_T61 t460 x21_2).f0) [.int .i64 ((rd_T61 t460 x21_2).f0)] (fun _ => True) (fun _ => False) rfl (by first | (go_simp; done) | (go_simp; rfl)) ?aP (fun _ hk => hk.elim) ?aF ?aO ?aB ?aS ?aL ?_; (case aP => exact rfl); (case aB => exact (by repeat (first | (with_reducible first | exact HB.out | apply below_alloc | apply pw_below_drewN | apply below_drew1 | refine below_set ?_ GE464.out) | exact HB.out))); (case aF => exact (fun _ _ => trivial)); (case aO => exact (by (with_reducible repeat (first | apply Kd.R_alloc | apply Kd.R_drewN | apply Kd.R_drew)); exact Kd.R_mono (Kd.R_far (p := ⟨gb464, 1, none⟩) (Kd.R_far (p := ⟨gb464, 0, none⟩) (Kd.R_types HO_6.out BK464.out (by decide)) (fun _ hk => hk.2) (.int .i64 ((rd_T61 t460 x21_2).f0))) (fun _ hk => hk.2) (.int .i64 ((rd_T61 t460 x21_2).f1))) (fun _ hk => trivial))); (case aS => exact (below_size (by repeat (first | (with_reducible first | exact HB.out | apply below_alloc | apply pw_below_drewN | apply below_drew1 | refine below_set ?_ GE464.out) | exact HB.out)))); (case aL => have := LMc20.out; omega); intro v466 w23 ho hb hg hat; rw [← Ny465.out] at ho; have n0_ := Aside0.mk (Kd.R_over' (by (with_reducible repeat (first | apply Kd.R_alloc | apply Kd.R_drewN | apply Kd.R_drew)); exact (Kd.R_mono (Kd.R_far (p := ⟨gb464, 1, none⟩) (Kd.R_far (p := ⟨gb464, 0, none⟩) (Kd.R_mono HO_19.out (fun k_ hk => (⟨hk, hk.2⟩ : _ ∧ k_ ≠ gb464))) (fun _ hk => hk.2) (.int .i64 ((rd_T61 t460 x21_2).f0))) (fun _ hk => hk.2) (.int .i64 ((rd_T61 t460 x21_2).f1))) (fun _ h_ => h_.1))) (Kd.R_typed (by (with_reducible repeat (first | apply Kd.R_alloc | apply Kd.R_drewN | apply Kd.R_drew)); exact (Kd.R_mono (Kd.R_far (p := ⟨gb464, 1, none⟩) (Kd.R_far (p := ⟨gb464, 0, none⟩) (Kd.R_types HO_6.out BK464.out (by decide)) (fun _ hk => hk.2) (.int .i64 ((rd_T61 t460 x21_2).f0))) (fun _ hk => hk.2) (.int .i64 ((rd_T61 t460 x21_2).f1))) (fun _ h_ => h_.1)))) (by decide) hg); have n1_ := Aside0.mk (blk_grown (g := gb464) (o := .cells #[.int .i64 ((rd_T61 t460 x21_2).f0), .int .i64 ((rd_T61 t460 x21_2).f1)] 61 (0, 0)) (by (with_reducible repeat (first | refine blk_drewN ?_ _ | refine blk_drew ?_ | refine blk_alloc ?_ _)); refine blk_put (cs := #[.int .i64 ((rd_T61 t460 x21_2).f0), .int .i64 0]) ?_ 1 _ rfl; (with_reducible repeat (first | refine blk_drewN ?_ _ | refine blk_drew ?_ | refine blk_alloc ?_ _)); refine blk_put (cs := #[.int .i64 0, .int .i64 0]) ?_ 0 _ rfl; (with_reducible repeat (first | refine blk_drewN ?_ _ | refine blk_drew ?_ | refine blk_alloc ?_ _)); exact BK464.out) hg (Kd.R_ne HO_6.out BK464.out (by decide))); have n2_ := Aside0.mk (hb); have n3_ := Aside0.mk (ho); clear HO_19; clear BK464; clear HB; clear HO_6; have HO_19 := n0_; have BK464 := n1_; have HB := n2_; have HO467 := n3_; clear n0_ n1_ n2_ n3_; clear ho hb hg hat))
                        go_roundg k2
                        case measure => have := HJ2.out; have := HK2.out; omega
                        case rel => exact ⟨(y465), (wrap64 (x21_2 + 1)), (by first | rfl | (simp; done) | (simp [*]; done)), H', ⟨by have := HJ2.out; have := HK2.out; omega⟩, ⟨by (with_reducible repeat (first | apply Kd.R_alloc | apply Kd.R_drewN | apply Kd.R_drew)); exact HO467.out⟩, ⟨by (with_reducible repeat (first | apply Kd.R_alloc | apply Kd.R_drewN | apply Kd.R_drew)); exact Kd.R_mono HO_19.out (fun _ hk => trivial)⟩, ⟨by repeat (first | (with_reducible first | exact HB.out | apply below_alloc | apply pw_below_drewN | apply below_drew1 | refine below_set ?_ GE464.out) | exact HB.out)⟩⟩
                      · rw [if_neg c20] at H
                        exact absurd H (by simp)
                    · rw [if_neg c19] at H
                      have c19b0 : decide ((wrap64 (((rd_T61 t460 x21_2).f0) + ((rd_T61 t460 x21_2).f1))) < (a0.size : Int)) = false := decide_eq_false c19
                      clear c19
                      have H' := Aside0.mk H
                      clear H
                      have p463 : 0 ≤ (x21_2 : Int) := of_decide_eq_true (by first | (with_reducible assumption) | assumption)
                      have q463 : x21_2 < (t460.length : Int) := of_decide_eq_true (by first | (with_reducible assumption) | assumption)
                      obtain ⟨ad463, e463, hx463_0, hx463_1⟩ := at_T61 (Kd.R_reads' HO_19.out).2.2 x21_2 p463 q463
                      cases e463
                      replace p463 := eq_true p463
                      replace q463 := eq_true q463
                      go_wp2_with (first | ((with_reducible refine gate_dst (N := 8) rfl ?_); (try (refine gate_guard (by rfl) ?_; dsimp only)); refine box_event ?hg (N := 8) ?hd (cs := #[.int .i64 0, .int .i64 0]) (t := 61) ?hr ?_; (case hd => rfl); (case hg => rfl); (case hr => first | (go_simp; done) | (go_simp; rfl)); intro gb464 hg w24 hbox hb; have n0_ := Aside0.mk (Kd.R_below (by (with_reducible repeat (first | apply Kd.R_alloc | apply Kd.R_drewN | apply Kd.R_drew)); exact HO_6.out) hb); have n1_ := Aside0.mk (Kd.R_below (Kd.R_elderB (by (with_reducible repeat (first | apply Kd.R_alloc | apply Kd.R_drewN | apply Kd.R_drew)); exact HO_19.out) gb464 (Nat.le_of_eq hg.symm)) hb); have n2_ := Aside0.mk (below_step (by repeat (first | (with_reducible first | exact HB.out | apply below_alloc | apply pw_below_drewN | apply below_drew1) | exact HB.out)) hb); have n3_ := Aside0.mk (hbox); have n4_ := Aside0.mk ((by rw [hg]; exact (below_size (by repeat (first | (with_reducible first | exact HB.out | apply below_alloc | apply pw_below_drewN | apply below_drew1) | exact HB.out))) : w.heap.size ≤ gb464)); have n5_ := Aside0.mk ((by rw [hg]; exact (below_size (by repeat (first | (with_reducible first | exact HB.out | apply below_alloc | apply pw_below_drewN | apply below_drew1) | exact HB.out))) : w.heap.size ≤ gb464)); clear HO_6; clear HO_19; clear HB; have HO_6 := n0_; have HO_19 := n1_; have HB := n2_; have BK464 := n3_; have GW464 := n4_; have GE464 := n5_; clear n0_ n1_ n2_ n3_ n4_ n5_; clear hb hbox hg; have hcz25_0 : w24.cell? ⟨gb464, 0, none⟩ = some (.int .i64 0) := (blk_cell BK464.out 0).trans rfl; have hcz25_1 : w24.cell? ⟨gb464, 1, none⟩ = some (.int .i64 0) := (blk_cell BK464.out 1).trans rfl; have hfz25_0 := blk_frozen BK464.out 0; have hfz25_1 := blk_frozen BK464.out 1))
                      go_roundg k2
                      case measure => have := HJ2.out; have := HK2.out; omega
                      case rel => exact ⟨(x6_2), (wrap64 (x21_2 + 1)), (by first | rfl | (simp; done) | (simp [*]; done)), H', ⟨by have := HJ2.out; have := HK2.out; omega⟩, ⟨by (with_reducible repeat (first | apply Kd.R_alloc | apply Kd.R_drewN | apply Kd.R_drew)); exact Kd.R_mono (Kd.R_far (p := ⟨gb464, 1, none⟩) (Kd.R_far (p := ⟨gb464, 0, none⟩) (Kd.R_types HO_6.out BK464.out (by decide)) (fun _ hk => hk.2) (.int .i64 ((rd_T61 t460 x21_2).f0))) (fun _ hk => hk.2) (.int .i64 ((rd_T61 t460 x21_2).f1))) (fun _ hk => trivial)⟩, ⟨by (with_reducible repeat (first | apply Kd.R_alloc | apply Kd.R_drewN | apply Kd.R_drew)); exact Kd.R_mono (Kd.R_far (p := ⟨gb464, 1, none⟩) (Kd.R_far (p := ⟨gb464, 0, none⟩) (Kd.R_mono HO_19.out (fun k_ hk => (⟨hk, hk.2⟩ : _ ∧ k_ ≠ gb464))) (fun _ hk => hk.2) (.int .i64 ((rd_T61 t460 x21_2).f0))) (fun _ hk => hk.2) (.int .i64 ((rd_T61 t460 x21_2).f1))) (fun _ hk => trivial)⟩, ⟨by repeat (first | (with_reducible first | exact HB.out | apply below_alloc | apply pw_below_drewN | apply below_drew1 | refine below_set ?_ GE464.out) | exact HB.out)⟩⟩
                  · rw [if_neg c18] at H
                    have c18b0 : decide (((rd_T61 t460 x21_2).f1) < a1) = false := decide_eq_false c18
                    clear c18
                    have H' := Aside0.mk H
                    clear H
                    have p463 : 0 ≤ (x21_2 : Int) := of_decide_eq_true (by first | (with_reducible assumption) | assumption)
                    have q463 : x21_2 < (t460.length : Int) := of_decide_eq_true (by first | (with_reducible assumption) | assumption)
                    obtain ⟨ad463, e463, hx463_0, hx463_1⟩ := at_T61 (Kd.R_reads' HO_19.out).2.2 x21_2 p463 q463
                    cases e463
                    replace p463 := eq_true p463
                    replace q463 := eq_true q463
                    go_wp2_with (first | ((with_reducible refine gate_dst (N := 8) rfl ?_); (try (refine gate_guard (by rfl) ?_; dsimp only)); refine box_event ?hg (N := 8) ?hd (cs := #[.int .i64 0, .int .i64 0]) (t := 61) ?hr ?_; (case hd => rfl); (case hg => rfl); (case hr => first | (go_simp; done) | (go_simp; rfl)); intro gb464 hg w26 hbox hb; have n0_ := Aside0.mk (Kd.R_below (by (with_reducible repeat (first | apply Kd.R_alloc | apply Kd.R_drewN | apply Kd.R_drew)); exact HO_6.out) hb); have n1_ := Aside0.mk (Kd.R_below (Kd.R_elderB (by (with_reducible repeat (first | apply Kd.R_alloc | apply Kd.R_drewN | apply Kd.R_drew)); exact HO_19.out) gb464 (Nat.le_of_eq hg.symm)) hb); have n2_ := Aside0.mk (below_step (by repeat (first | (with_reducible first | exact HB.out | apply below_alloc | apply pw_below_drewN | apply below_drew1) | exact HB.out)) hb); have n3_ := Aside0.mk (hbox); have n4_ := Aside0.mk ((by rw [hg]; exact (below_size (by repeat (first | (with_reducible first | exact HB.out | apply below_alloc | apply pw_below_drewN | apply below_drew1) | exact HB.out))) : w.heap.size ≤ gb464)); have n5_ := Aside0.mk ((by rw [hg]; exact (below_size (by repeat (first | (with_reducible first | exact HB.out | apply below_alloc | apply pw_below_drewN | apply below_drew1) | exact HB.out))) : w.heap.size ≤ gb464)); clear HO_6; clear HO_19; clear HB; have HO_6 := n0_; have HO_19 := n1_; have HB := n2_; have BK464 := n3_; have GW464 := n4_; have GE464 := n5_; clear n0_ n1_ n2_ n3_ n4_ n5_; clear hb hbox hg; have hcz27_0 : w26.cell? ⟨gb464, 0, none⟩ = some (.int .i64 0) := (blk_cell BK464.out 0).trans rfl; have hcz27_1 : w26.cell? ⟨gb464, 1, none⟩ = some (.int .i64 0) := (blk_cell BK464.out 1).trans rfl; have hfz27_0 := blk_frozen BK464.out 0; have hfz27_1 := blk_frozen BK464.out 1))
                    go_roundg k2
                    case measure => have := HJ2.out; have := HK2.out; omega
                    case rel => exact ⟨(x6_2), (wrap64 (x21_2 + 1)), (by first | rfl | (simp; done) | (simp [*]; done)), H', ⟨by have := HJ2.out; have := HK2.out; omega⟩, ⟨by (with_reducible repeat (first | apply Kd.R_alloc | apply Kd.R_drewN | apply Kd.R_drew)); exact Kd.R_mono (Kd.R_far (p := ⟨gb464, 1, none⟩) (Kd.R_far (p := ⟨gb464, 0, none⟩) (Kd.R_types HO_6.out BK464.out (by decide)) (fun _ hk => hk.2) (.int .i64 ((rd_T61 t460 x21_2).f0))) (fun _ hk => hk.2) (.int .i64 ((rd_T61 t460 x21_2).f1))) (fun _ hk => trivial)⟩, ⟨by (with_reducible repeat (first | apply Kd.R_alloc | apply Kd.R_drewN | apply Kd.R_drew)); exact Kd.R_mono (Kd.R_far (p := ⟨gb464, 1, none⟩) (Kd.R_far (p := ⟨gb464, 0, none⟩) (Kd.R_mono HO_19.out (fun k_ hk => (⟨hk, hk.2⟩ : _ ∧ k_ ≠ gb464))) (fun _ hk => hk.2) (.int .i64 ((rd_T61 t460 x21_2).f0))) (fun _ hk => hk.2) (.int .i64 ((rd_T61 t460 x21_2).f1))) (fun _ hk => trivial)⟩, ⟨by repeat (first | (with_reducible first | exact HB.out | apply below_alloc | apply pw_below_drewN | apply below_drew1 | refine below_set ?_ GE464.out) | exact HB.out)⟩⟩
                · rw [if_neg c17] at H
                  exact absurd H (by simp)
              · rw [if_neg c16] at H
                exact absurd H (by simp)
            · rw [if_neg c15] at H
              have c15b0 : decide (x21_2 < (t460.length : Int)) = false := decide_eq_false c15
              clear c15
              simp only [Option.some.injEq, Prod.mk.injEq] at H
              obtain ⟨rfl, rfl⟩ := H
              go_wp2
              go_ret2
              exact ⟨_, by first | rfl | (simp [errW_none, errW_some] <;> rfl) | (simp [*, errW_none, errW_some] <;> rfl), by (with_reducible repeat (first | apply Kd.R_alloc | apply Kd.R_drewN | apply Kd.R_drew)); exact HO_6.out, by repeat (first | (with_reducible first | exact HB.out | apply below_alloc | apply pw_below_drewN | apply below_drew1) | exact HB.out)⟩
end Go.Proofs.YthkpnbelbaljdaaDoor.X
end
section
/- A stub: the text lies in G0. -/
end
section
-- Written by a program of this session out of the kit's print of the loaded functions: a plain function of a Go function, and its contract.
namespace Go.Proofs.YthkpnbelbaljdaaDoor.X
open Go.RowKit Go.Proofs.YthkpnbelbaljdaaDoorW.PrintWords Go.Proofs.YthkpnbelbaljdaaDoorW.PrintLast Go.Proofs.YthkpnbelbaljdaaDoorW.PrintMore
attribute [local go_sem] max2_int min2_int max_two min_two max_three min_three max_four min_four   -- for this text's walks alone
set_option linter.unusedVariables false
set_option linter.unusedSimpArgs false
/-! ### impl_UpsOf: function 35 -/
def impl_UpsOf.f (k : Nat) (a0 : ByteArray) : Option (List Int × Bool) := (impl_IsWave.f a0).bind fun t468 => (if t468 = true then ((impl_changesTo.f k a0 49).bind fun t469 => (some (t469, true))) else (some (([] : List Int), false)))
set_option maxHeartbeats 8000000 in
set_option maxRecDepth 100000 in
theorem impl_UpsOf.calls (k : Nat) (a0 : ByteArray) (r1 : List Int) (r2 : Bool) (w : World) (h : impl_UpsOf.f k a0 = some (r1, r2)) :
    Calls Tryd.prog 35 #[.string a0] w fun e w' => ∃ v0_ : Value, e = .returned (.tuple #[v0_, .bool r2]) ∧ Kd.R (Kd.int .i64) 2 w' w.heap.size (fun _ => True) v0_ r1 ∧ Below w.heap.size w w' := by
  have HB := Aside0.mk (Below.refl w.heap.size w)
  have H : ((impl_IsWave.f a0).bind fun t468 => (if t468 = true then ((impl_changesTo.f k a0 49).bind fun t469 => (some (t469, true))) else (some (([] : List Int), false)))) = some (r1, r2) := h
  clear h
  replace H := Option.bind_eq_some_iff.mp H
  obtain ⟨t468, A20, H⟩ := H
  replace H : (if t468 = true then ((impl_changesTo.f k a0 49).bind fun t469 => (some (t469, true))) else (some (([] : List Int), false))) = some (r1, r2) := H
  have A2 := Aside0.mk A20
  clear A20
  by_cases c3 : t468 = true
  · subst c3
    have H1 : ((impl_changesTo.f k a0 49).bind fun t469 => (some (t469, true))) = some (r1, r2) := by rw [if_pos rfl] at H; exact H
    clear H
    have H := H1
    clear H1
    replace H := Option.bind_eq_some_iff.mp H
    obtain ⟨t469, A40, H⟩ := H
    replace H : (some (t469, true)) = some (r1, r2) := H
    have A4 := Aside0.mk A40
    clear A40
    simp only [Option.some.injEq, Prod.mk.injEq] at H
    obtain ⟨rfl, rfl⟩ := H
    go_enter Tryd.func35, Tryd.ntmps35
    go_wp2_with (first | ((with_reducible refine gate_callee (f := 69) rfl ?_); refine goesL_ (some 5) rfl rfl Tryd.func69 (by kernel_rfl) rfl #[.string a0] rfl (by (try simp only [List.map_toArray, List.map_cons, List.map_nil]); first | done | rfl | (simp only [List.length_drop, List.length_take]; rfl)) ?_; (with_reducible refine (impl_IsWave.calls a0 true _ A2.out).mono ?_); rintro e w5 ⟨rfl, hb⟩; refine ⟨_, rfl, ?_⟩; have n0_ := Aside0.mk (below_step (by repeat (first | (with_reducible first | exact HB.out | apply below_alloc | apply pw_below_drewN | apply below_drew1) | exact HB.out)) hb); clear HB; have HB := n0_; clear n0_; (try clear hb); (try clear hb2); (try clear hk); (try clear hi)) | ((with_reducible refine gate_callee (f := 49) rfl ?_); refine goesL_ (some 8) rfl rfl Tryd.func49 (by kernel_rfl) rfl #[.string a0, .int .u8 49] rfl (by (try simp only [List.map_toArray, List.map_cons, List.map_nil]); first | done | rfl | (simp only [List.length_drop, List.length_take]; rfl)) ?_; (with_reducible refine (impl_changesTo.calls k a0 49 t469 _ A4.out).mono ?_); rintro e w6 ⟨v470, rfl, ho0, hb⟩; refine ⟨_, rfl, ?_⟩; have n0_ := Aside0.mk (Kd.R_lower ho0 (below_size (by repeat (first | (with_reducible first | exact HB.out | apply below_alloc | apply pw_below_drewN | apply below_drew1) | exact HB.out)))); have n1_ := Aside0.mk (below_step (by repeat (first | (with_reducible first | exact HB.out | apply below_alloc | apply pw_below_drewN | apply below_drew1) | exact HB.out)) hb); clear HB; have HO471 := n0_; have HB := n1_; clear n0_ n1_; (try clear hb); (try clear hb2); (try clear hk); (try clear hi); (try clear ho0)))
    go_ret2
    exact ⟨_, by first | rfl | (simp [errW_none, errW_some] <;> rfl) | (simp [*, errW_none, errW_some] <;> rfl), by (with_reducible repeat (first | apply Kd.R_alloc | apply Kd.R_drewN | apply Kd.R_drew)); exact HO471.out, by repeat (first | (with_reducible first | exact HB.out | apply below_alloc | apply pw_below_drewN | apply below_drew1) | exact HB.out)⟩
  · replace c3 := Bool.eq_false_iff.mpr c3
    subst c3
    have H1 : (some (([] : List Int), false)) = some (r1, r2) := by rw [if_neg (show ¬ (false = true) by decide)] at H; exact H
    clear H
    have H := H1
    clear H1
    simp only [Option.some.injEq, Prod.mk.injEq] at H
    obtain ⟨rfl, rfl⟩ := H
    go_enter Tryd.func35, Tryd.ntmps35
    go_wp2_with (first | ((with_reducible refine gate_callee (f := 69) rfl ?_); refine goesL_ (some 5) rfl rfl Tryd.func69 (by kernel_rfl) rfl #[.string a0] rfl (by (try simp only [List.map_toArray, List.map_cons, List.map_nil]); first | done | rfl | (simp only [List.length_drop, List.length_take]; rfl)) ?_; (with_reducible refine (impl_IsWave.calls a0 false _ A2.out).mono ?_); rintro e w7 ⟨rfl, hb⟩; refine ⟨_, rfl, ?_⟩; have n0_ := Aside0.mk (below_step (by repeat (first | (with_reducible first | exact HB.out | apply below_alloc | apply pw_below_drewN | apply below_drew1) | exact HB.out)) hb); clear HB; have HB := n0_; clear n0_; (try clear hb); (try clear hb2); (try clear hk); (try clear hi)))
    go_ret2
    exact ⟨_, by first | rfl | (simp [errW_none, errW_some] <;> rfl) | (simp [*, errW_none, errW_some] <;> rfl), by first | exact Kd.R_nil _ _ _ _ _ | exact Kd.N_nil _ _ _ _ _ | exact Kd.V_nil _ _ _ _ _ | exact Kd.Q_nil _ _ _ _ _ | exact Kd.S_nil _ _ _ _ _, by repeat (first | (with_reducible first | exact HB.out | apply below_alloc | apply pw_below_drewN | apply below_drew1) | exact HB.out)⟩
end Go.Proofs.YthkpnbelbaljdaaDoor.X
end
section
-- Written by a program of this session out of the kit's print of the loaded functions: a plain function of a Go function, and its contract.
namespace Go.Proofs.YthkpnbelbaljdaaDoor.X
open Go.RowKit Go.Proofs.YthkpnbelbaljdaaDoorW.PrintWords Go.Proofs.YthkpnbelbaljdaaDoorW.PrintLast Go.Proofs.YthkpnbelbaljdaaDoorW.PrintMore
attribute [local go_sem] max2_int min2_int max_two min_two max_three min_three max_four min_four   -- for this text's walks alone
set_option linter.unusedVariables false
set_option linter.unusedSimpArgs false
/-! ### impl_PulsesOf: function 36 -/
def impl_PulsesOf.f (a0 : ByteArray) : Option (List Int × Bool) := (impl_IsWave.f a0).bind fun t474 => (if t474 = true then ((impl_lengthsOf.f a0 (⟨#[48]⟩ : ByteArray)).bind fun t475 => (some (t475, true))) else (some (([] : List Int), false)))
set_option maxHeartbeats 8000000 in
set_option maxRecDepth 100000 in
theorem impl_PulsesOf.calls (a0 : ByteArray) (r1 : List Int) (r2 : Bool) (w : World) (h : impl_PulsesOf.f a0 = some (r1, r2)) :
    Calls Tryd.prog 36 #[.string a0] w fun e w' => ∃ v0_ : Value, e = .returned (.tuple #[v0_, .bool r2]) ∧ Kd.R (Kd.int .i64) 2 w' w.heap.size (fun _ => True) v0_ r1 ∧ Below w.heap.size w w' := by
  have HB := Aside0.mk (Below.refl w.heap.size w)
  have H : ((impl_IsWave.f a0).bind fun t474 => (if t474 = true then ((impl_lengthsOf.f a0 (⟨#[48]⟩ : ByteArray)).bind fun t475 => (some (t475, true))) else (some (([] : List Int), false)))) = some (r1, r2) := h
  clear h
  replace H := Option.bind_eq_some_iff.mp H
  obtain ⟨t474, A20, H⟩ := H
  replace H : (if t474 = true then ((impl_lengthsOf.f a0 (⟨#[48]⟩ : ByteArray)).bind fun t475 => (some (t475, true))) else (some (([] : List Int), false))) = some (r1, r2) := H
  have A2 := Aside0.mk A20
  clear A20
  by_cases c3 : t474 = true
  · subst c3
    have H1 : ((impl_lengthsOf.f a0 (⟨#[48]⟩ : ByteArray)).bind fun t475 => (some (t475, true))) = some (r1, r2) := by rw [if_pos rfl] at H; exact H
    clear H
    have H := H1
    clear H1
    replace H := Option.bind_eq_some_iff.mp H
    obtain ⟨t475, A40, H⟩ := H
    replace H : (some (t475, true)) = some (r1, r2) := H
    have A4 := Aside0.mk A40
    clear A40
    simp only [Option.some.injEq, Prod.mk.injEq] at H
    obtain ⟨rfl, rfl⟩ := H
    go_enter Tryd.func36, Tryd.ntmps36
    go_wp2_with (first | ((with_reducible refine gate_callee (f := 69) rfl ?_); refine goesL_ (some 5) rfl rfl Tryd.func69 (by kernel_rfl) rfl #[.string a0] rfl (by (try simp only [List.map_toArray, List.map_cons, List.map_nil]); first | done | rfl | (simp only [List.length_drop, List.length_take]; rfl)) ?_; (with_reducible refine (impl_IsWave.calls a0 true _ A2.out).mono ?_); rintro e w5 ⟨rfl, hb⟩; refine ⟨_, rfl, ?_⟩; have n0_ := Aside0.mk (below_step (by repeat (first | (with_reducible first | exact HB.out | apply below_alloc | apply pw_below_drewN | apply below_drew1) | exact HB.out)) hb); clear HB; have HB := n0_; clear n0_; (try clear hb); (try clear hb2); (try clear hk); (try clear hi)) | ((with_reducible refine gate_callee (f := 70) rfl ?_); refine goesL_ (some 8) rfl rfl Tryd.func70 (by kernel_rfl) rfl #[.string a0, .string (⟨#[48]⟩ : ByteArray)] rfl (by (try simp only [List.map_toArray, List.map_cons, List.map_nil]); first | done | rfl | (simp only [List.length_drop, List.length_take]; rfl)) ?_; (with_reducible refine (impl_lengthsOf.calls a0 (⟨#[48]⟩ : ByteArray) t475 _ A4.out).mono ?_); rintro e w6 ⟨v476, rfl, ho0, hb⟩; refine ⟨_, rfl, ?_⟩; have n0_ := Aside0.mk (Kd.R_lower ho0 (below_size (by repeat (first | (with_reducible first | exact HB.out | apply below_alloc | apply pw_below_drewN | apply below_drew1) | exact HB.out)))); have n1_ := Aside0.mk (below_step (by repeat (first | (with_reducible first | exact HB.out | apply below_alloc | apply pw_below_drewN | apply below_drew1) | exact HB.out)) hb); clear HB; have HO477 := n0_; have HB := n1_; clear n0_ n1_; (try clear hb); (try clear hb2); (try clear hk); (try clear hi); (try clear ho0)))
    go_ret2
    exact ⟨_, by first | rfl | (simp [errW_none, errW_some] <;> rfl) | (simp [*, errW_none, errW_some] <;> rfl), by (with_reducible repeat (first | apply Kd.R_alloc | apply Kd.R_drewN | apply Kd.R_drew)); exact HO477.out, by repeat (first | (with_reducible first | exact HB.out | apply below_alloc | apply pw_below_drewN | apply below_drew1) | exact HB.out)⟩
  · replace c3 := Bool.eq_false_iff.mpr c3
    subst c3
    have H1 : (some (([] : List Int), false)) = some (r1, r2) := by rw [if_neg (show ¬ (false = true) by decide)] at H; exact H
    clear H
    have H := H1
    clear H1
    simp only [Option.some.injEq, Prod.mk.injEq] at H
    obtain ⟨rfl, rfl⟩ := H
    go_enter Tryd.func36, Tryd.ntmps36
    go_wp2_with (first | ((with_reducible refine gate_callee (f := 69) rfl ?_); refine goesL_ (some 5) rfl rfl Tryd.func69 (by kernel_rfl) rfl #[.string a0] rfl (by (try simp only [List.map_toArray, List.map_cons, List.map_nil]); first | done | rfl | (simp only [List.length_drop, List.length_take]; rfl)) ?_; (with_reducible refine (impl_IsWave.calls a0 false _ A2.out).mono ?_); rintro e w7 ⟨rfl, hb⟩; refine ⟨_, rfl, ?_⟩; have n0_ := Aside0.mk (below_step (by repeat (first | (with_reducible first | exact HB.out | apply below_alloc | apply pw_below_drewN | apply below_drew1) | exact HB.out)) hb); clear HB; have HB := n0_; clear n0_; (try clear hb); (try clear hb2); (try clear hk); (try clear hi)))
    go_ret2
    exact ⟨_, by first | rfl | (simp [errW_none, errW_some] <;> rfl) | (simp [*, errW_none, errW_some] <;> rfl), by first | exact Kd.R_nil _ _ _ _ _ | exact Kd.N_nil _ _ _ _ _ | exact Kd.V_nil _ _ _ _ _ | exact Kd.Q_nil _ _ _ _ _ | exact Kd.S_nil _ _ _ _ _, by repeat (first | (with_reducible first | exact HB.out | apply below_alloc | apply pw_below_drewN | apply below_drew1) | exact HB.out)⟩
end Go.Proofs.YthkpnbelbaljdaaDoor.X
end
section
-- Written by a program of this session out of the kit's print of the loaded functions: a plain function of a Go function, and its contract.
namespace Go.Proofs.YthkpnbelbaljdaaDoor.X
open Go.RowKit Go.Proofs.YthkpnbelbaljdaaDoorW.PrintWords Go.Proofs.YthkpnbelbaljdaaDoorW.PrintLast Go.Proofs.YthkpnbelbaljdaaDoorW.PrintMore
attribute [local go_sem] max2_int min2_int max_two min_two max_three min_three max_four min_four   -- for this text's walks alone
set_option linter.unusedVariables false
set_option linter.unusedSimpArgs false
/-! ### laws_b10Ups: function 37 -/
mutual
def laws_b10Ups.l0 : Nat → ByteArray → Int → Int → Int → Option (Int)
  | 0, _, _, _, _ => none
  | k + 1, x0, x1, x5, x6 => if x6 < x1 then (laws_b10Ups.j1 k x0 x1 x5 x6 (decide (x6 < (x0.size : Int)))) else (laws_b10Ups.j1 k x0 x1 x5 x6 false)
def laws_b10Ups.j1 : Nat → ByteArray → Int → Int → Int → Bool → Option (Int)
  | 0, _, _, _, _, _ => none
  | k + 1, x0, x1, x5, x6, x15 => if x15 = true then (if 0 ≤ x6 then (if x6 < (x0.size : Int) then (if (bt x0 x6) = 49 then (if x6 = 0 then (laws_b10Ups.l0 k x0 x1 (wrap64 (x5 + 1)) (wrap64 (x6 + 1))) else (if 0 ≤ (wrap64 (x6 - 1)) then (if (wrap64 (x6 - 1)) < (x0.size : Int) then (if (bt x0 (wrap64 (x6 - 1))) = 48 then (laws_b10Ups.l0 k x0 x1 (wrap64 (x5 + 1)) (wrap64 (x6 + 1))) else (laws_b10Ups.l0 k x0 x1 x5 (wrap64 (x6 + 1)))) else (none)) else (none))) else (laws_b10Ups.l0 k x0 x1 x5 (wrap64 (x6 + 1)))) else (none)) else (none)) else (some x5)
end
def laws_b10Ups.f (k : Nat) (a0 : ByteArray) (a1 : Int) : Option (Int) := laws_b10Ups.l0 k a0 a1 0 0
set_option maxHeartbeats 8000000 in
set_option maxRecDepth 100000 in
theorem laws_b10Ups.calls (k : Nat) (a0 : ByteArray) (a1 : Int) (r : Int) (w : World) (h : laws_b10Ups.f k a0 a1 = some r) :
    Calls Tryd.prog 37 #[.string a0, .int .i64 a1] w fun e w' => e = .returned (.int .i64 r) ∧ Drawn0 w w' := by
  have H : (laws_b10Ups.l0 k a0 a1 0 0) = some r := h
  clear h
  have H' := Aside0.mk H
  clear H
  go_enter Tryd.func37, Tryd.ntmps37
  go_wp2
  go_loopg [5, 6] k (fun kq v5 v6 w' => ∃ (x5_1 : Int) (x6_1 : Int), v5 = .int .i64 x5_1 ∧ v6 = .int .i64 x6_1 ∧ Aside0 (laws_b10Ups.l0 kq a0 a1 x5_1 x6_1 = some r) ∧ Aside0 (kq ≤ k) ∧ Drawn0 w w')
  case atStart => exact ⟨(0), (0), (by first | rfl | (simp; done) | (simp [*]; done)), (by first | rfl | (simp; done) | (simp [*]; done)), H', ⟨Nat.le_refl _⟩, by repeat (first | exact Drawn0.refl _ | apply Drawn0.step)⟩
  case round =>
    clear H'
    try clear p2
    obtain ⟨x5_1, x6_1, rfl, rfl, HA, HK1, ⟨m1, rfl⟩⟩ := hrel
    cases gk with
    | zero => exact absurd HA.out (by simp [laws_b10Ups.l0])
    | succ k1 =>
      have H := HA.out
      clear HA
      simp only [laws_b10Ups.l0] at H
      have HC3 := Aside0.mk H
      clear H
      go_upto_region 3 with (fail)
      go_cut [15] (fun v15 wc => ∃ (kq : Nat) (x15_2 : Bool), v15 = .bool x15_2 ∧ Aside0 (laws_b10Ups.j1 kq a0 a1 x5_1 x6_1 x15_2 = some r) ∧ Aside0 (kq ≤ k1) ∧ Drawn0 w wc)
      case first =>
        have H := HC3.out
        clear HC3
        by_cases c4 : x6_1 < a1
        · rw [if_pos c4] at H
          have c4b0 : decide (x6_1 < a1) = true := decide_eq_true c4
          clear c4
          (first | rw [c4b0] | (simp only [i64_w, i32_w]; rw [c4b0]) | skip)
          have H' := Aside0.mk H
          clear H
          go_wp2
          go_meet
          case rel => exact ⟨_, (decide (x6_1 < (a0.size : Int))), (by first | rfl | (simp; done) | (simp [*]; done)), H', ⟨by have := HK1.out; first | omega | exact Nat.le_refl _⟩, by repeat (first | exact Drawn0.refl _ | apply Drawn0.step)⟩
        · rw [if_neg c4] at H
          have c4b0 : decide (x6_1 < a1) = false := decide_eq_false c4
          clear c4
          (first | rw [c4b0] | (simp only [i64_w, i32_w]; rw [c4b0]) | skip)
          have H' := Aside0.mk H
          clear H
          go_wp2
          go_meet
          case rel => exact ⟨_, (false), (by first | rfl | (simp; done) | (simp [*]; done)), H', ⟨by have := HK1.out; first | omega | exact Nat.le_refl _⟩, by repeat (first | exact Drawn0.refl _ | apply Drawn0.step)⟩
      case rest =>
        clear HC3
        try clear p2
        try clear c3
        try clear c4
        try clear c4b0
        try clear p2
        obtain ⟨kq, x15_2, rfl, HA, HJ2, ⟨mc2, rfl⟩⟩ := hcut
        cases kq with
        | zero => exact absurd HA.out (by simp [laws_b10Ups.j1])
        | succ kj2 =>
          have H := HA.out
          clear HA
          simp only [laws_b10Ups.j1] at H
          by_cases c5 : x15_2 = true
          · subst c5
            have H1 : (if 0 ≤ x6_1 then (if x6_1 < (a0.size : Int) then (if (bt a0 x6_1) = 49 then (if x6_1 = 0 then (laws_b10Ups.l0 kj2 a0 a1 (wrap64 (x5_1 + 1)) (wrap64 (x6_1 + 1))) else (if 0 ≤ (wrap64 (x6_1 - 1)) then (if (wrap64 (x6_1 - 1)) < (a0.size : Int) then (if (bt a0 (wrap64 (x6_1 - 1))) = 48 then (laws_b10Ups.l0 kj2 a0 a1 (wrap64 (x5_1 + 1)) (wrap64 (x6_1 + 1))) else (laws_b10Ups.l0 kj2 a0 a1 x5_1 (wrap64 (x6_1 + 1)))) else (none)) else (none))) else (laws_b10Ups.l0 kj2 a0 a1 x5_1 (wrap64 (x6_1 + 1)))) else (none)) else (none)) = some r := by rw [if_pos rfl] at H; exact H
            clear H
            have H := H1
            clear H1
            by_cases c6 : 0 ≤ x6_1
            · rw [if_pos c6] at H
              have c6b0 : decide (0 ≤ x6_1) = true := decide_eq_true c6
              clear c6
              by_cases c7 : x6_1 < (a0.size : Int)
              · rw [if_pos c7] at H
                have c7b0 : decide (x6_1 < (a0.size : Int)) = true := decide_eq_true c7
                clear c7
                by_cases c9 : (bt a0 x6_1) = 49
                · rw [if_pos c9] at H
                  have c9b0 : ((bt a0 x6_1) == 49) = true := beq_iff_eq.mpr c9
                  have c9b1 : ((bt a0 x6_1) != 49) = false := bne_eq_false_iff_eq.mpr c9
                  clear c9
                  by_cases c10 : x6_1 = 0
                  · rw [if_pos c10] at H
                    have c10b0 : (x6_1 == 0) = true := beq_iff_eq.mpr c10
                    have c10b1 : (x6_1 != 0) = false := bne_eq_false_iff_eq.mpr c10
                    clear c10
                    have H' := Aside0.mk H
                    clear H
                    have p8 : 0 ≤ (x6_1 : Int) := of_decide_eq_true (by first | (with_reducible assumption) | assumption)
                    have q8 : x6_1 < (a0.size : Int) := of_decide_eq_true (by first | (with_reducible assumption) | assumption)
                    have hx8 := bt_at a0 x6_1
                    replace p8 := eq_true p8
                    replace q8 := eq_true q8
                    go_wp2
                    go_roundg kj2
                    case measure => have := HK1.out; have := HJ2.out; omega
                    case rel => exact ⟨(wrap64 (x5_1 + 1)), (wrap64 (x6_1 + 1)), (by first | rfl | (simp; done) | (simp [*]; done)), (by first | rfl | (simp; done) | (simp [*]; done)), H', ⟨by have := HK1.out; have := HJ2.out; omega⟩, by repeat (first | exact Drawn0.refl _ | apply Drawn0.step)⟩
                  · rw [if_neg c10] at H
                    have c10b0 : (x6_1 == 0) = false := beq_eq_false_iff_ne.mpr c10
                    have c10b1 : (x6_1 != 0) = true := bne_iff_ne.mpr c10
                    obtain ⟨ji11, hji11⟩ : ∃ j_ : Int, (wrap64 (x6_1 - 1)) = j_ := ⟨_, rfl⟩
                    replace H : (if 0 ≤ (ji11) then (if (ji11) < (a0.size : Int) then (if (bt a0 (ji11)) = 48 then (laws_b10Ups.l0 kj2 a0 a1 (wrap64 (x5_1 + 1)) (wrap64 (x6_1 + 1))) else (laws_b10Ups.l0 kj2 a0 a1 x5_1 (wrap64 (x6_1 + 1)))) else (none)) else (none)) = some r := by first | (rw [hji11] at H; exact H) | (simp only [hji11] at H ⊢; exact H)
                    have hji11w : (IntKind.i64.wrap (x6_1 - 1)) = ji11 := (i64_w _).trans hji11
                    by_cases c12 : 0 ≤ (ji11)
                    · rw [if_pos c12] at H
                      have c12b0 : decide (0 ≤ (ji11)) = true := decide_eq_true c12
                      clear c12
                      by_cases c13 : (ji11) < (a0.size : Int)
                      · rw [if_pos c13] at H
                        have c13b0 : decide ((ji11) < (a0.size : Int)) = true := decide_eq_true c13
                        clear c13
                        by_cases c15 : (bt a0 (ji11)) = 48
                        · rw [if_pos c15] at H
                          have c15b0 : ((bt a0 (ji11)) == 48) = true := beq_iff_eq.mpr c15
                          have c15b1 : ((bt a0 (ji11)) != 48) = false := bne_eq_false_iff_eq.mpr c15
                          clear c15
                          have H' := Aside0.mk H
                          clear H
                          have p8 : 0 ≤ (x6_1 : Int) := of_decide_eq_true (by first | (with_reducible assumption) | assumption)
                          have q8 : x6_1 < (a0.size : Int) := of_decide_eq_true (by first | (with_reducible assumption) | assumption)
                          have hx8 := bt_at a0 x6_1
                          replace p8 := eq_true p8
                          replace q8 := eq_true q8
                          have p14 : 0 ≤ ((ji11) : Int) := of_decide_eq_true (by first | (with_reducible assumption) | assumption)
                          have q14 : (ji11) < (a0.size : Int) := of_decide_eq_true (by first | (with_reducible assumption) | assumption)
                          have hx14 := bt_at a0 (ji11)
                          replace p14 := eq_true p14
                          replace q14 := eq_true q14
                          go_wp2
                          go_roundg kj2
                          case measure => have := HK1.out; have := HJ2.out; omega
                          case rel => exact ⟨(wrap64 (x5_1 + 1)), (wrap64 (x6_1 + 1)), (by first | rfl | (simp; done) | (simp [*]; done)), (by first | rfl | (simp; done) | (simp [*]; done)), H', ⟨by have := HK1.out; have := HJ2.out; omega⟩, by repeat (first | exact Drawn0.refl _ | apply Drawn0.step)⟩
                        · rw [if_neg c15] at H
                          have c15b0 : ((bt a0 (ji11)) == 48) = false := beq_eq_false_iff_ne.mpr c15
                          have c15b1 : ((bt a0 (ji11)) != 48) = true := bne_iff_ne.mpr c15
                          have H' := Aside0.mk H
                          clear H
                          have p8 : 0 ≤ (x6_1 : Int) := of_decide_eq_true (by first | (with_reducible assumption) | assumption)
                          have q8 : x6_1 < (a0.size : Int) := of_decide_eq_true (by first | (with_reducible assumption) | assumption)
                          have hx8 := bt_at a0 x6_1
                          replace p8 := eq_true p8
                          replace q8 := eq_true q8
                          have p14 : 0 ≤ ((ji11) : Int) := of_decide_eq_true (by first | (with_reducible assumption) | assumption)
                          have q14 : (ji11) < (a0.size : Int) := of_decide_eq_true (by first | (with_reducible assumption) | assumption)
                          have hx14 := bt_at a0 (ji11)
                          replace p14 := eq_true p14
                          replace q14 := eq_true q14
                          go_wp2
                          go_roundg kj2
                          case measure => have := HK1.out; have := HJ2.out; omega
                          case rel => exact ⟨(x5_1), (wrap64 (x6_1 + 1)), (by first | rfl | (simp; done) | (simp [*]; done)), (by first | rfl | (simp; done) | (simp [*]; done)), H', ⟨by have := HK1.out; have := HJ2.out; omega⟩, by repeat (first | exact Drawn0.refl _ | apply Drawn0.step)⟩
                      · rw [if_neg c13] at H
                        exact absurd H (by simp)
                    · rw [if_neg c12] at H
                      exact absurd H (by simp)
                · rw [if_neg c9] at H
                  have c9b0 : ((bt a0 x6_1) == 49) = false := beq_eq_false_iff_ne.mpr c9
                  have c9b1 : ((bt a0 x6_1) != 49) = true := bne_iff_ne.mpr c9
                  have H' := Aside0.mk H
                  clear H
                  have p8 : 0 ≤ (x6_1 : Int) := of_decide_eq_true (by first | (with_reducible assumption) | assumption)
                  have q8 : x6_1 < (a0.size : Int) := of_decide_eq_true (by first | (with_reducible assumption) | assumption)
                  have hx8 := bt_at a0 x6_1
                  replace p8 := eq_true p8
                  replace q8 := eq_true q8
                  go_wp2
                  go_roundg kj2
                  case measure => have := HK1.out; have := HJ2.out; omega
                  case rel => exact ⟨(x5_1), (wrap64 (x6_1 + 1)), (by first | rfl | (simp; done) | (simp [*]; done)), (by first | rfl | (simp; done) | (simp [*]; done)), H', ⟨by have := HK1.out; have := HJ2.out; omega⟩, by repeat (first | exact Drawn0.refl _ | apply Drawn0.step)⟩
              · rw [if_neg c7] at H
                exact absurd H (by simp)
            · rw [if_neg c6] at H
              exact absurd H (by simp)
          · replace c5 := Bool.eq_false_iff.mpr c5
            subst c5
            have H1 : (some x5_1) = some r := by rw [if_neg (show ¬ (false = true) by decide)] at H; exact H
            clear H
            have H := H1
            clear H1
            obtain rfl := Option.some.inj H
            go_wp2
            go_ret
            exact ⟨by first | rfl | (simp; done) | (simp [*]; done), by repeat (first | exact Drawn0.refl _ | apply Drawn0.step)⟩
end Go.Proofs.YthkpnbelbaljdaaDoor.X
end
section
/- A stub: the text lies in G2. -/
end
section
/- A stub: the text lies in G0. -/
end
section
/- A stub: the text lies in G1. -/
end
section
/- The program's GateWave: what it answers. Conditions: as each lemma says. -/
namespace Go.Proofs.YthkpnbelbaljdaaDoor.X
open Go.RowKit Go.Proofs.YthkpnbelbaljdaaDoorW.PrintWords Go.Proofs.YthkpnbelbaljdaaDoorW.PrintLast Go.Proofs.YthkpnbelbaljdaaDoorW.PrintMore
set_option linter.unusedVariables false
set_option linter.unusedSimpArgs false
/-- The tick at which the clock has been low last, ahead of a tick. -/
def lst (s : ByteArray) : Nat → Int
  | 0 => 0
  | i + 1 => if bt s (i : Int) = 48 then (i : Int) else lst s i
theorem lst_rng (s : ByteArray) : ∀ i : Nat, 0 ≤ lst s i ∧ (lst s i = 0 ∨ lst s i < i)
  | 0 => by simp [lst]
  | i + 1 => by
    have := lst_rng s i
    unfold lst
    split <;> omega
def glv (s z : ByteArray) (i : Nat) : Bool := (!(bt s i == 48)) && (bt z (lst s i) == 49)
set_option maxHeartbeats 4000000 in
set_option maxRecDepth 100000 in
theorem GateClo (s z : ByteArray) (i T T1 : Int) (r : Bool) (gs gt gz B0 : Nat) (w : World) (h1 : w.heap[gs]? = some (.cells #[.string s] 9 (0, 0))) (h2 : w.heap[gt]? = some (.cells #[.int .i64 T] 3 (0, 0))) (h3 : w.heap[gz]? = some (.cells #[.string z] 9 (0, 0))) (hi0 : 0 ≤ i) (his : i < (s.size : Int)) (hT0 : 0 ≤ T) (hTz : T < (z.size : Int)) (hB : B0 ≤ gt)
    (hT1 : T1 = if bt s i = 48 then i else T) (hr : r = ((!(bt s i == 48)) && (bt z T == 49))) :
    Calls Tryd.prog 67 #[.int .i64 i, .pointer (some ⟨gs, 0, none⟩), .pointer (some ⟨gt, 0, none⟩), .pointer (some ⟨gz, 0, none⟩)] w fun e w' => e = .returned (.bool r) ∧ w'.heap[gt]? = some (.cells #[.int .i64 T1] 3 (0, 0)) ∧ Below B0 w w' ∧ Kept w w' (· = gt) := by
  have c1 : w.cell? ⟨gs, 0, none⟩ = some (.string s) := (blk_cell h1 0).trans rfl
  have c2 : w.cell? ⟨gt, 0, none⟩ = some (.int .i64 T) := (blk_cell h2 0).trans rfl
  have c3 : w.cell? ⟨gz, 0, none⟩ = some (.string z) := (blk_cell h3 0).trans rfl
  have z2 := blk_frozen h2 0
  have B2 := Aside0.mk h2
  have HB := Aside0.mk (Below.refl B0 w)
  have HK := Aside0.mk (Kept.refl w (· = gt))
  have HBB := Aside0.mk hB
  clear h1 h2 h3 hB
  have hbs := bt_at s i
  have hbz := bt_at z T
  have p0 := eq_true hi0
  have p1 := eq_true his
  have p2 := eq_true hT0
  have p3 := eq_true hTz
  have K1 := Aside0.mk hT1
  have K2 := Aside0.mk hr
  clear hT1 hr
  by_cases hz : bt s i = 48
  · have m1 : (bt s i == 48) = true := beq_iff_eq.mpr hz
    have e1 : Aside0 (T1 = i) := ⟨K1.out.trans (if_pos hz)⟩
    have e2 : Aside0 (r = false) := ⟨by rw [K2.out, m1]; rfl⟩
    go_enter Tryd.func67, Tryd.ntmps67
    go_wp2
    go_ret
    rw [e1.out, e2.out]
    exact ⟨rfl, blk_put B2.out 0 _ rfl, HB.out.setCell HBB.out _, Kept.setCell (p := ⟨gt, 0, none⟩) HK.out (.inl rfl) (.int .i64 i)⟩
  · have m1 : (bt s i == 48) = false := beq_eq_false_iff_ne.mpr hz
    have e1 : Aside0 (T1 = T) := ⟨K1.out.trans (if_neg hz)⟩
    have e2 : Aside0 (r = (bt z T == 49)) := ⟨by rw [K2.out, m1]; rfl⟩
    go_enter Tryd.func67, Tryd.ntmps67
    go_wp2
    go_ret
    rw [e1.out, e2.out]
    exact ⟨rfl, B2.out, HB.out, HK.out⟩
set_option maxHeartbeats 4000000 in
set_option maxRecDepth 100000 in
theorem Gate_no (s z : ByteArray) (w : World) (h1 : impl_areWaves.f [s, z] = some false) :
    Calls Tryd.prog 32 #[.string s, .string z] w fun e w' => e = .returned (.tuple #[.string ⟨#[]⟩, .bool false]) ∧ Below w.heap.size w w' := by
  have Hh1 := Aside0.mk h1
  clear h1
  have HB := Aside0.mk (Below.refl w.heap.size w)
  obtain ⟨ls, hls⟩ : ∃ ls : List ByteArray, ls = [s, z] := ⟨_, rfl⟩
  have NL := Aside0.mk hls
  clear hls
  go_enter Tryd.func32, Tryd.ntmps32
  go_wp2_with (first
    | ((with_reducible refine gate_dst (N := 2) rfl ?_); refine box_event ?hg (N := 2) ?hd (cs := #[.string s]) (t := 9) ?hr ?_; (case hd => rfl); (case hg => rfl); (case hr => first | (go_simp; done) | (go_simp; rfl)); intro g2 hg wn hbox hb; have GE2 := Aside0.mk (by rw [hg]; exact below_size HB.out : w.heap.size ≤ g2); clear hg; have BK20 := Aside0.mk hbox; clear hbox; have n0_ := Aside0.mk (below_step HB.out hb); clear HB  hb; have HB := n0_; clear n0_ ; have BK2 := BK20; clear BK20; have c2_0 : wn.cell? ⟨g2, 0, none⟩ = some (.string s) := (blk_cell BK2.out 0).trans rfl)
    | ((with_reducible refine gate_dst (N := 3) rfl ?_); refine box_event ?hg (N := 3) ?hd (cs := #[.string z]) (t := 9) ?hr ?_; (case hd => rfl); (case hg => rfl); (case hr => first | (go_simp; done) | (go_simp; rfl)); intro g3 hg wn hbox hb; have GE3 := Aside0.mk (by rw [hg]; exact below_size HB.out : w.heap.size ≤ g3); have NE2_3 := Aside0.mk (show g2 ≠ g3 by have := blk_lt BK2.out; omega); clear hg; have BK30 := Aside0.mk hbox; clear hbox; have n0_ := Aside0.mk (below_step HB.out hb); have m2_ := Aside0.mk (blk_below BK2.out hb); clear HB BK2 hb; have HB := n0_; have BK2 := m2_; clear n0_ m2_; have c2_0 : wn.cell? ⟨g2, 0, none⟩ = some (.string s) := (blk_cell BK2.out 0).trans rfl; have BK3 := BK30; clear BK30; have c3_0 : wn.cell? ⟨g3, 0, none⟩ = some (.string z) := (blk_cell BK3.out 0).trans rfl)
    | ((with_reducible refine gate_dst (N := 9) rfl ?_); refine Kd.R_lit Kd.string _ 9 ?hg (N := 9) ?hd (xs := ([s, z] : List ByteArray)) (inner := [.string s, .string z]) (ok := fun _ => True) (okp := fun _ => True) ?hr ?hp (fun _ hk => hk) trivial (Below.refl _ _) (Nat.le_refl _) (by simp) ?_; (case hd => rfl); (case hg => rfl); (case hr => first | (go_simp; done) | (go_simp; rfl)); (case hp => exact (Reps.one rfl (Reps.one rfl (Reps.none _ _)))); intro vl wn hol hb hg_ hnew_; clear hg_ hnew_; rw [← NL.out] at hol; obtain ⟨Al, cl, el⟩ := Kd.R_slice hol; subst el; have HL := Aside0.mk hol; clear hol; have n0_ := Aside0.mk (below_step HB.out hb); have m2_ := Aside0.mk (blk_below BK2.out hb); have m3_ := Aside0.mk (blk_below BK3.out hb); clear HB BK2 BK3 hb; have HB := n0_; have BK2 := m2_; have BK3 := m3_; clear n0_ m2_ m3_; have c2_0 : wn.cell? ⟨g2, 0, none⟩ = some (.string s) := (blk_cell BK2.out 0).trans rfl; have c3_0 : wn.cell? ⟨g3, 0, none⟩ = some (.string z) := (blk_cell BK3.out 0).trans rfl)
    | (go_at_call 47; (with_reducible refine (impl_areWaves.calls Al cl ls false _ (Kd.R_reads' HL.out).2.2 (Kd.R_reads' HL.out).2.1 (by rw [NL.out]; exact Hh1.out)).mono ?_); rintro e wn ⟨rfl, hb⟩; clear HL; have n0_ := Aside0.mk (below_step HB.out hb); have m2_ := Aside0.mk (blk_below BK2.out hb); have m3_ := Aside0.mk (blk_below BK3.out hb); clear HB BK2 BK3 hb; have HB := n0_; have BK2 := m2_; have BK3 := m3_; clear n0_ m2_ m3_; have c2_0 : wn.cell? ⟨g2, 0, none⟩ = some (.string s) := (blk_cell BK2.out 0).trans rfl; have c3_0 : wn.cell? ⟨g3, 0, none⟩ = some (.string z) := (blk_cell BK3.out 0).trans rfl))
  go_ret2
  exact ⟨rfl, HB.out⟩
set_option maxHeartbeats 4000000 in
set_option maxRecDepth 100000 in
theorem Gate_yes (s z : ByteArray) (w : World) (h1 : impl_areWaves.f [s, z] = some true) :
    Calls Tryd.prog 32 #[.string s, .string z] w fun e w' => e = .returned (.tuple #[.string (strOfNums (lvs (fun i => glv s z i) s.size)), .bool true]) ∧ Below w.heap.size w w' := by
  have Hh1 := Aside0.mk h1
  clear h1
  have HB := Aside0.mk (Below.refl w.heap.size w)
  obtain ⟨ls, hls⟩ : ∃ ls : List ByteArray, ls = [s, z] := ⟨_, rfl⟩
  have NL := Aside0.mk hls
  clear hls
  obtain ⟨hs, hL, hzs, hLz⟩ := areW_two Hh1.out
  have HRG : Aside0 (∀ i : Nat, 0 ≤ lst s i ∧ (lst s i = 0 ∨ lst s i < i)) := ⟨lst_rng s⟩
  have HZS := Aside0.mk hzs
  clear hzs hL hLz
  go_enter Tryd.func32, Tryd.ntmps32
  go_wp2_with (first
    | ((with_reducible refine gate_dst (N := 2) rfl ?_); refine box_event ?hg (N := 2) ?hd (cs := #[.string s]) (t := 9) ?hr ?_; (case hd => rfl); (case hg => rfl); (case hr => first | (go_simp; done) | (go_simp; rfl)); intro g2 hg wn hbox hb; have GE2 := Aside0.mk (by rw [hg]; exact below_size HB.out : w.heap.size ≤ g2); clear hg; have BK20 := Aside0.mk hbox; clear hbox; have n0_ := Aside0.mk (below_step HB.out hb); clear HB  hb; have HB := n0_; clear n0_ ; have BK2 := BK20; clear BK20; have c2_0 : wn.cell? ⟨g2, 0, none⟩ = some (.string s) := (blk_cell BK2.out 0).trans rfl)
    | ((with_reducible refine gate_dst (N := 3) rfl ?_); refine box_event ?hg (N := 3) ?hd (cs := #[.string z]) (t := 9) ?hr ?_; (case hd => rfl); (case hg => rfl); (case hr => first | (go_simp; done) | (go_simp; rfl)); intro g3 hg wn hbox hb; have GE3 := Aside0.mk (by rw [hg]; exact below_size HB.out : w.heap.size ≤ g3); have NE2_3 := Aside0.mk (show g2 ≠ g3 by have := blk_lt BK2.out; omega); clear hg; have BK30 := Aside0.mk hbox; clear hbox; have n0_ := Aside0.mk (below_step HB.out hb); have m2_ := Aside0.mk (blk_below BK2.out hb); clear HB BK2 hb; have HB := n0_; have BK2 := m2_; clear n0_ m2_; have c2_0 : wn.cell? ⟨g2, 0, none⟩ = some (.string s) := (blk_cell BK2.out 0).trans rfl; have BK3 := BK30; clear BK30; have c3_0 : wn.cell? ⟨g3, 0, none⟩ = some (.string z) := (blk_cell BK3.out 0).trans rfl)
    | ((with_reducible refine gate_dst (N := 9) rfl ?_); refine Kd.R_lit Kd.string _ 9 ?hg (N := 9) ?hd (xs := ([s, z] : List ByteArray)) (inner := [.string s, .string z]) (ok := fun _ => True) (okp := fun _ => True) ?hr ?hp (fun _ hk => hk) trivial (Below.refl _ _) (Nat.le_refl _) (by simp) ?_; (case hd => rfl); (case hg => rfl); (case hr => first | (go_simp; done) | (go_simp; rfl)); (case hp => exact (Reps.one rfl (Reps.one rfl (Reps.none _ _)))); intro vl wn hol hb hg_ hnew_; clear hg_ hnew_; rw [← NL.out] at hol; obtain ⟨Al, cl, el⟩ := Kd.R_slice hol; subst el; have HL := Aside0.mk hol; clear hol; have n0_ := Aside0.mk (below_step HB.out hb); have m2_ := Aside0.mk (blk_below BK2.out hb); have m3_ := Aside0.mk (blk_below BK3.out hb); clear HB BK2 BK3 hb; have HB := n0_; have BK2 := m2_; have BK3 := m3_; clear n0_ m2_ m3_; have c2_0 : wn.cell? ⟨g2, 0, none⟩ = some (.string s) := (blk_cell BK2.out 0).trans rfl; have c3_0 : wn.cell? ⟨g3, 0, none⟩ = some (.string z) := (blk_cell BK3.out 0).trans rfl)
    | (go_at_call 47; (with_reducible refine (impl_areWaves.calls Al cl ls true _ (Kd.R_reads' HL.out).2.2 (Kd.R_reads' HL.out).2.1 (by rw [NL.out]; exact Hh1.out)).mono ?_); rintro e wn ⟨rfl, hb⟩; clear HL; have n0_ := Aside0.mk (below_step HB.out hb); have m2_ := Aside0.mk (blk_below BK2.out hb); have m3_ := Aside0.mk (blk_below BK3.out hb); clear HB BK2 BK3 hb; have HB := n0_; have BK2 := m2_; have BK3 := m3_; clear n0_ m2_ m3_; have c2_0 : wn.cell? ⟨g2, 0, none⟩ = some (.string s) := (blk_cell BK2.out 0).trans rfl; have c3_0 : wn.cell? ⟨g3, 0, none⟩ = some (.string z) := (blk_cell BK3.out 0).trans rfl)
    | ((with_reducible refine gate_dst (N := 6) rfl ?_); refine box_event ?hg (N := 6) ?hd (cs := #[.int .i64 0]) (t := 3) ?hr ?_; (case hd => rfl); (case hg => rfl); (case hr => first | (go_simp; done) | (go_simp; rfl)); intro g6 hg wn hbox hb; have GE6 := Aside0.mk (by rw [hg]; exact below_size HB.out : w.heap.size ≤ g6); have NE2_6 := Aside0.mk (show g2 ≠ g6 by have := blk_lt BK2.out; omega); have NE3_6 := Aside0.mk (show g3 ≠ g6 by have := blk_lt BK3.out; omega); clear hg; have BK60 := Aside0.mk hbox; clear hbox; have n0_ := Aside0.mk (below_step HB.out hb); have m2_ := Aside0.mk (blk_below BK2.out hb); have m3_ := Aside0.mk (blk_below BK3.out hb); clear HB BK2 BK3 hb; have HB := n0_; have BK2 := m2_; have BK3 := m3_; clear n0_ m2_ m3_; have c2_0 : wn.cell? ⟨g2, 0, none⟩ = some (.string s) := (blk_cell BK2.out 0).trans rfl; have c3_0 : wn.cell? ⟨g3, 0, none⟩ = some (.string z) := (blk_cell BK3.out 0).trans rfl; have BK6 := BK60; clear BK60; have c6_0 : wn.cell? ⟨g6, 0, none⟩ = some (.int .i64 0) := (blk_cell BK6.out 0).trans rfl; have z6_0 := blk_frozen BK6.out 0; have c2s : ∀ v, (wn.setCell ⟨g6, 0, none⟩ v).cell? ⟨g2, 0, none⟩ = some (.string s) := fun v => (blk_cell (blk_far BK2.out (p := ⟨g6, 0, none⟩) NE2_6.out v) 0).trans rfl)
    | (go_at_call 50; have p2 := blk_far BK2.out (p := ⟨g6, 0, none⟩) NE2_6.out (.int .i64 0); have p3 := blk_far BK3.out (p := ⟨g6, 0, none⟩) NE3_6.out (.int .i64 0); have p6 := blk_put BK6.out 0 (.int .i64 0) (cs' := #[.int .i64 (lst s 0)]) rfl; have pb := below_set (j := 0) (v := .int .i64 0) HB.out GE6.out; (with_reducible refine (waveOf_any s.size (by omega) 67 Tryd.f67 #[.pointer (some ⟨g2, 0, none⟩), .pointer (some ⟨g6, 0, none⟩), .pointer (some ⟨g3, 0, none⟩)] (fun i => glv s z i) (fun i W => W.heap[g2]? = some (.cells #[.string s] 9 (0, 0)) ∧ W.heap[g3]? = some (.cells #[.string z] 9 (0, 0)) ∧ W.heap[g6]? = some (.cells #[.int .i64 (lst s i)] 3 (0, 0))) w.heap.size ((· = g6)) _ Tryd.func67 rfl (by kernel_rfl) ⟨p2, p3, p6⟩ (below_size pb) (by rintro _ rfl; exact blk_lt p6) ?st ?cl).mono ?_); (case st => exact fun i wa wb hI hs => ⟨(hs g2 (blk_lt p2)).trans hI.1, (hs g3 (blk_lt p3)).trans hI.2.1, (hs g6 (blk_lt p6)).trans hI.2.2⟩); (case cl => exact fun i hi wr hI hsz => (GateClo s z i (lst s i) (lst s (i + 1)) (glv s z i) g2 g6 g3 w.heap.size wr hI.1 hI.2.2 hI.2.1 (by omega) (by omega) (HRG.out i).1 (by rw [HZS.out]; have := (HRG.out i).2; omega) GE6.out rfl rfl).mono fun e w' ⟨h1, h3, h4, h5⟩ => ⟨h1, ⟨blk_kept hI.1 h5 NE2_6.out, blk_kept hI.2.1 h5 NE3_6.out, h3⟩, h4, h5⟩); rintro e wn ⟨rfl, hI, hb, hk⟩; have n0_ := Aside0.mk (pb.trans hb); clear HB hb hI hk; have HB := n0_; clear n0_))
  go_ret2
  exact ⟨rfl, HB.out⟩
def impl_GateWave.f (a0 : ByteArray) (a1 : ByteArray) : Option (ByteArray × Bool) :=
  (impl_areWaves.f [a0, a1]).bind fun t => if t = true then some (strOfNums (lvs (fun i => glv a0 a1 i) a0.size), true) else some (⟨#[]⟩, false)
theorem impl_GateWave.calls (a0 : ByteArray) (a1 : ByteArray) (r1 : ByteArray) (r2 : Bool) (w : World) (h : impl_GateWave.f a0 a1 = some (r1, r2)) :
    Calls Tryd.prog 32 #[.string a0, .string a1] w fun e w' => e = .returned (.tuple #[.string r1, .bool r2]) ∧ Below w.heap.size w w' := by
  unfold impl_GateWave.f at h
  obtain ⟨t, ht, h⟩ := Option.bind_eq_some_iff.mp h
  cases t with
  | false =>
    rw [if_neg (by simp)] at h
    simp only [Option.some.injEq, Prod.mk.injEq] at h
    obtain ⟨rfl, rfl⟩ := h
    exact Gate_no a0 a1 w ht
  | true =>
    rw [if_pos rfl] at h
    simp only [Option.some.injEq, Prod.mk.injEq] at h
    obtain ⟨rfl, rfl⟩ := h
    exact Gate_yes a0 a1 w ht
end Go.Proofs.YthkpnbelbaljdaaDoor.X
end
