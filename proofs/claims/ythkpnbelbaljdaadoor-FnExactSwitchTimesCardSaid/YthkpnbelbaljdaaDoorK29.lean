/- My own texts of this seat and its words, merged: Xp20, Xp22, Xp23, Xp24, Xp17, XTimes, Xp7, CTimes. Conditions: as each lemma says. -/
import Derived.Test.YthkpnbelbaljdaaDoorK27
import Derived.Test.YthkpnbelbaljdaaDoorK21
import Derived.Test.YthkpnbelbaljdaaDoorK22
import Derived.Deep.DeepCutAuto
import Derived.BigQuiet
section
-- Written by a program of this session out of the kit's print of the loaded functions: a plain function of a Go function, and its contract.
namespace Go.Proofs.YthkpnbelbaljdaaDoor.X
open Go.RowKit Go.Proofs.YthkpnbelbaljdaaDoorW.PrintWords Go.Proofs.YthkpnbelbaljdaaDoorW.PrintLast Go.Proofs.YthkpnbelbaljdaaDoorW.PrintMore
attribute [local go_sem] max2_int min2_int max_two min_two max_three min_three max_four min_four   -- for this text's walks alone
set_option linter.unusedVariables false
set_option linter.unusedSimpArgs false
/-! ### spec_SwitchTimes: function 20 -/
def spec_SwitchTimes.l0 : Nat → ByteArray → ByteArray → List Int → Int → Int → Int → Option (List Int × Bool)
  | 0, _, _, _, _, _, _ => none
  | k + 1, x10, x11, x13, x14, x15, x16 => if x16 < (x10.size : Int) then (if 0 ≤ x16 then (if (bt x10 x16) = x14 then (if x16 < (x11.size : Int) then (if (bt x11 x16) = x15 then (spec_SwitchTimes.l0 k x10 x11 x13 (bt x10 x16) (bt x11 x16) (wrap64 (x16 + 1))) else (if x13.length < 17592186044416 then (spec_SwitchTimes.l0 k x10 x11 (x13 ++ [x16]) (bt x10 x16) (bt x11 x16) (wrap64 (x16 + 1))) else (none))) else (none)) else (if x13.length < 17592186044416 then (if x16 < (x11.size : Int) then (spec_SwitchTimes.l0 k x10 x11 (x13 ++ [x16]) (bt x10 x16) (bt x11 x16) (wrap64 (x16 + 1))) else (none)) else (none))) else (none)) else (some (x13, true))
def spec_SwitchTimes.f (k : Nat) (a0_0 : Int) (a0_1 : Int) (a1 : ByteArray) (a2 : ByteArray) (a3 : ByteArray) : Option (List Int × Bool) := (spec_EnablesOf.f a0_0 a0_1 a1 a2 a3).bind fun bt298 => (if bt298.2.2 = true then ((spec_l07Level.f (a0_1 == 0)).bind fun t304 => ((spec_l07Level.f (a0_1 == 1)).bind fun t305 => (spec_SwitchTimes.l0 k bt298.1 bt298.2.1 (([] : List Int)) t304 t305 0))) else (some (([] : List Int), false)))
theorem spec_SwitchTimes.mono_l : ∀ k, (∀ y0 y1 y2 y3 y4 y5, LeO (spec_SwitchTimes.l0 k y0 y1 y2 y3 y4 y5) (spec_SwitchTimes.l0 (k + 1) y0 y1 y2 y3 y4 y5))
  | 0 => fun _ _ _ _ _ _ r h => by simp [spec_SwitchTimes.l0] at h
  | k + 1 => by
    have ih0 := spec_SwitchTimes.mono_l k
    · intro y0 y1 y2 y3 y4 y5
      unfold spec_SwitchTimes.l0
      repeat' first
      | (with_reducible exact ih0 _ _ _ _ _ _)
      | (with_reducible exact LeO.refl _)
      | (with_reducible exact LeO.none _)
      | (with_reducible refine LeO.ite ?_ ?_)
      | (with_reducible refine LeO.bind ?_ (fun _ => ?_))
      | exact ih0 _ _ _ _ _ _
      | exact LeO.none _
      | refine LeO.ite ?_ ?_
      | refine LeO.bind ?_ (fun _ => ?_)
theorem spec_SwitchTimes.mono : ∀ a0 a1 a2 a3 a4 k, LeO (spec_SwitchTimes.f k a0 a1 a2 a3 a4) (spec_SwitchTimes.f (k + 1) a0 a1 a2 a3 a4) := by
  intro a0 a1 a2 a3 a4 k
  have ih0 := spec_SwitchTimes.mono_l k
  unfold spec_SwitchTimes.f
  repeat' first
      | (with_reducible exact ih0 _ _ _ _ _ _)
      | (with_reducible exact LeO.refl _)
      | (with_reducible exact LeO.none _)
      | (with_reducible refine LeO.ite ?_ ?_)
      | (with_reducible refine LeO.bind ?_ (fun _ => ?_))
      | exact ih0 _ _ _ _ _ _
      | exact LeO.none _
      | refine LeO.ite ?_ ?_
      | refine LeO.bind ?_ (fun _ => ?_)
set_option maxHeartbeats 8000000 in
set_option maxRecDepth 100000 in
theorem spec_SwitchTimes.calls (k : Nat) (a0_0 : Int) (a0_1 : Int) (a1 : ByteArray) (a2 : ByteArray) (a3 : ByteArray) (r1 : List Int) (r2 : Bool) (w : World) (h : spec_SwitchTimes.f k a0_0 a0_1 a1 a2 a3 = some (r1, r2)) :
    Calls Tryd.prog 20 #[.agg #[.int .i64 a0_0, .int .i64 a0_1], .string a1, .string a2, .string a3] w fun e w' => ∃ v0_ : Value, e = .returned (.tuple #[v0_, .bool r2]) ∧ Kd.R (Kd.int .i64) 2 w' w.heap.size (fun _ => True) v0_ r1 ∧ Below w.heap.size w w' := by
  have hu30 := Tryd.underlying30
  have HB := Aside0.mk (Below.refl w.heap.size w)
  have H : ((spec_EnablesOf.f a0_0 a0_1 a1 a2 a3).bind fun bt298 => (if bt298.2.2 = true then ((spec_l07Level.f (a0_1 == 0)).bind fun t304 => ((spec_l07Level.f (a0_1 == 1)).bind fun t305 => (spec_SwitchTimes.l0 k bt298.1 bt298.2.1 (([] : List Int)) t304 t305 0))) else (some (([] : List Int), false)))) = some (r1, r2) := h
  clear h
  replace H := Option.bind_eq_some_iff.mp H
  obtain ⟨⟨t298, t299, t300⟩, A50, H⟩ := H
  replace H : (if t300 = true then ((spec_l07Level.f (a0_1 == 0)).bind fun t304 => ((spec_l07Level.f (a0_1 == 1)).bind fun t305 => (spec_SwitchTimes.l0 k t298 t299 (([] : List Int)) t304 t305 0))) else (some (([] : List Int), false))) = some (r1, r2) := H
  have A5 := Aside0.mk A50
  clear A50
  by_cases c6 : t300 = true
  · subst c6
    have H1 : ((spec_l07Level.f (a0_1 == 0)).bind fun t304 => ((spec_l07Level.f (a0_1 == 1)).bind fun t305 => (spec_SwitchTimes.l0 k t298 t299 (([] : List Int)) t304 t305 0))) = some (r1, r2) := by rw [if_pos rfl] at H; exact H
    clear H
    have H := H1
    clear H1
    obtain ⟨y301, hy301⟩ : ∃ y_ : List Int, y_ = (([] : List Int)) := ⟨_, rfl⟩
    replace H : ((spec_l07Level.f (a0_1 == 0)).bind fun t304 => ((spec_l07Level.f (a0_1 == 1)).bind fun t305 => (spec_SwitchTimes.l0 k t298 t299 y301 t304 t305 0))) = some (r1, r2) := by first | (rw [hy301]; with_reducible exact H) | (have H2_ := (Option.bind_some _ _).symm.trans H; rw [hy301]; with_reducible exact H2_) | (have H2_ := (Option.bind_some _ _).symm.trans H; with_reducible exact H2_) | with_reducible exact H | (rw [hy301]; exact H) | exact H
    have Ny301 := Aside0.mk hy301
    clear hy301
    replace H := Option.bind_eq_some_iff.mp H
    obtain ⟨t304, A70, H⟩ := H
    replace H : ((spec_l07Level.f (a0_1 == 1)).bind fun t305 => (spec_SwitchTimes.l0 k t298 t299 y301 t304 t305 0)) = some (r1, r2) := H
    have A7 := Aside0.mk A70
    clear A70
    replace H := Option.bind_eq_some_iff.mp H
    obtain ⟨t305, A80, H⟩ := H
    replace H : (spec_SwitchTimes.l0 k t298 t299 y301 t304 t305 0) = some (r1, r2) := H
    have A8 := Aside0.mk A80
    clear A80
    have H' := Aside0.mk H
    clear H
    go_enter Tryd.func20, Tryd.ntmps20
    go_wp2_with (first | ((with_reducible refine gate_dst (N := 4) rfl ?_); refine box_event ?hg (N := 4) ?hd (cs := #[.int .i64 a0_0, .int .i64 a0_1]) (t := 30) ?hr ?_; (case hd => rfl); (case hg => rfl); (case hr => first | (go_simp; done) | (go_simp; rfl)); intro gb297 hg w9 hbox hb; have n0_ := Aside0.mk (below_step (by repeat (first | (with_reducible first | exact HB.out | apply below_alloc | apply pw_below_drewN | apply below_drew1) | exact HB.out)) hb); have n1_ := Aside0.mk (hbox); have n2_ := Aside0.mk ((by rw [hg]; exact (below_size (by repeat (first | (with_reducible first | exact HB.out | apply below_alloc | apply pw_below_drewN | apply below_drew1) | exact HB.out))) : w.heap.size ≤ gb297)); have n3_ := Aside0.mk ((by rw [hg]; exact (below_size (by repeat (first | (with_reducible first | exact HB.out | apply below_alloc | apply pw_below_drewN | apply below_drew1) | exact HB.out))) : w.heap.size ≤ gb297)); clear HB; have HB := n0_; have BK297 := n1_; have GW297 := n2_; have GE297 := n3_; clear n0_ n1_ n2_ n3_; clear hb hbox hg; have hcz10_0 : w9.cell? ⟨gb297, 0, none⟩ = some (.int .i64 a0_0) := (blk_cell BK297.out 0).trans rfl; have hcz10_1 : w9.cell? ⟨gb297, 1, none⟩ = some (.int .i64 a0_1) := (blk_cell BK297.out 1).trans rfl; have hfz10_0 := blk_frozen BK297.out 0; have hfz10_1 := blk_frozen BK297.out 1) | ((with_reducible refine gate_callee (f := 15) rfl ?_); refine goesL_ (some 22) rfl rfl Tryd.func15 (by kernel_rfl) rfl #[.agg #[.int .i64 a0_0, .int .i64 a0_1], .string a1, .string a2, .string a3] rfl (by (try simp only [List.map_toArray, List.map_cons, List.map_nil]); first | done | rfl | (simp only [List.length_drop, List.length_take]; rfl)) ?_; (with_reducible refine (spec_EnablesOf.calls a0_0 a0_1 a1 a2 a3 t298 t299 true _ A5.out).mono ?_); rintro e w11 ⟨rfl, hb⟩; refine ⟨_, rfl, ?_⟩; have n0_ := Aside0.mk (blk_below (g := gb297) (o := .cells #[.int .i64 a0_0, .int .i64 a0_1] 30 (0, 0)) (by (with_reducible repeat (first | refine blk_drewN ?_ _ | refine blk_drew ?_ | refine blk_alloc ?_ _)); exact BK297.out) hb); have n1_ := Aside0.mk (below_step (by repeat (first | (with_reducible first | exact HB.out | apply below_alloc | apply pw_below_drewN | apply below_drew1 | refine below_set ?_ GE297.out) | exact HB.out)) hb); clear BK297; clear HB; have BK297 := n0_; have HB := n1_; clear n0_ n1_; (try clear hb); (try clear hb2); (try clear hk); (try clear hi)) | ((with_reducible refine gate_dst (N := 28) rfl ?_); refine Kd.R_lit (Kd.int .i64) _ 2 ?hg (N := 28) ?hd (xs := ([] : List Int)) (inner := []) (ok := fun _ => True) (okp := fun _ => True) ?hr ?hp (fun _ hk => hk) trivial (Below.refl _ _) (Nat.le_refl _) (by simp) ?_; (case hd => rfl); (case hg => rfl); (case hr => first | (go_simp; done) | (go_simp; rfl)); (case hp => exact (Reps.none _ _)); intro v302 w12 ho13 hb hg_ hnew_; clear hg_ hnew_; (first | rw [← Ny301.out] at ho13 | (simp only [Int.reduceToNat] at ho13; rw [← Ny301.out] at ho13)); have n0_ := Aside0.mk (Kd.R_lower ho13 (below_size (by repeat (first | (with_reducible first | exact HB.out | apply below_alloc | apply pw_below_drewN | apply below_drew1 | refine below_set ?_ GE297.out) | exact HB.out)))); have n1_ := Aside0.mk (blk_below (g := gb297) (o := .cells #[.int .i64 a0_0, .int .i64 a0_1] 30 (0, 0)) (by (with_reducible repeat (first | refine blk_drewN ?_ _ | refine blk_drew ?_ | refine blk_alloc ?_ _)); exact BK297.out) hb); have n2_ := Aside0.mk (below_step (by repeat (first | (with_reducible first | exact HB.out | apply below_alloc | apply pw_below_drewN | apply below_drew1 | refine below_set ?_ GE297.out) | exact HB.out)) hb); clear BK297; clear HB; have HO303 := n0_; have BK297 := n1_; have HB := n2_; clear n0_ n1_ n2_; clear hb ho13; have hcz14_0 : w12.cell? ⟨gb297, 0, none⟩ = some (.int .i64 a0_0) := (blk_cell BK297.out 0).trans rfl; have hcz14_1 : w12.cell? ⟨gb297, 1, none⟩ = some (.int .i64 a0_1) := (blk_cell BK297.out 1).trans rfl; have hfz14_0 := blk_frozen BK297.out 0; have hfz14_1 := blk_frozen BK297.out 1) | ((with_reducible refine gate_callee (f := 46) rfl ?_); refine goesL_ (some 32) rfl rfl Tryd.func46 (by kernel_rfl) rfl #[.bool (a0_1 == 0)] rfl (by (try simp only [List.map_toArray, List.map_cons, List.map_nil]); first | done | rfl | (simp only [List.length_drop, List.length_take]; rfl)) ?_; (with_reducible refine (spec_l07Level.calls (a0_1 == 0) t304 _ A7.out).mono ?_); rintro e w' ⟨rfl, ⟨nd, rfl⟩⟩; refine ⟨_, rfl, ?_⟩) | ((with_reducible refine gate_callee (f := 46) rfl ?_); refine goesL_ (some 36) rfl rfl Tryd.func46 (by kernel_rfl) rfl #[.bool (a0_1 == 1)] rfl (by (try simp only [List.map_toArray, List.map_cons, List.map_nil]); first | done | rfl | (simp only [List.length_drop, List.length_take]; rfl)) ?_; (with_reducible refine (spec_l07Level.calls (a0_1 == 1) t305 _ A8.out).mono ?_); rintro e w' ⟨rfl, ⟨nd, rfl⟩⟩; refine ⟨_, rfl, ?_⟩))
    go_loopg [13, 14, 15, 16] k (fun kq v13 v14 v15 v16 w' => ∃ (x13_1 : List Int) (x14_1 : Int) (x15_1 : Int) (x16_1 : Int), v14 = .int .u8 x14_1 ∧ v15 = .int .u8 x15_1 ∧ v16 = .int .i64 x16_1 ∧ Aside0 (spec_SwitchTimes.l0 kq t298 t299 x13_1 x14_1 x15_1 x16_1 = some (r1, r2)) ∧ Aside0 (kq ≤ k) ∧ Aside0 (Kd.R (Kd.int .i64) 2 w' w.heap.size (fun _ => True) v13 x13_1) ∧ Aside0 (w'.heap[gb297]? = some (.cells #[.int .i64 a0_0, .int .i64 a0_1] 30 (0, 0))) ∧ Aside0 (Below w.heap.size w w'))
    case atStart => exact ⟨(y301), (t304), (t305), (0), (by first | rfl | (simp; done) | (simp [*]; done)), (by first | rfl | (simp; done) | (simp [*]; done)), (by first | rfl | (simp; done) | (simp [*]; done)), H', ⟨Nat.le_refl _⟩, ⟨by (with_reducible repeat (first | apply Kd.R_alloc | apply Kd.R_drewN | apply Kd.R_drew)); exact HO303.out⟩, ⟨by (with_reducible repeat (first | refine blk_drewN ?_ _ | refine blk_drew ?_ | refine blk_alloc ?_ _)); exact BK297.out⟩, ⟨by repeat (first | (with_reducible first | exact HB.out | apply below_alloc | apply pw_below_drewN | apply below_drew1 | refine below_set ?_ GE297.out) | exact HB.out)⟩⟩
    case round =>
      clear H'
      try clear c1
      try clear c2
      try clear p2
      try clear c4
      try clear c6
      try clear hcz10_0
      try clear hcz10_1
      try clear hcz14_0
      try clear hcz14_1
      try clear hfz10_0
      try clear hfz10_1
      try clear hfz14_0
      try clear hfz14_1
      obtain ⟨x13_1, x14_1, x15_1, x16_1, rfl, rfl, rfl, HA, HK1, HO_13, BK297, HB⟩ := hrel
      cases gk with
      | zero => exact absurd HA.out (by simp [spec_SwitchTimes.l0])
      | succ k1 =>
        have H := HA.out
        clear HA
        simp only [spec_SwitchTimes.l0] at H
        by_cases c15 : x16_1 < (t298.size : Int)
        · rw [if_pos c15] at H
          have c15b0 : decide (x16_1 < (t298.size : Int)) = true := decide_eq_true c15
          clear c15
          by_cases c16 : 0 ≤ x16_1
          · rw [if_pos c16] at H
            have c16b0 : decide (0 ≤ x16_1) = true := decide_eq_true c16
            clear c16
            by_cases c18 : (bt t298 x16_1) = x14_1
            · rw [if_pos c18] at H
              have c18b0 : ((bt t298 x16_1) == x14_1) = true := beq_iff_eq.mpr c18
              have c18b1 : ((bt t298 x16_1) != x14_1) = false := bne_eq_false_iff_eq.mpr c18
              clear c18
              by_cases c19 : x16_1 < (t299.size : Int)
              · rw [if_pos c19] at H
                have c19b0 : decide (x16_1 < (t299.size : Int)) = true := decide_eq_true c19
                clear c19
                by_cases c21 : (bt t299 x16_1) = x15_1
                · rw [if_pos c21] at H
                  have c21b0 : ((bt t299 x16_1) == x15_1) = true := beq_iff_eq.mpr c21
                  have c21b1 : ((bt t299 x16_1) != x15_1) = false := bne_eq_false_iff_eq.mpr c21
                  clear c21
                  have H' := Aside0.mk H
                  clear H
                  have p17 : 0 ≤ (x16_1 : Int) := of_decide_eq_true (by first | (with_reducible assumption) | assumption)
                  have q17 : x16_1 < (t298.size : Int) := of_decide_eq_true (by first | (with_reducible assumption) | assumption)
                  have hx17 := bt_at t298 x16_1
                  replace p17 := eq_true p17
                  replace q17 := eq_true q17
                  have p20 : 0 ≤ (x16_1 : Int) := of_decide_eq_true (by first | (with_reducible assumption) | assumption)
                  have q20 : x16_1 < (t299.size : Int) := of_decide_eq_true (by first | (with_reducible assumption) | assumption)
                  have hx20 := bt_at t299 x16_1
                  replace p20 := eq_true p20
                  replace q20 := eq_true q20
                  have p22 : 0 ≤ (x16_1 : Int) := of_decide_eq_true (by first | (with_reducible assumption) | assumption)
                  have q22 : x16_1 < (t298.size : Int) := of_decide_eq_true (by first | (with_reducible assumption) | assumption)
                  have hx22 := bt_at t298 x16_1
                  replace p22 := eq_true p22
                  replace q22 := eq_true q22
                  have p23 : 0 ≤ (x16_1 : Int) := of_decide_eq_true (by first | (with_reducible assumption) | assumption)
                  have q23 : x16_1 < (t299.size : Int) := of_decide_eq_true (by first | (with_reducible assumption) | assumption)
                  have hx23 := bt_at t299 x16_1
                  replace p23 := eq_true p23
                  replace q23 := eq_true q23
                  go_wp2
                  go_roundg k1
                  case measure => have := HK1.out; omega
                  case rel => exact ⟨(x13_1), (bt t298 x16_1), (bt t299 x16_1), (wrap64 (x16_1 + 1)), (by first | rfl | (simp; done) | (simp [*]; done)), (by first | rfl | (simp; done) | (simp [*]; done)), (by first | rfl | (simp; done) | (simp [*]; done)), H', ⟨by have := HK1.out; omega⟩, ⟨by (with_reducible repeat (first | apply Kd.R_alloc | apply Kd.R_drewN | apply Kd.R_drew)); exact HO_13.out⟩, ⟨by (with_reducible repeat (first | refine blk_drewN ?_ _ | refine blk_drew ?_ | refine blk_alloc ?_ _)); exact BK297.out⟩, ⟨by repeat (first | (with_reducible first | exact HB.out | apply below_alloc | apply pw_below_drewN | apply below_drew1 | refine below_set ?_ GE297.out) | exact HB.out)⟩⟩
                · rw [if_neg c21] at H
                  have c21b0 : ((bt t299 x16_1) == x15_1) = false := beq_eq_false_iff_ne.mpr c21
                  have c21b1 : ((bt t299 x16_1) != x15_1) = true := bne_iff_ne.mpr c21
                  by_cases c24 : x13_1.length < 17592186044416
                  · rw [if_pos c24] at H
                    have LMc24 := Aside0.mk c24
                    clear c24
                    obtain ⟨y306, hy306⟩ : ∃ y_ : List Int, y_ = (x13_1 ++ [x16_1]) := ⟨_, rfl⟩
                    replace H : (spec_SwitchTimes.l0 k1 t298 t299 y306 (bt t298 x16_1) (bt t299 x16_1) (wrap64 (x16_1 + 1))) = some (r1, r2) := by first | (rw [hy306]; with_reducible exact H) | (have H2_ := (Option.bind_some _ _).symm.trans H; rw [hy306]; with_reducible exact H2_) | (have H2_ := (Option.bind_some _ _).symm.trans H; with_reducible exact H2_) | with_reducible exact H | (rw [hy306]; exact H) | exact H
                    have Ny306 := Aside0.mk hy306
                    clear hy306
                    have H' := Aside0.mk H
                    clear H
                    have p17 : 0 ≤ (x16_1 : Int) := of_decide_eq_true (by first | (with_reducible assumption) | assumption)
                    have q17 : x16_1 < (t298.size : Int) := of_decide_eq_true (by first | (with_reducible assumption) | assumption)
                    have hx17 := bt_at t298 x16_1
                    replace p17 := eq_true p17
                    replace q17 := eq_true q17
                    have p20 : 0 ≤ (x16_1 : Int) := of_decide_eq_true (by first | (with_reducible assumption) | assumption)
                    have q20 : x16_1 < (t299.size : Int) := of_decide_eq_true (by first | (with_reducible assumption) | assumption)
                    have hx20 := bt_at t299 x16_1
                    replace p20 := eq_true p20
                    replace q20 := eq_true q20
                    go_wp2_with (first | ((with_reducible refine gate_builtin (b := .append) (xs := #[.tmp 55, .tmp 57]) rfl ?_); at_builtin; refine Kd.R_append (Kd.int .i64) (w0 := w) w.heap.size rfl (.tmp 55) (.tmp 57) 34 2 (.int .i64 0) 8 rfl Tryd.underlying34 info2 rfl (by decide) (by omega) u13 x13_1 x16_1 [.int .i64 x16_1] (fun _ => True) (fun _ => False) rfl rfl ?aP (fun _ hk => hk.elim) ?aF ?aO ?aB ?aS ?aL ?_; (case aP => exact rfl); (case aB => exact (by repeat (first | (with_reducible first | exact HB.out | apply below_alloc | apply pw_below_drewN | apply below_drew1 | refine below_set ?_ GE297.out) | exact HB.out))); (case aF => exact (fun _ _ => trivial)); (case aO => exact (by (with_reducible repeat (first | apply Kd.R_alloc | apply Kd.R_drewN | apply Kd.R_drew)); exact HO_13.out)); (case aS => exact (below_size (by repeat (first | (with_reducible first | exact HB.out | apply below_alloc | apply pw_below_drewN | apply below_drew1 | refine below_set ?_ GE297.out) | exact HB.out)))); (case aL => have := LMc24.out; omega); intro v307 w27 ho hb hg hat; rw [← Ny306.out] at ho; have n0_ := Aside0.mk (blk_grown (g := gb297) (o := .cells #[.int .i64 a0_0, .int .i64 a0_1] 30 (0, 0)) (by (with_reducible repeat (first | refine blk_drewN ?_ _ | refine blk_drew ?_ | refine blk_alloc ?_ _)); exact BK297.out) hg (Kd.R_ne HO_13.out BK297.out (by decide))); have n1_ := Aside0.mk (hb); have n2_ := Aside0.mk (ho); clear BK297; clear HB; clear HO_13; have BK297 := n0_; have HB := n1_; have HO308 := n2_; clear n0_ n1_ n2_; clear ho hb hg hat; have p25 : 0 ≤ (x16_1 : Int) := of_decide_eq_true (by first | (with_reducible assumption) | assumption); have q25 : x16_1 < (t298.size : Int) := of_decide_eq_true (by first | (with_reducible assumption) | assumption); have hx25 := bt_at t298 x16_1; replace p25 := eq_true p25; replace q25 := eq_true q25; have p26 : 0 ≤ (x16_1 : Int) := of_decide_eq_true (by first | (with_reducible assumption) | assumption); have q26 : x16_1 < (t299.size : Int) := of_decide_eq_true (by first | (with_reducible assumption) | assumption); have hx26 := bt_at t299 x16_1; replace p26 := eq_true p26; replace q26 := eq_true q26))
                    go_roundg k1
                    case measure => have := HK1.out; omega
                    case rel => exact ⟨(y306), (bt t298 x16_1), (bt t299 x16_1), (wrap64 (x16_1 + 1)), (by first | rfl | (simp; done) | (simp [*]; done)), (by first | rfl | (simp; done) | (simp [*]; done)), (by first | rfl | (simp; done) | (simp [*]; done)), H', ⟨by have := HK1.out; omega⟩, ⟨by (with_reducible repeat (first | apply Kd.R_alloc | apply Kd.R_drewN | apply Kd.R_drew)); exact HO308.out⟩, ⟨by (with_reducible repeat (first | refine blk_drewN ?_ _ | refine blk_drew ?_ | refine blk_alloc ?_ _)); exact BK297.out⟩, ⟨by repeat (first | (with_reducible first | exact HB.out | apply below_alloc | apply pw_below_drewN | apply below_drew1 | refine below_set ?_ GE297.out) | exact HB.out)⟩⟩
                  · rw [if_neg c24] at H
                    exact absurd H (by simp)
              · rw [if_neg c19] at H
                exact absurd H (by simp)
            · rw [if_neg c18] at H
              have c18b0 : ((bt t298 x16_1) == x14_1) = false := beq_eq_false_iff_ne.mpr c18
              have c18b1 : ((bt t298 x16_1) != x14_1) = true := bne_iff_ne.mpr c18
              by_cases c28 : x13_1.length < 17592186044416
              · rw [if_pos c28] at H
                have LMc28 := Aside0.mk c28
                clear c28
                obtain ⟨y309, hy309⟩ : ∃ y_ : List Int, y_ = (x13_1 ++ [x16_1]) := ⟨_, rfl⟩
                replace H : (if x16_1 < (t299.size : Int) then (spec_SwitchTimes.l0 k1 t298 t299 y309 (bt t298 x16_1) (bt t299 x16_1) (wrap64 (x16_1 + 1))) else (none)) = some (r1, r2) := by first | (rw [hy309]; with_reducible exact H) | (have H2_ := (Option.bind_some _ _).symm.trans H; rw [hy309]; with_reducible exact H2_) | (have H2_ := (Option.bind_some _ _).symm.trans H; with_reducible exact H2_) | with_reducible exact H | (rw [hy309]; exact H) | exact H
                have Ny309 := Aside0.mk hy309
                clear hy309
                by_cases c30 : x16_1 < (t299.size : Int)
                · rw [if_pos c30] at H
                  have c30b0 : decide (x16_1 < (t299.size : Int)) = true := decide_eq_true c30
                  clear c30
                  have H' := Aside0.mk H
                  clear H
                  have p17 : 0 ≤ (x16_1 : Int) := of_decide_eq_true (by first | (with_reducible assumption) | assumption)
                  have q17 : x16_1 < (t298.size : Int) := of_decide_eq_true (by first | (with_reducible assumption) | assumption)
                  have hx17 := bt_at t298 x16_1
                  replace p17 := eq_true p17
                  replace q17 := eq_true q17
                  go_wp2_with (first | ((with_reducible refine gate_builtin (b := .append) (xs := #[.tmp 55, .tmp 57]) rfl ?_); at_builtin; refine Kd.R_append (Kd.int .i64) (w0 := w) w.heap.size rfl (.tmp 55) (.tmp 57) 34 2 (.int .i64 0) 8 rfl Tryd.underlying34 info2 rfl (by decide) (by omega) u13 x13_1 x16_1 [.int .i64 x16_1] (fun _ => True) (fun _ => False) rfl rfl ?aP (fun _ hk => hk.elim) ?aF ?aO ?aB ?aS ?aL ?_; (case aP => exact rfl); (case aB => exact (by repeat (first | (with_reducible first | exact HB.out | apply below_alloc | apply pw_below_drewN | apply below_drew1 | refine below_set ?_ GE297.out) | exact HB.out))); (case aF => exact (fun _ _ => trivial)); (case aO => exact (by (with_reducible repeat (first | apply Kd.R_alloc | apply Kd.R_drewN | apply Kd.R_drew)); exact HO_13.out)); (case aS => exact (below_size (by repeat (first | (with_reducible first | exact HB.out | apply below_alloc | apply pw_below_drewN | apply below_drew1 | refine below_set ?_ GE297.out) | exact HB.out)))); (case aL => have := LMc28.out; omega); intro v310 w32 ho hb hg hat; rw [← Ny309.out] at ho; have n0_ := Aside0.mk (blk_grown (g := gb297) (o := .cells #[.int .i64 a0_0, .int .i64 a0_1] 30 (0, 0)) (by (with_reducible repeat (first | refine blk_drewN ?_ _ | refine blk_drew ?_ | refine blk_alloc ?_ _)); exact BK297.out) hg (Kd.R_ne HO_13.out BK297.out (by decide))); have n1_ := Aside0.mk (hb); have n2_ := Aside0.mk (ho); clear BK297; clear HB; clear HO_13; have BK297 := n0_; have HB := n1_; have HO311 := n2_; clear n0_ n1_ n2_; clear ho hb hg hat; have p29 : 0 ≤ (x16_1 : Int) := of_decide_eq_true (by first | (with_reducible assumption) | assumption); have q29 : x16_1 < (t298.size : Int) := of_decide_eq_true (by first | (with_reducible assumption) | assumption); have hx29 := bt_at t298 x16_1; replace p29 := eq_true p29; replace q29 := eq_true q29; have p31 : 0 ≤ (x16_1 : Int) := of_decide_eq_true (by first | (with_reducible assumption) | assumption); have q31 : x16_1 < (t299.size : Int) := of_decide_eq_true (by first | (with_reducible assumption) | assumption); have hx31 := bt_at t299 x16_1; replace p31 := eq_true p31; replace q31 := eq_true q31))
                  go_roundg k1
                  case measure => have := HK1.out; omega
                  case rel => exact ⟨(y309), (bt t298 x16_1), (bt t299 x16_1), (wrap64 (x16_1 + 1)), (by first | rfl | (simp; done) | (simp [*]; done)), (by first | rfl | (simp; done) | (simp [*]; done)), (by first | rfl | (simp; done) | (simp [*]; done)), H', ⟨by have := HK1.out; omega⟩, ⟨by (with_reducible repeat (first | apply Kd.R_alloc | apply Kd.R_drewN | apply Kd.R_drew)); exact HO311.out⟩, ⟨by (with_reducible repeat (first | refine blk_drewN ?_ _ | refine blk_drew ?_ | refine blk_alloc ?_ _)); exact BK297.out⟩, ⟨by repeat (first | (with_reducible first | exact HB.out | apply below_alloc | apply pw_below_drewN | apply below_drew1 | refine below_set ?_ GE297.out) | exact HB.out)⟩⟩
                · rw [if_neg c30] at H
                  exact absurd H (by simp)
              · rw [if_neg c28] at H
                exact absurd H (by simp)
          · rw [if_neg c16] at H
            exact absurd H (by simp)
        · rw [if_neg c15] at H
          have c15b0 : decide (x16_1 < (t298.size : Int)) = false := decide_eq_false c15
          clear c15
          simp only [Option.some.injEq, Prod.mk.injEq] at H
          obtain ⟨rfl, rfl⟩ := H
          go_wp2
          go_ret2
          exact ⟨_, by first | rfl | (simp [errW_none, errW_some] <;> rfl) | (simp [*, errW_none, errW_some] <;> rfl), by (with_reducible repeat (first | apply Kd.R_alloc | apply Kd.R_drewN | apply Kd.R_drew)); exact HO_13.out, by repeat (first | (with_reducible first | exact HB.out | apply below_alloc | apply pw_below_drewN | apply below_drew1 | refine below_set ?_ GE297.out) | exact HB.out)⟩
  · replace c6 := Bool.eq_false_iff.mpr c6
    subst c6
    have H1 : (some (([] : List Int), false)) = some (r1, r2) := by rw [if_neg (show ¬ (false = true) by decide)] at H; exact H
    clear H
    have H := H1
    clear H1
    simp only [Option.some.injEq, Prod.mk.injEq] at H
    obtain ⟨rfl, rfl⟩ := H
    go_enter Tryd.func20, Tryd.ntmps20
    go_wp2_with (first | ((with_reducible refine gate_dst (N := 4) rfl ?_); refine box_event ?hg (N := 4) ?hd (cs := #[.int .i64 a0_0, .int .i64 a0_1]) (t := 30) ?hr ?_; (case hd => rfl); (case hg => rfl); (case hr => first | (go_simp; done) | (go_simp; rfl)); intro gb297 hg w33 hbox hb; have n0_ := Aside0.mk (below_step (by repeat (first | (with_reducible first | exact HB.out | apply below_alloc | apply pw_below_drewN | apply below_drew1) | exact HB.out)) hb); have n1_ := Aside0.mk (hbox); have n2_ := Aside0.mk ((by rw [hg]; exact (below_size (by repeat (first | (with_reducible first | exact HB.out | apply below_alloc | apply pw_below_drewN | apply below_drew1) | exact HB.out))) : w.heap.size ≤ gb297)); have n3_ := Aside0.mk ((by rw [hg]; exact (below_size (by repeat (first | (with_reducible first | exact HB.out | apply below_alloc | apply pw_below_drewN | apply below_drew1) | exact HB.out))) : w.heap.size ≤ gb297)); clear HB; have HB := n0_; have BK297 := n1_; have GW297 := n2_; have GE297 := n3_; clear n0_ n1_ n2_ n3_; clear hb hbox hg; have hcz34_0 : w33.cell? ⟨gb297, 0, none⟩ = some (.int .i64 a0_0) := (blk_cell BK297.out 0).trans rfl; have hcz34_1 : w33.cell? ⟨gb297, 1, none⟩ = some (.int .i64 a0_1) := (blk_cell BK297.out 1).trans rfl; have hfz34_0 := blk_frozen BK297.out 0; have hfz34_1 := blk_frozen BK297.out 1) | ((with_reducible refine gate_callee (f := 15) rfl ?_); refine goesL_ (some 22) rfl rfl Tryd.func15 (by kernel_rfl) rfl #[.agg #[.int .i64 a0_0, .int .i64 a0_1], .string a1, .string a2, .string a3] rfl (by (try simp only [List.map_toArray, List.map_cons, List.map_nil]); first | done | rfl | (simp only [List.length_drop, List.length_take]; rfl)) ?_; (with_reducible refine (spec_EnablesOf.calls a0_0 a0_1 a1 a2 a3 t298 t299 false _ A5.out).mono ?_); rintro e w35 ⟨rfl, hb⟩; refine ⟨_, rfl, ?_⟩; have n0_ := Aside0.mk (blk_below (g := gb297) (o := .cells #[.int .i64 a0_0, .int .i64 a0_1] 30 (0, 0)) (by (with_reducible repeat (first | refine blk_drewN ?_ _ | refine blk_drew ?_ | refine blk_alloc ?_ _)); exact BK297.out) hb); have n1_ := Aside0.mk (below_step (by repeat (first | (with_reducible first | exact HB.out | apply below_alloc | apply pw_below_drewN | apply below_drew1 | refine below_set ?_ GE297.out) | exact HB.out)) hb); clear BK297; clear HB; have BK297 := n0_; have HB := n1_; clear n0_ n1_; (try clear hb); (try clear hb2); (try clear hk); (try clear hi)))
    go_ret2
    exact ⟨_, by first | rfl | (simp [errW_none, errW_some] <;> rfl) | (simp [*, errW_none, errW_some] <;> rfl), by first | exact Kd.R_nil _ _ _ _ _ | exact Kd.N_nil _ _ _ _ _ | exact Kd.V_nil _ _ _ _ _ | exact Kd.Q_nil _ _ _ _ _ | exact Kd.S_nil _ _ _ _ _, by repeat (first | (with_reducible first | exact HB.out | apply below_alloc | apply pw_below_drewN | apply below_drew1 | refine below_set ?_ GE297.out) | exact HB.out)⟩
end Go.Proofs.YthkpnbelbaljdaaDoor.X
end
section
/- A stub: the text lies in G0. -/
end
section
/- A stub: the text lies in G0. -/
end
section
/- A stub: the text lies in G0. -/
end
section
/- A stub: the text lies in G4. -/
end
section
/- The program's SwitchTimes: what it answers. Conditions: as each lemma says. -/
namespace Go.Proofs.YthkpnbelbaljdaaDoor.X
open Go.RowKit Go.Proofs.YthkpnbelbaljdaaDoorW.PrintWords Go.Proofs.YthkpnbelbaljdaaDoorW.PrintLast Go.Proofs.YthkpnbelbaljdaaDoorW.PrintMore
set_option linter.unusedVariables false
set_option linter.unusedSimpArgs false
/-- Two small arrays, as one Bool. -/
theorem eq2 (a b c d : Int) (n : Nat) (W : World) : (Op.equalIn (n + 2) 72 (.agg #[.int .u8 a, .int .u8 b]) (.agg #[.int .u8 c, .int .u8 d])).run Tryd.prog W = .ok ((a == c) && (b == d)) W := by
  have hi := (show (Tryd.prog.info? 5).map (fun i => i.size) = some 1 by kernel_rfl)
  obtain ⟨i0, h1, h2⟩ := Option.map_eq_some_iff.1 hi
  have hst : Tryd.prog.stoodInHeld 72 = false := by kernel_rfl
  simp [Op.equalIn, run_underlying Tryd.underlying72, run_underlying Tryd.underlying5, sizeOf, typeInfo, h1, h2, hst, go_sem, List.range', List.forIn_cons, List.forIn_nil, isAgg, part]
  by_cases e1 : a = c <;> by_cases e2 : b = d <;> simp [e1, e2, go_sem, run_underlying Tryd.underlying5]
/-- What a text held a tick before. -/
def pvb (x : ByteArray) (p : Int) : Nat → Int
  | 0 => p
  | n + 1 => bt x (n : Int)
def chg (x y : ByteArray) (p q : Int) (n : Nat) : Bool := !((bt x (n : Int) == pvb x p n) && (bt y (n : Int) == pvb y q n))
def chgs (x y : ByteArray) (p q : Int) : Nat → List Int
  | 0 => []
  | n + 1 => chgs x y p q n ++ (if chg x y p q n = true then [(n : Int)] else [])
theorem chgs_len (x y : ByteArray) (p q : Int) : ∀ n, (chgs x y p q n).length ≤ n
  | 0 => Nat.le_refl _
  | n + 1 => by have := chgs_len x y p q n; show (chgs x y p q n ++ _).length ≤ _; rw [List.length_append]; split <;> simp <;> omega
set_option maxHeartbeats 4000000 in
set_option maxRecDepth 100000 in
theorem Times_yes (m fi : Int) (a b c x y : ByteArray) (w : World) (h : impl_EnablesOf.f m fi a b c = some (x, y, true)) (hn : x.size ≤ 1000000) (hy : y.size = x.size) (p q : Int) (hp : p = if fi = 1 then 48 else 49) (hq : q = if fi = 1 then 49 else 48) :
    Calls Tryd.prog 21 #[.agg #[.int .i64 m, .int .i64 fi], .string a, .string b, .string c] w fun e w' => ∃ v0_ : Value, e = .returned (.tuple #[v0_, .bool true]) ∧ Kd.R (Kd.int .i64) 2 w' w.heap.size (fun _ => True) v0_ (chgs x y p q x.size) ∧ Below w.heap.size w w' := by
  have H := Aside0.mk h
  have HN := Aside0.mk hn
  have HY := Aside0.mk hy
  have HP := Aside0.mk hp
  have HQ := Aside0.mk hq
  clear h hn hy hp hq
  have HB := Aside0.mk (Below.refl w.heap.size w)
  by_cases hf : fi = 1
  · have mf : (fi == 1) = true := beq_iff_eq.mpr hf
    have HF := Aside0.mk hf
    clear hf
    go_enter Tryd.func21, Tryd.ntmps21
    go_wp2_with (first
      | ((with_reducible refine gate_dst (N := 4) rfl ?_); refine box_event ?hg (N := 4) ?hd (cs := #[.int .i64 m, .int .i64 fi]) (t := 30) ?hr ?_; (case hd => rfl); (case hg => rfl); (case hr => first | (go_simp; done) | (go_simp; rfl)); intro gs hg wn hbox hb; have BK := Aside0.mk hbox; have n0_ := Aside0.mk (below_step HB.out hb); clear HB hb hg hbox; have HB := n0_; clear n0_; have cs0 : wn.cell? ⟨gs, 0, none⟩ = some (.int .i64 m) := (blk_cell BK.out 0).trans rfl; have cs1 : wn.cell? ⟨gs, 1, none⟩ = some (.int .i64 fi) := (blk_cell BK.out 1).trans rfl)
      | (go_at_call 17; (with_reducible refine (impl_EnablesOf.calls m fi a b c x y true _ H.out).mono ?_); rintro e w2 ⟨rfl, hb⟩; have m_ := Aside0.mk (blk_below BK.out hb); have n0_ := Aside0.mk (below_step HB.out hb); clear HB BK hb; have HB := n0_; have BK := m_; clear n0_ m_; have cs1 : ∀ o1 o2, ((w2.alloc o1).alloc o2).cell? ⟨gs, 1, none⟩ = some (.int .i64 fi) := fun o1 o2 => pw_cell_below (below_alloc (below_alloc (Below.refl _ _) _) _) ((blk_cell BK.out 1).trans rfl)))
    obtain ⟨gb, hgb⟩ : ∃ gb, gb = w2.heap.size + 1 := ⟨_, rfl⟩
    rw [← hgb]
    have HGB := Aside0.mk hgb
    clear hgb
    go_loopg [36, 13] x.size (fun kq v36 v13 w' => ∃ (j : Nat) (i : Int) (u : Value) (P Q : Int), v36 = .int .i64 i ∧ u = v13 ∧ Aside0 (i = (j : Int)) ∧ Aside0 (j + kq = x.size) ∧ Aside0 (P = pvb x p j ∧ Q = pvb y q j) ∧ Aside0 (Kd.R (Kd.int .i64) 2 w' w.heap.size (fun k => w.heap.size ≤ k) u (chgs x y p q j)) ∧ Aside0 (w'.heap[gb]? = some (.cells #[.int .u8 P, .int .u8 Q] 72 (0, 0))) ∧ Aside0 (Below w.heap.size w w'))
    case atStart =>
      have hs : (w2.alloc (.cells #[] 2)).heap.size = w2.heap.size + 1 := by simp
      have hz := below_size HB.out
      refine ⟨0, 0, _, 48, 49, rfl, rfl, ⟨rfl⟩, ⟨by omega⟩, ⟨by rw [HP.out, HQ.out, if_pos HF.out, if_pos HF.out]; exact ⟨rfl, rfl⟩⟩, ⟨?_⟩, ⟨by rw [HGB.out, ← hs]; exact blk_new _ _⟩, ⟨below_step HB.out (below_alloc (below_alloc (Below.refl _ _) _) _)⟩⟩
      exact Kd.R_of_own (enc := Value.int .i64) (own_alloc (own_lit_of (enc := Value.int .i64) w2 w.heap.size 2 ([] : List Int) hz (by simp)) _) (fun k hk => own_base (own_lit_of (enc := Value.int .i64) w2 w.heap.size 2 ([] : List Int) hz (by simp)) k hk)
    case round =>
      have HGE := Aside0.mk (show w.heap.size ≤ gb by have := below_size HB.out; have := HGB.out; omega)
      clear HB BK cs1
      obtain ⟨j, i, u, P, Q, rfl, rfl, HI, HE, HPQ, HO, HK, HB⟩ := hrel
      by_cases hlt : i < (x.size : Int)
      · cases gk with
        | zero => have := HE.out; have := HI.out; omega
        | succ g1 =>
        have hbx := bt_at x i
        have hby := bt_at y i
        have p0 : (0 ≤ i) = True := eq_true (by have := HI.out; omega)
        have p1 : (i < (x.size : Int)) = True := eq_true hlt
        have p2 : (i < (y.size : Int)) = True := eq_true (by have := HY.out; omega)
        have cb0 : ∀ o, (wr.alloc o).cell? ⟨gb, 0, none⟩ = some (.int .u8 P) := fun o => pw_cell_below (below_alloc (Below.refl _ _) _) ((blk_cell HK.out 0).trans rfl)
        have cb1 : ∀ o, (wr.alloc o).cell? ⟨gb, 1, none⟩ = some (.int .u8 Q) := fun o => pw_cell_below (below_alloc (Below.refl _ _) _) ((blk_cell HK.out 1).trans rfl)
        have zb0 : ∀ o, (wr.alloc o).frozen? ⟨gb, 0, none⟩ = false := fun o => blk_frozen (blk_alloc HK.out o) 0
        have zb1 : ∀ o, (wr.alloc o).frozen? ⟨gb, 1, none⟩ = false := fun o => blk_frozen (blk_alloc HK.out o) 1
        have heq : ∀ W, (Op.equalIn 10000 72 (.agg #[.int .u8 (bt x i), .int .u8 (bt y i)]) (.agg #[.int .u8 P, .int .u8 Q])).run Tryd.prog W = .ok ((bt x i == P) && (bt y i == Q)) W := fun W => eq2 _ _ _ _ 9998 W
        obtain ⟨E, hE⟩ : ∃ E, E = ((bt x i == P) && (bt y i == Q)) := ⟨_, rfl⟩
        rw [← hE] at heq
        have HEQ := Aside0.mk hE
        clear hE
        have HX : Aside0 (chg x y p q j = !E) := ⟨by unfold chg; rw [HEQ.out, HPQ.out.1, HPQ.out.2, HI.out]⟩
        have HL : Aside0 ((chgs x y p q j).length ≤ j) := ⟨chgs_len x y p q j⟩
        cases E with
        | true =>
          go_upto_region 10 with (fail)
          go_region
          have wj : IntKind.i64.wrap (i + 1) = i + 1 := IntWalk.i64_in _ ⟨by have := HI.out; omega, by have := HN.out; omega⟩
          have HF2 := Aside0.mk (blk_put (blk_put (blk_alloc HK.out (.cells #[.int .u8 (bt x i), .int .u8 (bt y i)] 72)) 0 (.int .u8 (bt x i)) (cs' := #[.int .u8 (bt x i), .int .u8 Q]) rfl) 1 (.int .u8 (bt y i)) (cs' := #[.int .u8 (bt x i), .int .u8 (bt y i)]) rfl)
          have hR0 := Kd.R_alloc HO.out (.cells #[.int .u8 (bt x i), .int .u8 (bt y i)] 72)
          have hk0 := blk_alloc HK.out (.cells #[.int .u8 (bt x i), .int .u8 (bt y i)] 72)
          have hR1 := Kd.R_set hR0 hk0 (by decide) 0 (.int .u8 (bt x i))
          have hk1 := blk_put hk0 0 (.int .u8 (bt x i)) (cs' := #[.int .u8 (bt x i), .int .u8 Q]) rfl
          have HR2 := Aside0.mk (Kd.R_drew (Kd.R_set hR1 hk1 (by decide) 1 (.int .u8 (bt y i))))
          have HB2 := Aside0.mk (below_drew1 <| below_set (j := 1) (v := .int .u8 (bt y i)) (below_set (j := 0) (v := .int .u8 (bt x i)) (below_step HB.out (below_alloc (Below.refl _ _) (.cells #[.int .u8 (bt x i), .int .u8 (bt y i)] 72))) HGE.out) HGE.out)
          clear hR0 hk0 hR1 hk1
          go_wp2
          go_roundg g1
          case measure => omega
          case rel => exact ⟨j + 1, i + 1, u, bt x i, bt y i, rfl, rfl, ⟨by have := HI.out; omega⟩, ⟨by have := HE.out; omega⟩, ⟨by rw [HI.out]; exact ⟨rfl, rfl⟩⟩, ⟨by rw [show chgs x y p q (j + 1) = chgs x y p q j ++ (if chg x y p q j = true then [(j : Int)] else []) from rfl, HX.out, if_neg (by decide), List.append_nil]; exact HR2.out⟩, HF2, HB2⟩
        | false =>
          go_upto_region 10 with (fail)
          go_region
          have wj : IntKind.i64.wrap (i + 1) = i + 1 := IntWalk.i64_in _ ⟨by have := HI.out; omega, by have := HN.out; omega⟩
          obtain ⟨l0, hl0⟩ : ∃ l0, l0 = chgs x y p q j := ⟨_, rfl⟩
          rw [← hl0] at HO HL
          have LM : Aside0 (l0.length < 17592186044416) := ⟨by have := HL.out; have := HE.out; have := HN.out; omega⟩
          have HN1 : Aside0 (l0 ++ [i] = chgs x y p q (j + 1)) := ⟨by rw [show chgs x y p q (j + 1) = chgs x y p q j ++ (if chg x y p q j = true then [(j : Int)] else []) from rfl, HX.out, if_pos (by decide), hl0, HI.out]⟩
          clear hl0 cb0 cb1 zb0 zb1
          have hW0 := Aside0.mk (blk_drew (blk_new wr (.cells #[.int .u8 (bt x i), .int .u8 (bt y i)] 72)))
          have hkW := Aside0.mk (blk_drew (blk_alloc HK.out (.cells #[.int .u8 (bt x i), .int .u8 (bt y i)] 72)))
          have hRW := Aside0.mk (Kd.R_drew (Kd.R_alloc HO.out (.cells #[.int .u8 (bt x i), .int .u8 (bt y i)] 72)))
          have hBW := Aside0.mk (below_drew1 (below_step HB.out (below_alloc (Below.refl _ _) (.cells #[.int .u8 (bt x i), .int .u8 (bt y i)] 72))))
          clear HO HK HB
          generalize (wr.alloc (.cells #[.int .u8 (bt x i), .int .u8 (bt y i)] 72)).drew = W at hW0 hkW hRW hBW ⊢
          generalize wr.heap.size = gA at hW0 ⊢
          have ca0 : W.cell? ⟨gA, 0, none⟩ = some (.int .u8 (bt x i)) := (blk_cell hW0.out 0).trans rfl
          have ca1 : W.cell? ⟨gA, 1, none⟩ = some (.int .u8 (bt y i)) := (blk_cell hW0.out 1).trans rfl
          have cb0 : W.cell? ⟨gb, 0, none⟩ = some (.int .u8 P) := (blk_cell hkW.out 0).trans rfl
          have cb1 : W.cell? ⟨gb, 1, none⟩ = some (.int .u8 Q) := (blk_cell hkW.out 1).trans rfl
          go_wp2_with ((with_reducible refine gate_builtin (b := .append) (xs := #[.tmp 49, .tmp 51]) rfl ?_); at_builtin; refine Kd.R_append (Kd.int .i64) (w0 := w) w.heap.size rfl (.tmp 49) (.tmp 51) 34 2 (.int .i64 0) 8 rfl Tryd.underlying34 info2 rfl (by decide) (by omega) u l0 i [.int .i64 i] (fun k => w.heap.size ≤ k) (fun _ => False) rfl rfl ?aP (fun _ hk => hk.elim) ?aF ?aO ?aB ?aS ?aL ?_; (case aP => exact rfl); (case aB => exact hBW.out); (case aF => exact (fun _ hk => Nat.le_trans (below_size hBW.out) hk)); (case aO => exact hRW.out); (case aS => exact below_size hBW.out); (case aL => have := LM.out; omega); intro v3 w3 ho hb hg hat; rw [HN1.out] at ho; have hk3 := blk_grown hkW.out hg (Kd.R_ne hRW.out hkW.out (by decide)); have hA3 := blk_grown hW0.out hg (Kd.R_ne hRW.out hW0.out (by decide)); have HR3 := Aside0.mk ho; have HB3 := Aside0.mk hb; have HK3 := Aside0.mk hk3; have ca0' : w3.cell? ⟨gA, 0, none⟩ = some (.int .u8 (bt x i)) := (blk_cell hA3 0).trans rfl; have ca1' : w3.cell? ⟨gA, 1, none⟩ = some (.int .u8 (bt y i)) := (blk_cell hA3 1).trans rfl; have zb0' := blk_frozen hk3 0; have cb0' : w3.cell? ⟨gb, 0, none⟩ = some (.int .u8 P) := (blk_cell hk3 0).trans rfl; have hk9 := blk_put hk3 0 (.int .u8 (bt x i)) (cs' := #[.int .u8 (bt x i), .int .u8 Q]) rfl; have cb1s : (w3.setCell ⟨gb, 0, none⟩ (.int .u8 (bt x i))).cell? ⟨gb, 1, none⟩ = some (.int .u8 Q) := (blk_cell hk9 1).trans rfl; have zb1s := blk_frozen hk9 1; clear ho hb hg hat hk3 hA3 hk9)
          have hR1 := Kd.R_set HR3.out HK3.out (by decide) 0 (.int .u8 (bt x i))
          have hk1 := blk_put HK3.out 0 (.int .u8 (bt x i)) (cs' := #[.int .u8 (bt x i), .int .u8 Q]) rfl
          have HR2 := Aside0.mk (Kd.R_set hR1 hk1 (by decide) 1 (.int .u8 (bt y i)))
          have HF2 := Aside0.mk (blk_put hk1 1 (.int .u8 (bt y i)) (cs' := #[.int .u8 (bt x i), .int .u8 (bt y i)]) rfl)
          have HB2 := Aside0.mk (below_set (j := 1) (v := .int .u8 (bt y i)) (below_set (j := 0) (v := .int .u8 (bt x i)) HB3.out HGE.out) HGE.out)
          clear hR1 hk1
          go_roundg g1
          case measure => omega
          case rel => exact ⟨j + 1, i + 1, v3, bt x i, bt y i, rfl, rfl, ⟨by have := HI.out; omega⟩, ⟨by have := HE.out; omega⟩, ⟨by rw [HI.out]; exact ⟨rfl, rfl⟩⟩, HR2, HF2, HB2⟩
      · have hj : j = x.size := by have := HE.out; have := HI.out; omega
        subst hj
        go_wp2
        go_ret2
        exact ⟨_, rfl, Kd.R_mono HO.out (fun _ _ => trivial), HB.out⟩
  · have mf : (fi == 1) = false := beq_eq_false_iff_ne.mpr hf
    have HF := Aside0.mk hf
    clear hf
    go_enter Tryd.func21, Tryd.ntmps21
    go_wp2_with (first
      | ((with_reducible refine gate_dst (N := 4) rfl ?_); refine box_event ?hg (N := 4) ?hd (cs := #[.int .i64 m, .int .i64 fi]) (t := 30) ?hr ?_; (case hd => rfl); (case hg => rfl); (case hr => first | (go_simp; done) | (go_simp; rfl)); intro gs hg wn hbox hb; have BK := Aside0.mk hbox; have n0_ := Aside0.mk (below_step HB.out hb); clear HB hb hg hbox; have HB := n0_; clear n0_; have cs0 : wn.cell? ⟨gs, 0, none⟩ = some (.int .i64 m) := (blk_cell BK.out 0).trans rfl; have cs1 : wn.cell? ⟨gs, 1, none⟩ = some (.int .i64 fi) := (blk_cell BK.out 1).trans rfl)
      | (go_at_call 17; (with_reducible refine (impl_EnablesOf.calls m fi a b c x y true _ H.out).mono ?_); rintro e w2 ⟨rfl, hb⟩; have m_ := Aside0.mk (blk_below BK.out hb); have n0_ := Aside0.mk (below_step HB.out hb); clear HB BK hb; have HB := n0_; have BK := m_; clear n0_ m_; have cs1 : ∀ o1 o2, ((w2.alloc o1).alloc o2).cell? ⟨gs, 1, none⟩ = some (.int .i64 fi) := fun o1 o2 => pw_cell_below (below_alloc (below_alloc (Below.refl _ _) _) _) ((blk_cell BK.out 1).trans rfl)))
    obtain ⟨gb, hgb⟩ : ∃ gb, gb = w2.heap.size + 1 := ⟨_, rfl⟩
    rw [← hgb]
    have HGB := Aside0.mk hgb
    clear hgb
    go_loopg [36, 13] x.size (fun kq v36 v13 w' => ∃ (j : Nat) (i : Int) (u : Value) (P Q : Int), v36 = .int .i64 i ∧ u = v13 ∧ Aside0 (i = (j : Int)) ∧ Aside0 (j + kq = x.size) ∧ Aside0 (P = pvb x p j ∧ Q = pvb y q j) ∧ Aside0 (Kd.R (Kd.int .i64) 2 w' w.heap.size (fun k => w.heap.size ≤ k) u (chgs x y p q j)) ∧ Aside0 (w'.heap[gb]? = some (.cells #[.int .u8 P, .int .u8 Q] 72 (0, 0))) ∧ Aside0 (Below w.heap.size w w'))
    case atStart =>
      have hs : (w2.alloc (.cells #[] 2)).heap.size = w2.heap.size + 1 := by simp
      have hz := below_size HB.out
      refine ⟨0, 0, _, 49, 48, rfl, rfl, ⟨rfl⟩, ⟨by omega⟩, ⟨by rw [HP.out, HQ.out, if_neg HF.out, if_neg HF.out]; exact ⟨rfl, rfl⟩⟩, ⟨?_⟩, ⟨by rw [HGB.out, ← hs]; exact blk_new _ _⟩, ⟨below_step HB.out (below_alloc (below_alloc (Below.refl _ _) _) _)⟩⟩
      exact Kd.R_of_own (enc := Value.int .i64) (own_alloc (own_lit_of (enc := Value.int .i64) w2 w.heap.size 2 ([] : List Int) hz (by simp)) _) (fun k hk => own_base (own_lit_of (enc := Value.int .i64) w2 w.heap.size 2 ([] : List Int) hz (by simp)) k hk)
    case round =>
      have HGE := Aside0.mk (show w.heap.size ≤ gb by have := below_size HB.out; have := HGB.out; omega)
      clear HB BK cs1
      obtain ⟨j, i, u, P, Q, rfl, rfl, HI, HE, HPQ, HO, HK, HB⟩ := hrel
      by_cases hlt : i < (x.size : Int)
      · cases gk with
        | zero => have := HE.out; have := HI.out; omega
        | succ g1 =>
        have hbx := bt_at x i
        have hby := bt_at y i
        have p0 : (0 ≤ i) = True := eq_true (by have := HI.out; omega)
        have p1 : (i < (x.size : Int)) = True := eq_true hlt
        have p2 : (i < (y.size : Int)) = True := eq_true (by have := HY.out; omega)
        have cb0 : ∀ o, (wr.alloc o).cell? ⟨gb, 0, none⟩ = some (.int .u8 P) := fun o => pw_cell_below (below_alloc (Below.refl _ _) _) ((blk_cell HK.out 0).trans rfl)
        have cb1 : ∀ o, (wr.alloc o).cell? ⟨gb, 1, none⟩ = some (.int .u8 Q) := fun o => pw_cell_below (below_alloc (Below.refl _ _) _) ((blk_cell HK.out 1).trans rfl)
        have zb0 : ∀ o, (wr.alloc o).frozen? ⟨gb, 0, none⟩ = false := fun o => blk_frozen (blk_alloc HK.out o) 0
        have zb1 : ∀ o, (wr.alloc o).frozen? ⟨gb, 1, none⟩ = false := fun o => blk_frozen (blk_alloc HK.out o) 1
        have heq : ∀ W, (Op.equalIn 10000 72 (.agg #[.int .u8 (bt x i), .int .u8 (bt y i)]) (.agg #[.int .u8 P, .int .u8 Q])).run Tryd.prog W = .ok ((bt x i == P) && (bt y i == Q)) W := fun W => eq2 _ _ _ _ 9998 W
        obtain ⟨E, hE⟩ : ∃ E, E = ((bt x i == P) && (bt y i == Q)) := ⟨_, rfl⟩
        rw [← hE] at heq
        have HEQ := Aside0.mk hE
        clear hE
        have HX : Aside0 (chg x y p q j = !E) := ⟨by unfold chg; rw [HEQ.out, HPQ.out.1, HPQ.out.2, HI.out]⟩
        have HL : Aside0 ((chgs x y p q j).length ≤ j) := ⟨chgs_len x y p q j⟩
        cases E with
        | true =>
          go_upto_region 10 with (fail)
          go_region
          have wj : IntKind.i64.wrap (i + 1) = i + 1 := IntWalk.i64_in _ ⟨by have := HI.out; omega, by have := HN.out; omega⟩
          have HF2 := Aside0.mk (blk_put (blk_put (blk_alloc HK.out (.cells #[.int .u8 (bt x i), .int .u8 (bt y i)] 72)) 0 (.int .u8 (bt x i)) (cs' := #[.int .u8 (bt x i), .int .u8 Q]) rfl) 1 (.int .u8 (bt y i)) (cs' := #[.int .u8 (bt x i), .int .u8 (bt y i)]) rfl)
          have hR0 := Kd.R_alloc HO.out (.cells #[.int .u8 (bt x i), .int .u8 (bt y i)] 72)
          have hk0 := blk_alloc HK.out (.cells #[.int .u8 (bt x i), .int .u8 (bt y i)] 72)
          have hR1 := Kd.R_set hR0 hk0 (by decide) 0 (.int .u8 (bt x i))
          have hk1 := blk_put hk0 0 (.int .u8 (bt x i)) (cs' := #[.int .u8 (bt x i), .int .u8 Q]) rfl
          have HR2 := Aside0.mk (Kd.R_drew (Kd.R_set hR1 hk1 (by decide) 1 (.int .u8 (bt y i))))
          have HB2 := Aside0.mk (below_drew1 <| below_set (j := 1) (v := .int .u8 (bt y i)) (below_set (j := 0) (v := .int .u8 (bt x i)) (below_step HB.out (below_alloc (Below.refl _ _) (.cells #[.int .u8 (bt x i), .int .u8 (bt y i)] 72))) HGE.out) HGE.out)
          clear hR0 hk0 hR1 hk1
          go_wp2
          go_roundg g1
          case measure => omega
          case rel => exact ⟨j + 1, i + 1, u, bt x i, bt y i, rfl, rfl, ⟨by have := HI.out; omega⟩, ⟨by have := HE.out; omega⟩, ⟨by rw [HI.out]; exact ⟨rfl, rfl⟩⟩, ⟨by rw [show chgs x y p q (j + 1) = chgs x y p q j ++ (if chg x y p q j = true then [(j : Int)] else []) from rfl, HX.out, if_neg (by decide), List.append_nil]; exact HR2.out⟩, HF2, HB2⟩
        | false =>
          go_upto_region 10 with (fail)
          go_region
          have wj : IntKind.i64.wrap (i + 1) = i + 1 := IntWalk.i64_in _ ⟨by have := HI.out; omega, by have := HN.out; omega⟩
          obtain ⟨l0, hl0⟩ : ∃ l0, l0 = chgs x y p q j := ⟨_, rfl⟩
          rw [← hl0] at HO HL
          have LM : Aside0 (l0.length < 17592186044416) := ⟨by have := HL.out; have := HE.out; have := HN.out; omega⟩
          have HN1 : Aside0 (l0 ++ [i] = chgs x y p q (j + 1)) := ⟨by rw [show chgs x y p q (j + 1) = chgs x y p q j ++ (if chg x y p q j = true then [(j : Int)] else []) from rfl, HX.out, if_pos (by decide), hl0, HI.out]⟩
          clear hl0 cb0 cb1 zb0 zb1
          have hW0 := Aside0.mk (blk_drew (blk_new wr (.cells #[.int .u8 (bt x i), .int .u8 (bt y i)] 72)))
          have hkW := Aside0.mk (blk_drew (blk_alloc HK.out (.cells #[.int .u8 (bt x i), .int .u8 (bt y i)] 72)))
          have hRW := Aside0.mk (Kd.R_drew (Kd.R_alloc HO.out (.cells #[.int .u8 (bt x i), .int .u8 (bt y i)] 72)))
          have hBW := Aside0.mk (below_drew1 (below_step HB.out (below_alloc (Below.refl _ _) (.cells #[.int .u8 (bt x i), .int .u8 (bt y i)] 72))))
          clear HO HK HB
          generalize (wr.alloc (.cells #[.int .u8 (bt x i), .int .u8 (bt y i)] 72)).drew = W at hW0 hkW hRW hBW ⊢
          generalize wr.heap.size = gA at hW0 ⊢
          have ca0 : W.cell? ⟨gA, 0, none⟩ = some (.int .u8 (bt x i)) := (blk_cell hW0.out 0).trans rfl
          have ca1 : W.cell? ⟨gA, 1, none⟩ = some (.int .u8 (bt y i)) := (blk_cell hW0.out 1).trans rfl
          have cb0 : W.cell? ⟨gb, 0, none⟩ = some (.int .u8 P) := (blk_cell hkW.out 0).trans rfl
          have cb1 : W.cell? ⟨gb, 1, none⟩ = some (.int .u8 Q) := (blk_cell hkW.out 1).trans rfl
          go_wp2_with ((with_reducible refine gate_builtin (b := .append) (xs := #[.tmp 49, .tmp 51]) rfl ?_); at_builtin; refine Kd.R_append (Kd.int .i64) (w0 := w) w.heap.size rfl (.tmp 49) (.tmp 51) 34 2 (.int .i64 0) 8 rfl Tryd.underlying34 info2 rfl (by decide) (by omega) u l0 i [.int .i64 i] (fun k => w.heap.size ≤ k) (fun _ => False) rfl rfl ?aP (fun _ hk => hk.elim) ?aF ?aO ?aB ?aS ?aL ?_; (case aP => exact rfl); (case aB => exact hBW.out); (case aF => exact (fun _ hk => Nat.le_trans (below_size hBW.out) hk)); (case aO => exact hRW.out); (case aS => exact below_size hBW.out); (case aL => have := LM.out; omega); intro v3 w3 ho hb hg hat; rw [HN1.out] at ho; have hk3 := blk_grown hkW.out hg (Kd.R_ne hRW.out hkW.out (by decide)); have hA3 := blk_grown hW0.out hg (Kd.R_ne hRW.out hW0.out (by decide)); have HR3 := Aside0.mk ho; have HB3 := Aside0.mk hb; have HK3 := Aside0.mk hk3; have ca0' : w3.cell? ⟨gA, 0, none⟩ = some (.int .u8 (bt x i)) := (blk_cell hA3 0).trans rfl; have ca1' : w3.cell? ⟨gA, 1, none⟩ = some (.int .u8 (bt y i)) := (blk_cell hA3 1).trans rfl; have zb0' := blk_frozen hk3 0; have cb0' : w3.cell? ⟨gb, 0, none⟩ = some (.int .u8 P) := (blk_cell hk3 0).trans rfl; have hk9 := blk_put hk3 0 (.int .u8 (bt x i)) (cs' := #[.int .u8 (bt x i), .int .u8 Q]) rfl; have cb1s : (w3.setCell ⟨gb, 0, none⟩ (.int .u8 (bt x i))).cell? ⟨gb, 1, none⟩ = some (.int .u8 Q) := (blk_cell hk9 1).trans rfl; have zb1s := blk_frozen hk9 1; clear ho hb hg hat hk3 hA3 hk9)
          have hR1 := Kd.R_set HR3.out HK3.out (by decide) 0 (.int .u8 (bt x i))
          have hk1 := blk_put HK3.out 0 (.int .u8 (bt x i)) (cs' := #[.int .u8 (bt x i), .int .u8 Q]) rfl
          have HR2 := Aside0.mk (Kd.R_set hR1 hk1 (by decide) 1 (.int .u8 (bt y i)))
          have HF2 := Aside0.mk (blk_put hk1 1 (.int .u8 (bt y i)) (cs' := #[.int .u8 (bt x i), .int .u8 (bt y i)]) rfl)
          have HB2 := Aside0.mk (below_set (j := 1) (v := .int .u8 (bt y i)) (below_set (j := 0) (v := .int .u8 (bt x i)) HB3.out HGE.out) HGE.out)
          clear hR1 hk1
          go_roundg g1
          case measure => omega
          case rel => exact ⟨j + 1, i + 1, v3, bt x i, bt y i, rfl, rfl, ⟨by have := HI.out; omega⟩, ⟨by have := HE.out; omega⟩, ⟨by rw [HI.out]; exact ⟨rfl, rfl⟩⟩, HR2, HF2, HB2⟩
      · have hj : j = x.size := by have := HE.out; have := HI.out; omega
        subst hj
        go_wp2
        go_ret2
        exact ⟨_, rfl, Kd.R_mono HO.out (fun _ _ => trivial), HB.out⟩
set_option maxHeartbeats 4000000 in
set_option maxRecDepth 100000 in
theorem Times_no (m fi : Int) (a b c x y : ByteArray) (w : World) (h : impl_EnablesOf.f m fi a b c = some (x, y, false)) :
    Calls Tryd.prog 21 #[.agg #[.int .i64 m, .int .i64 fi], .string a, .string b, .string c] w fun e w' => ∃ v0_ : Value, e = .returned (.tuple #[v0_, .bool false]) ∧ Kd.R (Kd.int .i64) 2 w' w.heap.size (fun _ => True) v0_ ([] : List Int) ∧ Below w.heap.size w w' := by
  have H := Aside0.mk h
  clear h
  have HB := Aside0.mk (Below.refl w.heap.size w)
  go_enter Tryd.func21, Tryd.ntmps21
  go_wp2_with (first
    | ((with_reducible refine gate_dst (N := 4) rfl ?_); refine box_event ?hg (N := 4) ?hd (cs := #[.int .i64 m, .int .i64 fi]) (t := 30) ?hr ?_; (case hd => rfl); (case hg => rfl); (case hr => first | (go_simp; done) | (go_simp; rfl)); intro gs hg wn hbox hb; have BK := Aside0.mk hbox; have n0_ := Aside0.mk (below_step HB.out hb); clear HB hb hg hbox; have HB := n0_; clear n0_; have cs0 : wn.cell? ⟨gs, 0, none⟩ = some (.int .i64 m) := (blk_cell BK.out 0).trans rfl; have cs1 : wn.cell? ⟨gs, 1, none⟩ = some (.int .i64 fi) := (blk_cell BK.out 1).trans rfl)
    | (go_at_call 17; (with_reducible refine (impl_EnablesOf.calls m fi a b c x y false _ H.out).mono ?_); rintro e w2 ⟨rfl, hb⟩; have n0_ := Aside0.mk (below_step HB.out hb); clear HB BK hb; have HB := n0_; clear n0_))
  go_ret2
  exact ⟨_, rfl, Kd.R_nil _ _ _ _ _, HB.out⟩
def impl_SwitchTimes.f (a0_0 : Int) (a0_1 : Int) (a1 : ByteArray) (a2 : ByteArray) (a3 : ByteArray) : Option (List Int × Bool) :=
  (impl_EnablesOf.f a0_0 a0_1 a1 a2 a3).bind fun t => if t.2.2 = true then (if t.1.size ≤ 1000000 ∧ t.2.1.size = t.1.size then some (chgs t.1 t.2.1 (if a0_1 = 1 then 48 else 49) (if a0_1 = 1 then 49 else 48) t.1.size, true) else none) else some ([], false)
theorem impl_SwitchTimes.calls (a0_0 : Int) (a0_1 : Int) (a1 : ByteArray) (a2 : ByteArray) (a3 : ByteArray) (r1 : List Int) (r2 : Bool) (w : World) (h : impl_SwitchTimes.f a0_0 a0_1 a1 a2 a3 = some (r1, r2)) :
    Calls Tryd.prog 21 #[.agg #[.int .i64 a0_0, .int .i64 a0_1], .string a1, .string a2, .string a3] w fun e w' => ∃ v0_ : Value, e = .returned (.tuple #[v0_, .bool r2]) ∧ Kd.R (Kd.int .i64) 2 w' w.heap.size (fun _ => True) v0_ r1 ∧ Below w.heap.size w w' := by
  unfold impl_SwitchTimes.f at h
  obtain ⟨⟨x, y, z⟩, ht, h⟩ := Option.bind_eq_some_iff.mp h
  simp only at h
  cases z with
  | false =>
    rw [if_neg (by decide)] at h
    simp only [Option.some.injEq, Prod.mk.injEq] at h
    obtain ⟨rfl, rfl⟩ := h
    exact Times_no a0_0 a0_1 a1 a2 a3 x y w ht
  | true =>
    rw [if_pos rfl] at h
    by_cases hc : x.size ≤ 1000000 ∧ y.size = x.size
    · rw [if_pos hc] at h
      simp only [Option.some.injEq, Prod.mk.injEq] at h
      obtain ⟨rfl, rfl⟩ := h
      exact Times_yes a0_0 a0_1 a1 a2 a3 x y w ht hc.1 hc.2 _ _ rfl rfl
    · rw [if_neg hc] at h; cases h
end Go.Proofs.YthkpnbelbaljdaaDoor.X
end
section
-- Written by a program of this session out of the kit's print of the loaded functions: a plain function of a Go function, and its contract.
namespace Go.Proofs.YthkpnbelbaljdaaDoor.X
open Go.RowKit Go.Proofs.YthkpnbelbaljdaaDoorW.PrintWords Go.Proofs.YthkpnbelbaljdaaDoorW.PrintLast Go.Proofs.YthkpnbelbaljdaaDoorW.PrintMore
attribute [local go_sem] max2_int min2_int max_two min_two max_three min_three max_four min_four   -- for this text's walks alone
set_option linter.unusedVariables false
set_option linter.unusedSimpArgs false
/-! ### laws_FnExactSwitchTimes: function 7 -/
mutual
def laws_FnExactSwitchTimes.j0 : Nat → ByteArray → ByteArray → ByteArray → List Int → Bool → List Int → Bool → Int → Int → Option (Bool)
  | 0, _, _, _, _, _, _, _, _, _ => none
  | k + 1, x1, x2, x3, x9, x10, x11, x52, x317000, x317001 => if x52 = true then (some false) else ((laws_markInt64S.f k x11 1).bind fun bt330 => ((laws_heldInt64S.f k bt330.2 1).bind fun t332 => (if t332 < 0 then (some false) else (if t332 = bt330.1 then ((laws_toSwitch.f x317000 x317001).bind fun bt333 => ((impl_SwitchTimes.f bt333.1 bt333.2 x1 x2 x3).bind fun bt335 => ((laws_eqInt64S.f k bt335.1 x9).bind fun t339 => (if t339 = true then (laws_FnExactSwitchTimes.j1 k bt330.2 bt330.1 (bt335.2 != x10)) else (laws_FnExactSwitchTimes.j1 k bt330.2 bt330.1 true))))) else (some false)))))
def laws_FnExactSwitchTimes.j1 : Nat → List Int → Int → Bool → Option (Bool)
  | 0, _, _, _ => none
  | k + 1, x11, x13, x81 => if x81 = true then (some false) else ((laws_heldInt64S.f k x11 1).bind fun t340 => (if t340 < 0 then (some false) else (if t340 = x13 then (some true) else (some false))))
end
def laws_FnExactSwitchTimes.f (k : Nat) (a0_0 : Int) (a0_1 : Int) (a1 : ByteArray) (a2 : ByteArray) (a3 : ByteArray) : Option (Bool) := if (a1.size : Int) > 1048576 then (some true) else (if (a2.size : Int) > 1048576 then (some true) else (if (a3.size : Int) > 1048576 then (some true) else ((laws_toSwitch.f a0_0 a0_1).bind fun bt317 => ((spec_SwitchTimes.f k bt317.1 bt317.2 a1 a2 a3).bind fun bt319 => ((laws_toSwitch.f a0_0 a0_1).bind fun bt323 => ((impl_SwitchTimes.f bt323.1 bt323.2 a1 a2 a3).bind fun bt325 => ((laws_eqInt64S.f k bt325.1 bt319.1).bind fun t329 => (if t329 = true then (laws_FnExactSwitchTimes.j0 k a1 a2 a3 bt319.1 bt319.2 bt325.1 (bt325.2 != bt319.2) a0_0 a0_1) else (laws_FnExactSwitchTimes.j0 k a1 a2 a3 bt319.1 bt319.2 bt325.1 true a0_0 a0_1)))))))))
theorem laws_FnExactSwitchTimes.mono_l : ∀ k, (∀ y0 y1 y2 y3 y4 y5 y6 y7 y8, LeO (laws_FnExactSwitchTimes.j0 k y0 y1 y2 y3 y4 y5 y6 y7 y8) (laws_FnExactSwitchTimes.j0 (k + 1) y0 y1 y2 y3 y4 y5 y6 y7 y8)) ∧ (∀ y0 y1 y2, LeO (laws_FnExactSwitchTimes.j1 k y0 y1 y2) (laws_FnExactSwitchTimes.j1 (k + 1) y0 y1 y2))
  | 0 => ⟨fun _ _ _ _ _ _ _ _ _ r h => by simp [laws_FnExactSwitchTimes.j0] at h, fun _ _ _ r h => by simp [laws_FnExactSwitchTimes.j1] at h⟩
  | k + 1 => by
    obtain ⟨ih0, ih1⟩ := laws_FnExactSwitchTimes.mono_l k
    refine ⟨?_, ?_⟩
    · intro y0 y1 y2 y3 y4 y5 y6 y7 y8
      unfold laws_FnExactSwitchTimes.j0
      repeat' first
      | (with_reducible exact ih0 _ _ _ _ _ _ _ _ _)
      | (with_reducible exact ih1 _ _ _)
      | (with_reducible exact laws_eqInt64S.mono _ _ _)
      | (with_reducible exact laws_heldInt64S.mono _ _ _)
      | (with_reducible exact laws_markInt64S.mono _ _ _)
      | (with_reducible exact spec_SwitchTimes.mono _ _ _ _ _ _)
      | (with_reducible exact LeO.refl _)
      | (with_reducible exact LeO.none _)
      | (with_reducible refine LeO.ite ?_ ?_)
      | (with_reducible refine LeO.bind ?_ (fun _ => ?_))
      | exact ih0 _ _ _ _ _ _ _ _ _
      | exact ih1 _ _ _
      | exact laws_eqInt64S.mono _ _ _
      | exact laws_heldInt64S.mono _ _ _
      | exact laws_markInt64S.mono _ _ _
      | exact spec_SwitchTimes.mono _ _ _ _ _ _
      | exact LeO.none _
      | refine LeO.ite ?_ ?_
      | refine LeO.bind ?_ (fun _ => ?_)
    · intro y0 y1 y2
      unfold laws_FnExactSwitchTimes.j1
      repeat' first
      | (with_reducible exact ih0 _ _ _ _ _ _ _ _ _)
      | (with_reducible exact ih1 _ _ _)
      | (with_reducible exact laws_eqInt64S.mono _ _ _)
      | (with_reducible exact laws_heldInt64S.mono _ _ _)
      | (with_reducible exact laws_markInt64S.mono _ _ _)
      | (with_reducible exact spec_SwitchTimes.mono _ _ _ _ _ _)
      | (with_reducible exact LeO.refl _)
      | (with_reducible exact LeO.none _)
      | (with_reducible refine LeO.ite ?_ ?_)
      | (with_reducible refine LeO.bind ?_ (fun _ => ?_))
      | exact ih0 _ _ _ _ _ _ _ _ _
      | exact ih1 _ _ _
      | exact laws_eqInt64S.mono _ _ _
      | exact laws_heldInt64S.mono _ _ _
      | exact laws_markInt64S.mono _ _ _
      | exact spec_SwitchTimes.mono _ _ _ _ _ _
      | exact LeO.none _
      | refine LeO.ite ?_ ?_
      | refine LeO.bind ?_ (fun _ => ?_)
theorem laws_FnExactSwitchTimes.mono : ∀ a0 a1 a2 a3 a4 k, LeO (laws_FnExactSwitchTimes.f k a0 a1 a2 a3 a4) (laws_FnExactSwitchTimes.f (k + 1) a0 a1 a2 a3 a4) := by
  intro a0 a1 a2 a3 a4 k
  obtain ⟨ih0, ih1⟩ := laws_FnExactSwitchTimes.mono_l k
  unfold laws_FnExactSwitchTimes.f
  repeat' first
      | (with_reducible exact ih0 _ _ _ _ _ _ _ _ _)
      | (with_reducible exact ih1 _ _ _)
      | (with_reducible exact laws_eqInt64S.mono _ _ _)
      | (with_reducible exact laws_heldInt64S.mono _ _ _)
      | (with_reducible exact laws_markInt64S.mono _ _ _)
      | (with_reducible exact spec_SwitchTimes.mono _ _ _ _ _ _)
      | (with_reducible exact LeO.refl _)
      | (with_reducible exact LeO.none _)
      | (with_reducible refine LeO.ite ?_ ?_)
      | (with_reducible refine LeO.bind ?_ (fun _ => ?_))
      | exact ih0 _ _ _ _ _ _ _ _ _
      | exact ih1 _ _ _
      | exact laws_eqInt64S.mono _ _ _
      | exact laws_heldInt64S.mono _ _ _
      | exact laws_markInt64S.mono _ _ _
      | exact spec_SwitchTimes.mono _ _ _ _ _ _
      | exact LeO.none _
      | refine LeO.ite ?_ ?_
      | refine LeO.bind ?_ (fun _ => ?_)
set_option maxHeartbeats 8000000 in
set_option maxRecDepth 100000 in
theorem laws_FnExactSwitchTimes.calls (k : Nat) (a0_0 : Int) (a0_1 : Int) (a1 : ByteArray) (a2 : ByteArray) (a3 : ByteArray) (r : Bool) (w : World) (h : laws_FnExactSwitchTimes.f k a0_0 a0_1 a1 a2 a3 = some r) :
    Calls Tryd.prog 7 #[.agg #[.int .i64 a0_0, .int .i64 a0_1], .string a1, .string a2, .string a3] w fun e w' => e = .returned (.bool r) ∧ Below w.heap.size w w' := by
  have hu27 := Tryd.underlying27
  have HB := Aside0.mk (Below.refl w.heap.size w)
  have H : (if (a1.size : Int) > 1048576 then (some true) else (if (a2.size : Int) > 1048576 then (some true) else (if (a3.size : Int) > 1048576 then (some true) else ((laws_toSwitch.f a0_0 a0_1).bind fun bt317 => ((spec_SwitchTimes.f k bt317.1 bt317.2 a1 a2 a3).bind fun bt319 => ((laws_toSwitch.f a0_0 a0_1).bind fun bt323 => ((impl_SwitchTimes.f bt323.1 bt323.2 a1 a2 a3).bind fun bt325 => ((laws_eqInt64S.f k bt325.1 bt319.1).bind fun t329 => (if t329 = true then (laws_FnExactSwitchTimes.j0 k a1 a2 a3 bt319.1 bt319.2 bt325.1 (bt325.2 != bt319.2) a0_0 a0_1) else (laws_FnExactSwitchTimes.j0 k a1 a2 a3 bt319.1 bt319.2 bt325.1 true a0_0 a0_1)))))))))) = some r := h
  clear h
  by_cases c5 : (a1.size : Int) > 1048576
  · rw [if_pos c5] at H
    have c5b0 : decide (1048576 < (a1.size : Int)) = true := decide_eq_true c5
    have c5b1 : decide (1048576 < a1.size) = true := decide_eq_true (by omega)
    clear c5
    obtain rfl := Option.some.inj H
    go_enter Tryd.func7, Tryd.ntmps7
    go_wp2_with (first | ((with_reducible refine gate_dst (N := 4) rfl ?_); refine box_event ?hg (N := 4) ?hd (cs := #[.int .i64 a0_0, .int .i64 a0_1]) (t := 27) ?hr ?_; (case hd => rfl); (case hg => rfl); (case hr => first | (go_simp; done) | (go_simp; rfl)); intro gb316 hg w6 hbox hb; have n0_ := Aside0.mk (below_step (by repeat (first | (with_reducible first | exact HB.out | apply below_alloc | apply pw_below_drewN | apply below_drew1) | exact HB.out)) hb); have n1_ := Aside0.mk (hbox); have n2_ := Aside0.mk ((by rw [hg]; exact (below_size (by repeat (first | (with_reducible first | exact HB.out | apply below_alloc | apply pw_below_drewN | apply below_drew1) | exact HB.out))) : w.heap.size ≤ gb316)); have n3_ := Aside0.mk ((by rw [hg]; exact (below_size (by repeat (first | (with_reducible first | exact HB.out | apply below_alloc | apply pw_below_drewN | apply below_drew1) | exact HB.out))) : w.heap.size ≤ gb316)); clear HB; have HB := n0_; have BK316 := n1_; have GW316 := n2_; have GE316 := n3_; clear n0_ n1_ n2_ n3_; clear hb hbox hg))
    go_ret
    exact ⟨by first | rfl | (simp [errW_none, errW_some] <;> rfl) | (simp [*, errW_none, errW_some] <;> rfl), by repeat (first | (with_reducible first | exact HB.out | apply below_alloc | apply pw_below_drewN | apply below_drew1 | refine below_set ?_ GE316.out) | exact HB.out)⟩
  · rw [if_neg c5] at H
    have c5b0 : decide (1048576 < (a1.size : Int)) = false := decide_eq_false c5
    have c5b1 : decide (1048576 < a1.size) = false := decide_eq_false (by omega)
    clear c5
    by_cases c7 : (a2.size : Int) > 1048576
    · rw [if_pos c7] at H
      have c7b0 : decide (1048576 < (a2.size : Int)) = true := decide_eq_true c7
      have c7b1 : decide (1048576 < a2.size) = true := decide_eq_true (by omega)
      clear c7
      obtain rfl := Option.some.inj H
      go_enter Tryd.func7, Tryd.ntmps7
      go_wp2_with (first | ((with_reducible refine gate_dst (N := 4) rfl ?_); refine box_event ?hg (N := 4) ?hd (cs := #[.int .i64 a0_0, .int .i64 a0_1]) (t := 27) ?hr ?_; (case hd => rfl); (case hg => rfl); (case hr => first | (go_simp; done) | (go_simp; rfl)); intro gb316 hg w8 hbox hb; have n0_ := Aside0.mk (below_step (by repeat (first | (with_reducible first | exact HB.out | apply below_alloc | apply pw_below_drewN | apply below_drew1) | exact HB.out)) hb); have n1_ := Aside0.mk (hbox); have n2_ := Aside0.mk ((by rw [hg]; exact (below_size (by repeat (first | (with_reducible first | exact HB.out | apply below_alloc | apply pw_below_drewN | apply below_drew1) | exact HB.out))) : w.heap.size ≤ gb316)); have n3_ := Aside0.mk ((by rw [hg]; exact (below_size (by repeat (first | (with_reducible first | exact HB.out | apply below_alloc | apply pw_below_drewN | apply below_drew1) | exact HB.out))) : w.heap.size ≤ gb316)); clear HB; have HB := n0_; have BK316 := n1_; have GW316 := n2_; have GE316 := n3_; clear n0_ n1_ n2_ n3_; clear hb hbox hg))
      go_ret
      exact ⟨by first | rfl | (simp [errW_none, errW_some] <;> rfl) | (simp [*, errW_none, errW_some] <;> rfl), by repeat (first | (with_reducible first | exact HB.out | apply below_alloc | apply pw_below_drewN | apply below_drew1 | refine below_set ?_ GE316.out) | exact HB.out)⟩
    · rw [if_neg c7] at H
      have c7b0 : decide (1048576 < (a2.size : Int)) = false := decide_eq_false c7
      have c7b1 : decide (1048576 < a2.size) = false := decide_eq_false (by omega)
      clear c7
      by_cases c9 : (a3.size : Int) > 1048576
      · rw [if_pos c9] at H
        have c9b0 : decide (1048576 < (a3.size : Int)) = true := decide_eq_true c9
        have c9b1 : decide (1048576 < a3.size) = true := decide_eq_true (by omega)
        clear c9
        obtain rfl := Option.some.inj H
        go_enter Tryd.func7, Tryd.ntmps7
        go_wp2_with (first | ((with_reducible refine gate_dst (N := 4) rfl ?_); refine box_event ?hg (N := 4) ?hd (cs := #[.int .i64 a0_0, .int .i64 a0_1]) (t := 27) ?hr ?_; (case hd => rfl); (case hg => rfl); (case hr => first | (go_simp; done) | (go_simp; rfl)); intro gb316 hg w10 hbox hb; have n0_ := Aside0.mk (below_step (by repeat (first | (with_reducible first | exact HB.out | apply below_alloc | apply pw_below_drewN | apply below_drew1) | exact HB.out)) hb); have n1_ := Aside0.mk (hbox); have n2_ := Aside0.mk ((by rw [hg]; exact (below_size (by repeat (first | (with_reducible first | exact HB.out | apply below_alloc | apply pw_below_drewN | apply below_drew1) | exact HB.out))) : w.heap.size ≤ gb316)); have n3_ := Aside0.mk ((by rw [hg]; exact (below_size (by repeat (first | (with_reducible first | exact HB.out | apply below_alloc | apply pw_below_drewN | apply below_drew1) | exact HB.out))) : w.heap.size ≤ gb316)); clear HB; have HB := n0_; have BK316 := n1_; have GW316 := n2_; have GE316 := n3_; clear n0_ n1_ n2_ n3_; clear hb hbox hg))
        go_ret
        exact ⟨by first | rfl | (simp [errW_none, errW_some] <;> rfl) | (simp [*, errW_none, errW_some] <;> rfl), by repeat (first | (with_reducible first | exact HB.out | apply below_alloc | apply pw_below_drewN | apply below_drew1 | refine below_set ?_ GE316.out) | exact HB.out)⟩
      · rw [if_neg c9] at H
        have c9b0 : decide (1048576 < (a3.size : Int)) = false := decide_eq_false c9
        have c9b1 : decide (1048576 < a3.size) = false := decide_eq_false (by omega)
        clear c9
        replace H := Option.bind_eq_some_iff.mp H
        obtain ⟨⟨t317, t318⟩, A110, H⟩ := H
        replace H : ((spec_SwitchTimes.f k t317 t318 a1 a2 a3).bind fun bt319 => ((laws_toSwitch.f a0_0 a0_1).bind fun bt323 => ((impl_SwitchTimes.f bt323.1 bt323.2 a1 a2 a3).bind fun bt325 => ((laws_eqInt64S.f k bt325.1 bt319.1).bind fun t329 => (if t329 = true then (laws_FnExactSwitchTimes.j0 k a1 a2 a3 bt319.1 bt319.2 bt325.1 (bt325.2 != bt319.2) a0_0 a0_1) else (laws_FnExactSwitchTimes.j0 k a1 a2 a3 bt319.1 bt319.2 bt325.1 true a0_0 a0_1)))))) = some r := H
        have A11 := Aside0.mk A110
        clear A110
        replace H := Option.bind_eq_some_iff.mp H
        obtain ⟨⟨t319, t322⟩, A120, H⟩ := H
        replace H : ((laws_toSwitch.f a0_0 a0_1).bind fun bt323 => ((impl_SwitchTimes.f bt323.1 bt323.2 a1 a2 a3).bind fun bt325 => ((laws_eqInt64S.f k bt325.1 t319).bind fun t329 => (if t329 = true then (laws_FnExactSwitchTimes.j0 k a1 a2 a3 t319 t322 bt325.1 (bt325.2 != t322) a0_0 a0_1) else (laws_FnExactSwitchTimes.j0 k a1 a2 a3 t319 t322 bt325.1 true a0_0 a0_1))))) = some r := H
        have A12 := Aside0.mk A120
        clear A120
        replace H := Option.bind_eq_some_iff.mp H
        obtain ⟨⟨t323, t324⟩, A130, H⟩ := H
        replace H : ((impl_SwitchTimes.f t323 t324 a1 a2 a3).bind fun bt325 => ((laws_eqInt64S.f k bt325.1 t319).bind fun t329 => (if t329 = true then (laws_FnExactSwitchTimes.j0 k a1 a2 a3 t319 t322 bt325.1 (bt325.2 != t322) a0_0 a0_1) else (laws_FnExactSwitchTimes.j0 k a1 a2 a3 t319 t322 bt325.1 true a0_0 a0_1)))) = some r := H
        have A13 := Aside0.mk A130
        clear A130
        replace H := Option.bind_eq_some_iff.mp H
        obtain ⟨⟨t325, t328⟩, A140, H⟩ := H
        replace H : ((laws_eqInt64S.f k t325 t319).bind fun t329 => (if t329 = true then (laws_FnExactSwitchTimes.j0 k a1 a2 a3 t319 t322 t325 (t328 != t322) a0_0 a0_1) else (laws_FnExactSwitchTimes.j0 k a1 a2 a3 t319 t322 t325 true a0_0 a0_1))) = some r := H
        have A14 := Aside0.mk A140
        clear A140
        have HC15 := Aside0.mk H
        clear H
        go_enter Tryd.func7, Tryd.ntmps7
        go_upto_region 9 with (first | ((with_reducible refine gate_dst (N := 4) rfl ?_); refine box_event ?hg (N := 4) ?hd (cs := #[.int .i64 a0_0, .int .i64 a0_1]) (t := 27) ?hr ?_; (case hd => rfl); (case hg => rfl); (case hr => first | (go_simp; done) | (go_simp; rfl)); intro gb316 hg w16 hbox hb; have n0_ := Aside0.mk (below_step (by repeat (first | (with_reducible first | exact HB.out | apply below_alloc | apply pw_below_drewN | apply below_drew1) | exact HB.out)) hb); have n1_ := Aside0.mk (hbox); have n2_ := Aside0.mk ((by rw [hg]; exact (below_size (by repeat (first | (with_reducible first | exact HB.out | apply below_alloc | apply pw_below_drewN | apply below_drew1) | exact HB.out))) : w.heap.size ≤ gb316)); have n3_ := Aside0.mk ((by rw [hg]; exact (below_size (by repeat (first | (with_reducible first | exact HB.out | apply below_alloc | apply pw_below_drewN | apply below_drew1) | exact HB.out))) : w.heap.size ≤ gb316)); clear HB; have HB := n0_; have BK316 := n1_; have GW316 := n2_; have GE316 := n3_; clear n0_ n1_ n2_ n3_; clear hb hbox hg; have hcz17_0 : w16.cell? ⟨gb316, 0, none⟩ = some (.int .i64 a0_0) := (blk_cell BK316.out 0).trans rfl; have hcz17_1 : w16.cell? ⟨gb316, 1, none⟩ = some (.int .i64 a0_1) := (blk_cell BK316.out 1).trans rfl; have hfz17_0 := blk_frozen BK316.out 0; have hfz17_1 := blk_frozen BK316.out 1) | ((with_reducible refine gate_callee (f := 16) rfl ?_); refine goesL_ (some 28) rfl rfl Tryd.func16 (by kernel_rfl) rfl #[.agg #[.int .i64 a0_0, .int .i64 a0_1]] rfl (by (try simp only [List.map_toArray, List.map_cons, List.map_nil]); first | done | rfl | (simp only [List.length_drop, List.length_take]; rfl)) ?_; (with_reducible refine (laws_toSwitch.calls a0_0 a0_1 t317 t318 _ A11.out).mono ?_); rintro e w18 ⟨rfl, hb⟩; refine ⟨_, rfl, ?_⟩; have n0_ := Aside0.mk (blk_below (g := gb316) (o := .cells #[.int .i64 a0_0, .int .i64 a0_1] 27 (0, 0)) (by (with_reducible repeat (first | refine blk_drewN ?_ _ | refine blk_drew ?_ | refine blk_alloc ?_ _)); exact BK316.out) hb); have n1_ := Aside0.mk (below_step (by repeat (first | (with_reducible first | exact HB.out | apply below_alloc | apply pw_below_drewN | apply below_drew1 | refine below_set ?_ GE316.out) | exact HB.out)) hb); clear BK316; clear HB; have BK316 := n0_; have HB := n1_; clear n0_ n1_; (try clear hb); (try clear hb2); (try clear hk); (try clear hi)) | ((with_reducible refine gate_callee (f := 20) rfl ?_); refine goesL_ (some 32) rfl rfl Tryd.func20 (by kernel_rfl) rfl #[.agg #[.int .i64 t317, .int .i64 t318], .string a1, .string a2, .string a3] rfl (by (try simp only [List.map_toArray, List.map_cons, List.map_nil]); first | done | rfl | (simp only [List.length_drop, List.length_take]; rfl)) ?_; (with_reducible refine (spec_SwitchTimes.calls k t317 t318 a1 a2 a3 t319 t322 _ A12.out).mono ?_); rintro e w19 ⟨v320, rfl, ho0, hb⟩; refine ⟨_, rfl, ?_⟩; have n0_ := Aside0.mk (Kd.R_lower ho0 (below_size (by repeat (first | (with_reducible first | exact HB.out | apply below_alloc | apply pw_below_drewN | apply below_drew1 | refine below_set ?_ GE316.out) | exact HB.out)))); have n1_ := Aside0.mk (blk_below (g := gb316) (o := .cells #[.int .i64 a0_0, .int .i64 a0_1] 27 (0, 0)) (by (with_reducible repeat (first | refine blk_drewN ?_ _ | refine blk_drew ?_ | refine blk_alloc ?_ _)); exact BK316.out) hb); have n2_ := Aside0.mk (below_step (by repeat (first | (with_reducible first | exact HB.out | apply below_alloc | apply pw_below_drewN | apply below_drew1 | refine below_set ?_ GE316.out) | exact HB.out)) hb); clear BK316; clear HB; have HO321 := n0_; have BK316 := n1_; have HB := n2_; clear n0_ n1_ n2_; (try clear hb); (try clear hb2); (try clear hk); (try clear hi); (try clear ho0); have hcz20_0 : w19.cell? ⟨gb316, 0, none⟩ = some (.int .i64 a0_0) := (blk_cell BK316.out 0).trans rfl; have hcz20_1 : w19.cell? ⟨gb316, 1, none⟩ = some (.int .i64 a0_1) := (blk_cell BK316.out 1).trans rfl; have hfz20_0 := blk_frozen BK316.out 0; have hfz20_1 := blk_frozen BK316.out 1) | ((with_reducible refine gate_callee (f := 16) rfl ?_); refine goesL_ (some 37) rfl rfl Tryd.func16 (by kernel_rfl) rfl #[.agg #[.int .i64 a0_0, .int .i64 a0_1]] rfl (by (try simp only [List.map_toArray, List.map_cons, List.map_nil]); first | done | rfl | (simp only [List.length_drop, List.length_take]; rfl)) ?_; (with_reducible refine (laws_toSwitch.calls a0_0 a0_1 t323 t324 _ A13.out).mono ?_); rintro e w21 ⟨rfl, hb⟩; refine ⟨_, rfl, ?_⟩; have n0_ := Aside0.mk (Kd.R_below (by (with_reducible repeat (first | apply Kd.R_alloc | apply Kd.R_drewN | apply Kd.R_drew)); exact HO321.out) hb); have n1_ := Aside0.mk (blk_below (g := gb316) (o := .cells #[.int .i64 a0_0, .int .i64 a0_1] 27 (0, 0)) (by (with_reducible repeat (first | refine blk_drewN ?_ _ | refine blk_drew ?_ | refine blk_alloc ?_ _)); exact BK316.out) hb); have n2_ := Aside0.mk (below_step (by repeat (first | (with_reducible first | exact HB.out | apply below_alloc | apply pw_below_drewN | apply below_drew1 | refine below_set ?_ GE316.out) | exact HB.out)) hb); clear HO321; clear BK316; clear HB; have HO321 := n0_; have BK316 := n1_; have HB := n2_; clear n0_ n1_ n2_; (try clear hb); (try clear hb2); (try clear hk); (try clear hi)) | ((with_reducible refine gate_callee (f := 21) rfl ?_); refine goesL_ (some 41) rfl rfl Tryd.func21 (by kernel_rfl) rfl #[.agg #[.int .i64 t323, .int .i64 t324], .string a1, .string a2, .string a3] rfl (by (try simp only [List.map_toArray, List.map_cons, List.map_nil]); first | done | rfl | (simp only [List.length_drop, List.length_take]; rfl)) ?_; (with_reducible refine (impl_SwitchTimes.calls t323 t324 a1 a2 a3 t325 t328 _ A14.out).mono ?_); rintro e w22 ⟨v326, rfl, ho0, hb⟩; refine ⟨_, rfl, ?_⟩; have n0_ := Aside0.mk (Kd.R_elder' (by (with_reducible repeat (first | apply Kd.R_alloc | apply Kd.R_drewN | apply Kd.R_drew)); exact HO321.out) (Kd.R_base ho0) hb); have n1_ := Aside0.mk (Kd.R_lower (Kd.R_new' ho0 (Kd.R_lt (by (with_reducible repeat (first | apply Kd.R_alloc | apply Kd.R_drewN | apply Kd.R_drew)); exact HO321.out))) (below_size (by repeat (first | (with_reducible first | exact HB.out | apply below_alloc | apply pw_below_drewN | apply below_drew1 | refine below_set ?_ GE316.out) | exact HB.out)))); have n2_ := Aside0.mk (blk_below (g := gb316) (o := .cells #[.int .i64 a0_0, .int .i64 a0_1] 27 (0, 0)) (by (with_reducible repeat (first | refine blk_drewN ?_ _ | refine blk_drew ?_ | refine blk_alloc ?_ _)); exact BK316.out) hb); have n3_ := Aside0.mk (below_step (by repeat (first | (with_reducible first | exact HB.out | apply below_alloc | apply pw_below_drewN | apply below_drew1 | refine below_set ?_ GE316.out) | exact HB.out)) hb); clear HO321; clear BK316; clear HB; have HO321 := n0_; have HO327 := n1_; have BK316 := n2_; have HB := n3_; clear n0_ n1_ n2_ n3_; (try clear hb); (try clear hb2); (try clear hk); (try clear hi); (try clear ho0)))
        (try simp only [Act.put, List.setIfInBounds_toArray, List.set_cons_zero, List.set_cons_succ])
        go_cut [52] (fun v52 wc => ∃ (kq : Nat) (x52_14 : Bool), v52 = .bool x52_14 ∧ Aside0 (laws_FnExactSwitchTimes.j0 kq a1 a2 a3 t319 t322 t325 x52_14 a0_0 a0_1 = some r) ∧ Aside0 (kq ≤ k) ∧ Aside0 (Kd.R (Kd.int .i64) 2 wc w.heap.size (fun k_ => some k_ ≠ (v326 : Value).ownBlock) v320 t319) ∧ Aside0 (Kd.R (Kd.int .i64) 2 wc w.heap.size (fun k_ => some k_ ≠ (v320 : Value).ownBlock) v326 t325) ∧ Aside0 (wc.heap[gb316]? = some (.cells #[.int .i64 a0_0, .int .i64 a0_1] 27 (0, 0))) ∧ Aside0 (Below w.heap.size w wc))
        case first =>
          have H := HC15.out
          clear HC15
          replace H := Option.bind_eq_some_iff.mp H
          obtain ⟨t329, A230, H⟩ := H
          replace H : (if t329 = true then (laws_FnExactSwitchTimes.j0 k a1 a2 a3 t319 t322 t325 (t328 != t322) a0_0 a0_1) else (laws_FnExactSwitchTimes.j0 k a1 a2 a3 t319 t322 t325 true a0_0 a0_1)) = some r := H
          have A23 := Aside0.mk A230
          clear A230
          by_cases c24 : t329 = true
          · subst c24
            have H1 : (laws_FnExactSwitchTimes.j0 k a1 a2 a3 t319 t322 t325 (t328 != t322) a0_0 a0_1) = some r := by rw [if_pos rfl] at H; exact H
            clear H
            have H := H1
            clear H1
            have H' := Aside0.mk H
            clear H
            obtain ⟨Ao25, co25, eo25⟩ := Kd.R_slice HO327.out
            subst eo25
            obtain ⟨Ao26, co26, eo26⟩ := Kd.R_slice HO321.out
            subst eo26
            go_wp2_with (first | ((with_reducible refine gate_callee (f := 22) rfl ?_); refine goesL_ (some 46) rfl rfl Tryd.func22 (by kernel_rfl) rfl #[.slice Ao25 t325.length co25, .slice Ao26 t319.length co26] rfl (by (try simp only [List.map_toArray, List.map_cons, List.map_nil]); first | done | rfl | (simp only [List.length_drop, List.length_take]; rfl)) ?_; (with_reducible refine (laws_eqInt64S.calls k _ _ t325 _ _ t319 true _ ?side1 ?side2 ?side3 ?side4 A23.out).mono ?_); (case side1 => repeat (first | exact (Kd.R_reads' HO327.out).2.2 | (with_reducible refine Kd.C_alloc ?_ _) | (with_reducible refine Kd.C_drewN ?_ _) | (with_reducible refine Kd.C_drew ?_))); (case side2 => first | exact trivial | (exact (Kd.R_reads' HO327.out).2.1)); (case side3 => repeat (first | exact (Kd.R_reads' HO321.out).2.2 | (with_reducible refine Kd.C_alloc ?_ _) | (with_reducible refine Kd.C_drewN ?_ _) | (with_reducible refine Kd.C_drew ?_))); (case side4 => first | exact trivial | (exact (Kd.R_reads' HO321.out).2.1)); rintro e w' ⟨rfl, ⟨nd, rfl⟩⟩; refine ⟨_, rfl, ?_⟩))
            go_meet
            case rel => exact ⟨_, ((t328 != t322)), (by first | rfl | (simp; done) | (simp [*]; done)), H', ⟨by first | omega | exact Nat.le_refl _⟩, ⟨by (with_reducible repeat (first | apply Kd.R_alloc | apply Kd.R_drewN | apply Kd.R_drew)); exact Kd.R_mono HO321.out (fun _ hk => hk.2)⟩, ⟨by (with_reducible repeat (first | apply Kd.R_alloc | apply Kd.R_drewN | apply Kd.R_drew)); exact Kd.R_mono HO327.out (fun _ hk => hk.2)⟩, ⟨by (with_reducible repeat (first | refine blk_drewN ?_ _ | refine blk_drew ?_ | refine blk_alloc ?_ _)); exact BK316.out⟩, ⟨by repeat (first | (with_reducible first | exact HB.out | apply below_alloc | apply pw_below_drewN | apply below_drew1 | refine below_set ?_ GE316.out) | exact HB.out)⟩⟩
          · replace c24 := Bool.eq_false_iff.mpr c24
            subst c24
            have H1 : (laws_FnExactSwitchTimes.j0 k a1 a2 a3 t319 t322 t325 true a0_0 a0_1) = some r := by rw [if_neg (show ¬ (false = true) by decide)] at H; exact H
            clear H
            have H := H1
            clear H1
            have H' := Aside0.mk H
            clear H
            obtain ⟨Ao27, co27, eo27⟩ := Kd.R_slice HO327.out
            subst eo27
            obtain ⟨Ao28, co28, eo28⟩ := Kd.R_slice HO321.out
            subst eo28
            go_wp2_with (first | ((with_reducible refine gate_callee (f := 22) rfl ?_); refine goesL_ (some 46) rfl rfl Tryd.func22 (by kernel_rfl) rfl #[.slice Ao27 t325.length co27, .slice Ao28 t319.length co28] rfl (by (try simp only [List.map_toArray, List.map_cons, List.map_nil]); first | done | rfl | (simp only [List.length_drop, List.length_take]; rfl)) ?_; (with_reducible refine (laws_eqInt64S.calls k _ _ t325 _ _ t319 false _ ?side1 ?side2 ?side3 ?side4 A23.out).mono ?_); (case side1 => repeat (first | exact (Kd.R_reads' HO327.out).2.2 | (with_reducible refine Kd.C_alloc ?_ _) | (with_reducible refine Kd.C_drewN ?_ _) | (with_reducible refine Kd.C_drew ?_))); (case side2 => first | exact trivial | (exact (Kd.R_reads' HO327.out).2.1)); (case side3 => repeat (first | exact (Kd.R_reads' HO321.out).2.2 | (with_reducible refine Kd.C_alloc ?_ _) | (with_reducible refine Kd.C_drewN ?_ _) | (with_reducible refine Kd.C_drew ?_))); (case side4 => first | exact trivial | (exact (Kd.R_reads' HO321.out).2.1)); rintro e w' ⟨rfl, ⟨nd, rfl⟩⟩; refine ⟨_, rfl, ?_⟩))
            go_meet
            case rel => exact ⟨_, (true), (by first | rfl | (simp; done) | (simp [*]; done)), H', ⟨by first | omega | exact Nat.le_refl _⟩, ⟨by (with_reducible repeat (first | apply Kd.R_alloc | apply Kd.R_drewN | apply Kd.R_drew)); exact Kd.R_mono HO321.out (fun _ hk => hk.2)⟩, ⟨by (with_reducible repeat (first | apply Kd.R_alloc | apply Kd.R_drewN | apply Kd.R_drew)); exact Kd.R_mono HO327.out (fun _ hk => hk.2)⟩, ⟨by (with_reducible repeat (first | refine blk_drewN ?_ _ | refine blk_drew ?_ | refine blk_alloc ?_ _)); exact BK316.out⟩, ⟨by repeat (first | (with_reducible first | exact HB.out | apply below_alloc | apply pw_below_drewN | apply below_drew1 | refine below_set ?_ GE316.out) | exact HB.out)⟩⟩
        case rest =>
          clear HC15
          try clear c1
          try clear c2
          try clear p2
          try clear c5
          try clear c5b0
          try clear c5b1
          try clear c7
          try clear c7b0
          try clear c7b1
          try clear c9
          try clear c9b0
          try clear c9b1
          try clear c16
          try clear c20
          try clear c21
          try clear c22
          try clear c24
          try clear hcz17_0
          try clear hcz17_1
          try clear hcz20_0
          try clear hcz20_1
          try clear hfz17_0
          try clear hfz17_1
          try clear hfz20_0
          try clear hfz20_1
          obtain ⟨kq, x52_14, rfl, HA, HJ14, HO_9, HO_11, BK316, HB⟩ := hcut
          cases kq with
          | zero => exact absurd HA.out (by simp [laws_FnExactSwitchTimes.j0])
          | succ kj14 =>
            have H := HA.out
            clear HA
            simp only [laws_FnExactSwitchTimes.j0] at H
            by_cases c29 : x52_14 = true
            · subst c29
              have H1 : (some false) = some r := by rw [if_pos rfl] at H; exact H
              clear H
              have H := H1
              clear H1
              obtain rfl := Option.some.inj H
              go_wp2
              go_ret
              exact ⟨by first | rfl | (simp [errW_none, errW_some] <;> rfl) | (simp [*, errW_none, errW_some] <;> rfl), by repeat (first | (with_reducible first | exact HB.out | apply below_alloc | apply pw_below_drewN | apply below_drew1 | refine below_set ?_ GE316.out) | exact HB.out)⟩
            · replace c29 := Bool.eq_false_iff.mpr c29
              subst c29
              have H1 : ((laws_markInt64S.f kj14 t325 1).bind fun bt330 => ((laws_heldInt64S.f kj14 bt330.2 1).bind fun t332 => (if t332 < 0 then (some false) else (if t332 = bt330.1 then ((laws_toSwitch.f a0_0 a0_1).bind fun bt333 => ((impl_SwitchTimes.f bt333.1 bt333.2 a1 a2 a3).bind fun bt335 => ((laws_eqInt64S.f kj14 bt335.1 t319).bind fun t339 => (if t339 = true then (laws_FnExactSwitchTimes.j1 kj14 bt330.2 bt330.1 (bt335.2 != t322)) else (laws_FnExactSwitchTimes.j1 kj14 bt330.2 bt330.1 true))))) else (some false))))) = some r := by rw [if_neg (show ¬ (false = true) by decide)] at H; exact H
              clear H
              have H := H1
              clear H1
              replace H := Option.bind_eq_some_iff.mp H
              obtain ⟨⟨t330, t331⟩, A300, H⟩ := H
              replace H : ((laws_heldInt64S.f kj14 t331 1).bind fun t332 => (if t332 < 0 then (some false) else (if t332 = t330 then ((laws_toSwitch.f a0_0 a0_1).bind fun bt333 => ((impl_SwitchTimes.f bt333.1 bt333.2 a1 a2 a3).bind fun bt335 => ((laws_eqInt64S.f kj14 bt335.1 t319).bind fun t339 => (if t339 = true then (laws_FnExactSwitchTimes.j1 kj14 t331 t330 (bt335.2 != t322)) else (laws_FnExactSwitchTimes.j1 kj14 t331 t330 true))))) else (some false)))) = some r := H
              have A30 := Aside0.mk A300
              clear A300
              replace H := Option.bind_eq_some_iff.mp H
              obtain ⟨t332, A310, H⟩ := H
              replace H : (if t332 < 0 then (some false) else (if t332 = t330 then ((laws_toSwitch.f a0_0 a0_1).bind fun bt333 => ((impl_SwitchTimes.f bt333.1 bt333.2 a1 a2 a3).bind fun bt335 => ((laws_eqInt64S.f kj14 bt335.1 t319).bind fun t339 => (if t339 = true then (laws_FnExactSwitchTimes.j1 kj14 t331 t330 (bt335.2 != t322)) else (laws_FnExactSwitchTimes.j1 kj14 t331 t330 true))))) else (some false))) = some r := H
              have A31 := Aside0.mk A310
              clear A310
              by_cases c32 : t332 < 0
              · rw [if_pos c32] at H
                have c32b0 : decide (t332 < 0) = true := decide_eq_true c32
                clear c32
                obtain rfl := Option.some.inj H
                obtain ⟨Ao33, co33, eo33⟩ := Kd.R_slice HO_11.out
                subst eo33
                go_wp2_with (first | ((with_reducible refine gate_callee (f := 23) rfl ?_); refine goesL_ (some 55) rfl rfl Tryd.func23 (by kernel_rfl) rfl #[.slice Ao33 t325.length co33, .int .i64 1] rfl (by (try simp only [List.map_toArray, List.map_cons, List.map_nil]); first | done | rfl | (simp only [List.length_drop, List.length_take]; rfl)) ?_; (with_reducible refine (laws_markInt64S.calls kj14 (fun k_ => some k_ = (.slice Ao33 t325.length co33 : Value).ownBlock) (.slice Ao33 t325.length co33) t325 1 t330 t331 w _ ?side1 ?side2 A30.out).mono ?_); (case side1 => repeat (first | (with_reducible first | exact HB.out | apply below_alloc | apply pw_below_drewN | apply below_drew1 | refine below_set ?_ GE316.out) | exact HB.out)); (case side2 => exact Kd.R_tight rfl HO_11.out); rintro e w34 ⟨rfl, hy0, hb, hkp⟩; refine ⟨_, rfl, ?_⟩; have n0_ := Aside0.mk (Kd.R_mono (ok' := fun k_ => some k_ ≠ (.slice Ao33 t325.length co33 : Value).ownBlock) (Kd.R_keptB (HO_9.out) hkp (fun k_ hk_ hs_ => (hk_) hs_)) (fun k_ hk_ => hk_.1)); have n1_ := Aside0.mk (Kd.R_reok rfl hy0 (fun k_ e_ => HO_11.out.1 k_ e_)); have n2_ := Aside0.mk (blk_kept (by (with_reducible repeat (first | refine blk_drewN ?_ _ | refine blk_drew ?_ | refine blk_alloc ?_ _)); exact BK316.out) hkp (fun hs_ => (fun e_ => (Kd.R_ne HO_11.out BK316.out (by decide)) e_) hs_)); have n3_ := Aside0.mk (hb); clear HO_9; clear HO_11; clear BK316; clear HB; have HO_9 := n0_; have HO_11 := n1_; have BK316 := n2_; have HB := n3_; clear n0_ n1_ n2_ n3_; (try clear hb); (try clear hkp); (try clear hy0)) | ((with_reducible refine gate_callee (f := 24) rfl ?_); refine goesL_ (some 58) rfl rfl Tryd.func24 (by kernel_rfl) rfl #[.slice Ao33 t331.length co33, .int .i64 1] rfl (by (try simp only [List.map_toArray, List.map_cons, List.map_nil]); first | done | (rw [show t331.length = t325.length from (Kd.R_reads' HO_11.out).1.symm] <;> rfl) | rfl | (simp only [List.length_drop, List.length_take]; rfl)) ?_; (with_reducible refine (laws_heldInt64S.calls kj14 _ _ t331 1 t332 _ ?side1 ?side2 A31.out).mono ?_); (case side1 => repeat (first | exact (Kd.R_reads' HO_11.out).2.2 | (with_reducible refine Kd.C_alloc ?_ _) | (with_reducible refine Kd.C_drewN ?_ _) | (with_reducible refine Kd.C_drew ?_))); (case side2 => rw [show t331.length = t325.length from (Kd.R_reads' HO_11.out).1.symm]; first | exact trivial | (exact (Kd.R_reads' HO_11.out).2.1)); rintro e w' ⟨rfl, ⟨nd, rfl⟩⟩; refine ⟨_, rfl, ?_⟩))
                go_ret
                exact ⟨by first | rfl | (simp [errW_none, errW_some] <;> rfl) | (simp [*, errW_none, errW_some] <;> rfl), by repeat (first | (with_reducible first | exact HB.out | apply below_alloc | apply pw_below_drewN | apply below_drew1 | refine below_set ?_ GE316.out) | exact HB.out)⟩
              · rw [if_neg c32] at H
                have c32b0 : decide (t332 < 0) = false := decide_eq_false c32
                clear c32
                by_cases c35 : t332 = t330
                · rw [if_pos c35] at H
                  have c35b0 : (t332 == t330) = true := beq_iff_eq.mpr c35
                  have c35b1 : (t332 != t330) = false := bne_eq_false_iff_eq.mpr c35
                  clear c35
                  replace H := Option.bind_eq_some_iff.mp H
                  obtain ⟨⟨t333, t334⟩, A360, H⟩ := H
                  replace H : ((impl_SwitchTimes.f t333 t334 a1 a2 a3).bind fun bt335 => ((laws_eqInt64S.f kj14 bt335.1 t319).bind fun t339 => (if t339 = true then (laws_FnExactSwitchTimes.j1 kj14 t331 t330 (bt335.2 != t322)) else (laws_FnExactSwitchTimes.j1 kj14 t331 t330 true)))) = some r := H
                  have A36 := Aside0.mk A360
                  clear A360
                  replace H := Option.bind_eq_some_iff.mp H
                  obtain ⟨⟨t335, t338⟩, A370, H⟩ := H
                  replace H : ((laws_eqInt64S.f kj14 t335 t319).bind fun t339 => (if t339 = true then (laws_FnExactSwitchTimes.j1 kj14 t331 t330 (t338 != t322)) else (laws_FnExactSwitchTimes.j1 kj14 t331 t330 true))) = some r := H
                  have A37 := Aside0.mk A370
                  clear A370
                  have HC38 := Aside0.mk H
                  clear H
                  obtain ⟨Ao39, co39, eo39⟩ := Kd.R_slice HO_11.out
                  subst eo39
                  go_upto_region 20 with (first | ((with_reducible refine gate_callee (f := 23) rfl ?_); refine goesL_ (some 55) rfl rfl Tryd.func23 (by kernel_rfl) rfl #[.slice Ao39 t325.length co39, .int .i64 1] rfl (by (try simp only [List.map_toArray, List.map_cons, List.map_nil]); first | done | rfl | (simp only [List.length_drop, List.length_take]; rfl)) ?_; (with_reducible refine (laws_markInt64S.calls kj14 (fun k_ => some k_ = (.slice Ao39 t325.length co39 : Value).ownBlock) (.slice Ao39 t325.length co39) t325 1 t330 t331 w _ ?side1 ?side2 A30.out).mono ?_); (case side1 => repeat (first | (with_reducible first | exact HB.out | apply below_alloc | apply pw_below_drewN | apply below_drew1 | refine below_set ?_ GE316.out) | exact HB.out)); (case side2 => exact Kd.R_tight rfl HO_11.out); rintro e w40 ⟨rfl, hy0, hb, hkp⟩; refine ⟨_, rfl, ?_⟩; have n0_ := Aside0.mk (Kd.R_mono (ok' := fun k_ => some k_ ≠ (.slice Ao39 t325.length co39 : Value).ownBlock) (Kd.R_keptB (HO_9.out) hkp (fun k_ hk_ hs_ => (hk_) hs_)) (fun k_ hk_ => hk_.1)); have n1_ := Aside0.mk (Kd.R_reok rfl hy0 (fun k_ e_ => HO_11.out.1 k_ e_)); have n2_ := Aside0.mk (blk_kept (by (with_reducible repeat (first | refine blk_drewN ?_ _ | refine blk_drew ?_ | refine blk_alloc ?_ _)); exact BK316.out) hkp (fun hs_ => (fun e_ => (Kd.R_ne HO_11.out BK316.out (by decide)) e_) hs_)); have n3_ := Aside0.mk (hb); clear HO_9; clear HO_11; clear BK316; clear HB; have HO_9 := n0_; have HO_11 := n1_; have BK316 := n2_; have HB := n3_; clear n0_ n1_ n2_ n3_; (try clear hb); (try clear hkp); (try clear hy0)) | ((with_reducible refine gate_callee (f := 24) rfl ?_); refine goesL_ (some 58) rfl rfl Tryd.func24 (by kernel_rfl) rfl #[.slice Ao39 t331.length co39, .int .i64 1] rfl (by (try simp only [List.map_toArray, List.map_cons, List.map_nil]); first | done | (rw [show t331.length = t325.length from (Kd.R_reads' HO_11.out).1.symm] <;> rfl) | rfl | (simp only [List.length_drop, List.length_take]; rfl)) ?_; (with_reducible refine (laws_heldInt64S.calls kj14 _ _ t331 1 t332 _ ?side1 ?side2 A31.out).mono ?_); (case side1 => repeat (first | exact (Kd.R_reads' HO_11.out).2.2 | (with_reducible refine Kd.C_alloc ?_ _) | (with_reducible refine Kd.C_drewN ?_ _) | (with_reducible refine Kd.C_drew ?_))); (case side2 => rw [show t331.length = t325.length from (Kd.R_reads' HO_11.out).1.symm]; first | exact trivial | (exact (Kd.R_reads' HO_11.out).2.1)); rintro e w' ⟨rfl, ⟨nd, rfl⟩⟩; refine ⟨_, rfl, ?_⟩; have hcz41_0 : w40.cell? ⟨gb316, 0, none⟩ = some (.int .i64 a0_0) := (blk_cell BK316.out 0).trans rfl; have hcz41_1 : w40.cell? ⟨gb316, 1, none⟩ = some (.int .i64 a0_1) := (blk_cell BK316.out 1).trans rfl; have hfz41_0 := blk_frozen BK316.out 0; have hfz41_1 := blk_frozen BK316.out 1) | ((with_reducible refine gate_callee (f := 16) rfl ?_); refine goesL_ (some 66) rfl rfl Tryd.func16 (by kernel_rfl) rfl #[.agg #[.int .i64 a0_0, .int .i64 a0_1]] rfl (by (try simp only [List.map_toArray, List.map_cons, List.map_nil]); first | done | rfl | (simp only [List.length_drop, List.length_take]; rfl)) ?_; (with_reducible refine (laws_toSwitch.calls a0_0 a0_1 t333 t334 _ A36.out).mono ?_); rintro e w42 ⟨rfl, hb⟩; refine ⟨_, rfl, ?_⟩; have n0_ := Aside0.mk (Kd.R_below (by (with_reducible repeat (first | apply Kd.R_alloc | apply Kd.R_drewN | apply Kd.R_drew)); exact HO_9.out) hb); have n1_ := Aside0.mk (Kd.R_below (by (with_reducible repeat (first | apply Kd.R_alloc | apply Kd.R_drewN | apply Kd.R_drew)); exact HO_11.out) hb); have n2_ := Aside0.mk (blk_below (g := gb316) (o := .cells #[.int .i64 a0_0, .int .i64 a0_1] 27 (0, 0)) (by (with_reducible repeat (first | refine blk_drewN ?_ _ | refine blk_drew ?_ | refine blk_alloc ?_ _)); exact BK316.out) hb); have n3_ := Aside0.mk (below_step (by repeat (first | (with_reducible first | exact HB.out | apply below_alloc | apply pw_below_drewN | apply below_drew1 | refine below_set ?_ GE316.out) | exact HB.out)) hb); clear HO_9; clear HO_11; clear BK316; clear HB; have HO_9 := n0_; have HO_11 := n1_; have BK316 := n2_; have HB := n3_; clear n0_ n1_ n2_ n3_; (try clear hb); (try clear hb2); (try clear hk); (try clear hi)) | ((with_reducible refine gate_callee (f := 21) rfl ?_); refine goesL_ (some 70) rfl rfl Tryd.func21 (by kernel_rfl) rfl #[.agg #[.int .i64 t333, .int .i64 t334], .string a1, .string a2, .string a3] rfl (by (try simp only [List.map_toArray, List.map_cons, List.map_nil]); first | done | rfl | (simp only [List.length_drop, List.length_take]; rfl)) ?_; (with_reducible refine (impl_SwitchTimes.calls t333 t334 a1 a2 a3 t335 t338 _ A37.out).mono ?_); rintro e w43 ⟨v336, rfl, ho0, hb⟩; refine ⟨_, rfl, ?_⟩; have n0_ := Aside0.mk (Kd.R_elder' (by (with_reducible repeat (first | apply Kd.R_alloc | apply Kd.R_drewN | apply Kd.R_drew)); exact HO_9.out) (Kd.R_base ho0) hb); have n1_ := Aside0.mk (Kd.R_elder' (by (with_reducible repeat (first | apply Kd.R_alloc | apply Kd.R_drewN | apply Kd.R_drew)); exact HO_11.out) (Kd.R_base ho0) hb); have n2_ := Aside0.mk (Kd.R_lower (Kd.R_new' (Kd.R_new' ho0 (Kd.R_lt (by (with_reducible repeat (first | apply Kd.R_alloc | apply Kd.R_drewN | apply Kd.R_drew)); exact HO_9.out))) (Kd.R_lt (by (with_reducible repeat (first | apply Kd.R_alloc | apply Kd.R_drewN | apply Kd.R_drew)); exact HO_11.out))) (below_size (by repeat (first | (with_reducible first | exact HB.out | apply below_alloc | apply pw_below_drewN | apply below_drew1 | refine below_set ?_ GE316.out) | exact HB.out)))); have n3_ := Aside0.mk (blk_below (g := gb316) (o := .cells #[.int .i64 a0_0, .int .i64 a0_1] 27 (0, 0)) (by (with_reducible repeat (first | refine blk_drewN ?_ _ | refine blk_drew ?_ | refine blk_alloc ?_ _)); exact BK316.out) hb); have n4_ := Aside0.mk (below_step (by repeat (first | (with_reducible first | exact HB.out | apply below_alloc | apply pw_below_drewN | apply below_drew1 | refine below_set ?_ GE316.out) | exact HB.out)) hb); clear HO_9; clear HO_11; clear BK316; clear HB; have HO_9 := n0_; have HO_11 := n1_; have HO337 := n2_; have BK316 := n3_; have HB := n4_; clear n0_ n1_ n2_ n3_ n4_; (try clear hb); (try clear hb2); (try clear hk); (try clear hi); (try clear ho0)))
                  (try simp only [Act.put, List.setIfInBounds_toArray, List.set_cons_zero, List.set_cons_succ])
                  go_cut [81] (fun v81 wc => ∃ (kq : Nat) (x81_37 : Bool), v81 = .bool x81_37 ∧ Aside0 (laws_FnExactSwitchTimes.j1 kq t331 t330 x81_37 = some r) ∧ Aside0 (kq ≤ kj14) ∧ Aside0 (Kd.R (Kd.int .i64) 2 wc w.heap.size (fun _ => True) (.slice Ao39 t325.length co39) t331) ∧ Aside0 (wc.heap[gb316]? = some (.cells #[.int .i64 a0_0, .int .i64 a0_1] 27 (0, 0))) ∧ Aside0 (Below w.heap.size w wc))
                  case first =>
                    have H := HC38.out
                    clear HC38
                    replace H := Option.bind_eq_some_iff.mp H
                    obtain ⟨t339, A440, H⟩ := H
                    replace H : (if t339 = true then (laws_FnExactSwitchTimes.j1 kj14 t331 t330 (t338 != t322)) else (laws_FnExactSwitchTimes.j1 kj14 t331 t330 true)) = some r := H
                    have A44 := Aside0.mk A440
                    clear A440
                    by_cases c45 : t339 = true
                    · subst c45
                      have H1 : (laws_FnExactSwitchTimes.j1 kj14 t331 t330 (t338 != t322)) = some r := by rw [if_pos rfl] at H; exact H
                      clear H
                      have H := H1
                      clear H1
                      have H' := Aside0.mk H
                      clear H
                      obtain ⟨Ao46, co46, eo46⟩ := Kd.R_slice HO337.out
                      subst eo46
                      obtain ⟨Ao47, co47, eo47⟩ := Kd.R_slice HO_9.out
                      subst eo47
                      go_wp2_with (first | ((with_reducible refine gate_callee (f := 22) rfl ?_); refine goesL_ (some 75) rfl rfl Tryd.func22 (by kernel_rfl) rfl #[.slice Ao46 t335.length co46, .slice Ao47 t319.length co47] rfl (by (try simp only [List.map_toArray, List.map_cons, List.map_nil]); first | done | rfl | (simp only [List.length_drop, List.length_take]; rfl)) ?_; (with_reducible refine (laws_eqInt64S.calls kj14 _ _ t335 _ _ t319 true _ ?side1 ?side2 ?side3 ?side4 A44.out).mono ?_); (case side1 => repeat (first | exact (Kd.R_reads' HO337.out).2.2 | (with_reducible refine Kd.C_alloc ?_ _) | (with_reducible refine Kd.C_drewN ?_ _) | (with_reducible refine Kd.C_drew ?_))); (case side2 => first | exact trivial | (exact (Kd.R_reads' HO337.out).2.1)); (case side3 => repeat (first | exact (Kd.R_reads' HO_9.out).2.2 | (with_reducible refine Kd.C_alloc ?_ _) | (with_reducible refine Kd.C_drewN ?_ _) | (with_reducible refine Kd.C_drew ?_))); (case side4 => first | exact trivial | (exact (Kd.R_reads' HO_9.out).2.1)); rintro e w' ⟨rfl, ⟨nd, rfl⟩⟩; refine ⟨_, rfl, ?_⟩))
                      go_meet
                      case rel => exact ⟨_, ((t338 != t322)), (by first | rfl | (simp; done) | (simp [*]; done)), H', ⟨by have := HJ14.out; first | omega | exact Nat.le_refl _⟩, ⟨by (with_reducible repeat (first | apply Kd.R_alloc | apply Kd.R_drewN | apply Kd.R_drew)); exact Kd.R_mono HO_11.out (fun _ hk => trivial)⟩, ⟨by (with_reducible repeat (first | refine blk_drewN ?_ _ | refine blk_drew ?_ | refine blk_alloc ?_ _)); exact BK316.out⟩, ⟨by repeat (first | (with_reducible first | exact HB.out | apply below_alloc | apply pw_below_drewN | apply below_drew1 | refine below_set ?_ GE316.out) | exact HB.out)⟩⟩
                    · replace c45 := Bool.eq_false_iff.mpr c45
                      subst c45
                      have H1 : (laws_FnExactSwitchTimes.j1 kj14 t331 t330 true) = some r := by rw [if_neg (show ¬ (false = true) by decide)] at H; exact H
                      clear H
                      have H := H1
                      clear H1
                      have H' := Aside0.mk H
                      clear H
                      obtain ⟨Ao48, co48, eo48⟩ := Kd.R_slice HO337.out
                      subst eo48
                      obtain ⟨Ao49, co49, eo49⟩ := Kd.R_slice HO_9.out
                      subst eo49
                      go_wp2_with (first | ((with_reducible refine gate_callee (f := 22) rfl ?_); refine goesL_ (some 75) rfl rfl Tryd.func22 (by kernel_rfl) rfl #[.slice Ao48 t335.length co48, .slice Ao49 t319.length co49] rfl (by (try simp only [List.map_toArray, List.map_cons, List.map_nil]); first | done | rfl | (simp only [List.length_drop, List.length_take]; rfl)) ?_; (with_reducible refine (laws_eqInt64S.calls kj14 _ _ t335 _ _ t319 false _ ?side1 ?side2 ?side3 ?side4 A44.out).mono ?_); (case side1 => repeat (first | exact (Kd.R_reads' HO337.out).2.2 | (with_reducible refine Kd.C_alloc ?_ _) | (with_reducible refine Kd.C_drewN ?_ _) | (with_reducible refine Kd.C_drew ?_))); (case side2 => first | exact trivial | (exact (Kd.R_reads' HO337.out).2.1)); (case side3 => repeat (first | exact (Kd.R_reads' HO_9.out).2.2 | (with_reducible refine Kd.C_alloc ?_ _) | (with_reducible refine Kd.C_drewN ?_ _) | (with_reducible refine Kd.C_drew ?_))); (case side4 => first | exact trivial | (exact (Kd.R_reads' HO_9.out).2.1)); rintro e w' ⟨rfl, ⟨nd, rfl⟩⟩; refine ⟨_, rfl, ?_⟩))
                      go_meet
                      case rel => exact ⟨_, (true), (by first | rfl | (simp; done) | (simp [*]; done)), H', ⟨by have := HJ14.out; first | omega | exact Nat.le_refl _⟩, ⟨by (with_reducible repeat (first | apply Kd.R_alloc | apply Kd.R_drewN | apply Kd.R_drew)); exact Kd.R_mono HO_11.out (fun _ hk => trivial)⟩, ⟨by (with_reducible repeat (first | refine blk_drewN ?_ _ | refine blk_drew ?_ | refine blk_alloc ?_ _)); exact BK316.out⟩, ⟨by repeat (first | (with_reducible first | exact HB.out | apply below_alloc | apply pw_below_drewN | apply below_drew1 | refine below_set ?_ GE316.out) | exact HB.out)⟩⟩
                  case rest =>
                    clear HC38
                    try clear c1
                    try clear c2
                    try clear p2
                    try clear c3
                    try clear c4
                    try clear c5
                    try clear c5b0
                    try clear c5b1
                    try clear c7
                    try clear c7b0
                    try clear c7b1
                    try clear c9
                    try clear c9b0
                    try clear c9b1
                    try clear c16
                    try clear c20
                    try clear c21
                    try clear c22
                    try clear c23
                    try clear c24
                    try clear c29
                    try clear c32
                    try clear c32b0
                    try clear c35
                    try clear c35b0
                    try clear c35b1
                    try clear c45
                    try clear hcz17_0
                    try clear hcz17_1
                    try clear hcz20_0
                    try clear hcz20_1
                    try clear hcz41_0
                    try clear hcz41_1
                    try clear hfz17_0
                    try clear hfz17_1
                    try clear hfz20_0
                    try clear hfz20_1
                    try clear hfz41_0
                    try clear hfz41_1
                    try clear p2
                    obtain ⟨kq, x81_37, rfl, HA, HJ37, HO_11, BK316, HB⟩ := hcut
                    have hl11_37 := (Kd.R_reads' HO_11.out).1
                    rw [hl11_37] at HO_11
                    (try simp only [hl11_37])
                    (try simp only [hl11_37] at BK316)
                    cases kq with
                    | zero => exact absurd HA.out (by simp [laws_FnExactSwitchTimes.j1])
                    | succ kj37 =>
                      have H := HA.out
                      clear HA
                      simp only [laws_FnExactSwitchTimes.j1] at H
                      by_cases c50 : x81_37 = true
                      · subst c50
                        have H1 : (some false) = some r := by rw [if_pos rfl] at H; exact H
                        clear H
                        have H := H1
                        clear H1
                        obtain rfl := Option.some.inj H
                        go_wp2
                        go_ret
                        exact ⟨by first | rfl | (simp [errW_none, errW_some] <;> rfl) | (simp [*, errW_none, errW_some] <;> rfl), by repeat (first | (with_reducible first | exact HB.out | apply below_alloc | apply pw_below_drewN | apply below_drew1 | refine below_set ?_ GE316.out) | exact HB.out)⟩
                      · replace c50 := Bool.eq_false_iff.mpr c50
                        subst c50
                        have H1 : ((laws_heldInt64S.f kj37 t331 1).bind fun t340 => (if t340 < 0 then (some false) else (if t340 = t330 then (some true) else (some false)))) = some r := by rw [if_neg (show ¬ (false = true) by decide)] at H; exact H
                        clear H
                        have H := H1
                        clear H1
                        replace H := Option.bind_eq_some_iff.mp H
                        obtain ⟨t340, A510, H⟩ := H
                        replace H : (if t340 < 0 then (some false) else (if t340 = t330 then (some true) else (some false))) = some r := H
                        have A51 := Aside0.mk A510
                        clear A510
                        by_cases c52 : t340 < 0
                        · rw [if_pos c52] at H
                          have c52b0 : decide (t340 < 0) = true := decide_eq_true c52
                          clear c52
                          obtain rfl := Option.some.inj H
                          go_wp2_with (first | ((with_reducible refine gate_callee (f := 24) rfl ?_); refine goesL_ (some 84) rfl rfl Tryd.func24 (by kernel_rfl) rfl #[.slice Ao39 t331.length co39, .int .i64 1] rfl (by (try simp only [List.map_toArray, List.map_cons, List.map_nil]); first | done | rfl | (simp only [List.length_drop, List.length_take]; rfl)) ?_; (with_reducible refine (laws_heldInt64S.calls kj37 _ _ t331 1 t340 _ ?side1 ?side2 A51.out).mono ?_); (case side1 => repeat (first | exact (Kd.R_reads' HO_11.out).2.2 | (with_reducible refine Kd.C_alloc ?_ _) | (with_reducible refine Kd.C_drewN ?_ _) | (with_reducible refine Kd.C_drew ?_))); (case side2 => first | exact trivial | (exact (Kd.R_reads' HO_11.out).2.1)); rintro e w' ⟨rfl, ⟨nd, rfl⟩⟩; refine ⟨_, rfl, ?_⟩))
                          go_ret
                          exact ⟨by first | rfl | (simp [errW_none, errW_some] <;> rfl) | (simp [*, errW_none, errW_some] <;> rfl), by repeat (first | (with_reducible first | exact HB.out | apply below_alloc | apply pw_below_drewN | apply below_drew1 | refine below_set ?_ GE316.out) | exact HB.out)⟩
                        · rw [if_neg c52] at H
                          have c52b0 : decide (t340 < 0) = false := decide_eq_false c52
                          clear c52
                          by_cases c53 : t340 = t330
                          · rw [if_pos c53] at H
                            have c53b0 : (t340 == t330) = true := beq_iff_eq.mpr c53
                            have c53b1 : (t340 != t330) = false := bne_eq_false_iff_eq.mpr c53
                            clear c53
                            obtain rfl := Option.some.inj H
                            go_wp2_with (first | ((with_reducible refine gate_callee (f := 24) rfl ?_); refine goesL_ (some 84) rfl rfl Tryd.func24 (by kernel_rfl) rfl #[.slice Ao39 t331.length co39, .int .i64 1] rfl (by (try simp only [List.map_toArray, List.map_cons, List.map_nil]); first | done | rfl | (simp only [List.length_drop, List.length_take]; rfl)) ?_; (with_reducible refine (laws_heldInt64S.calls kj37 _ _ t331 1 t340 _ ?side1 ?side2 A51.out).mono ?_); (case side1 => repeat (first | exact (Kd.R_reads' HO_11.out).2.2 | (with_reducible refine Kd.C_alloc ?_ _) | (with_reducible refine Kd.C_drewN ?_ _) | (with_reducible refine Kd.C_drew ?_))); (case side2 => first | exact trivial | (exact (Kd.R_reads' HO_11.out).2.1)); rintro e w' ⟨rfl, ⟨nd, rfl⟩⟩; refine ⟨_, rfl, ?_⟩))
                            go_ret
                            exact ⟨by first | rfl | (simp [errW_none, errW_some] <;> rfl) | (simp [*, errW_none, errW_some] <;> rfl), by repeat (first | (with_reducible first | exact HB.out | apply below_alloc | apply pw_below_drewN | apply below_drew1 | refine below_set ?_ GE316.out) | exact HB.out)⟩
                          · rw [if_neg c53] at H
                            have c53b0 : (t340 == t330) = false := beq_eq_false_iff_ne.mpr c53
                            have c53b1 : (t340 != t330) = true := bne_iff_ne.mpr c53
                            obtain rfl := Option.some.inj H
                            go_wp2_with (first | ((with_reducible refine gate_callee (f := 24) rfl ?_); refine goesL_ (some 84) rfl rfl Tryd.func24 (by kernel_rfl) rfl #[.slice Ao39 t331.length co39, .int .i64 1] rfl (by (try simp only [List.map_toArray, List.map_cons, List.map_nil]); first | done | rfl | (simp only [List.length_drop, List.length_take]; rfl)) ?_; (with_reducible refine (laws_heldInt64S.calls kj37 _ _ t331 1 t340 _ ?side1 ?side2 A51.out).mono ?_); (case side1 => repeat (first | exact (Kd.R_reads' HO_11.out).2.2 | (with_reducible refine Kd.C_alloc ?_ _) | (with_reducible refine Kd.C_drewN ?_ _) | (with_reducible refine Kd.C_drew ?_))); (case side2 => first | exact trivial | (exact (Kd.R_reads' HO_11.out).2.1)); rintro e w' ⟨rfl, ⟨nd, rfl⟩⟩; refine ⟨_, rfl, ?_⟩))
                            go_ret
                            exact ⟨by first | rfl | (simp [errW_none, errW_some] <;> rfl) | (simp [*, errW_none, errW_some] <;> rfl), by repeat (first | (with_reducible first | exact HB.out | apply below_alloc | apply pw_below_drewN | apply below_drew1 | refine below_set ?_ GE316.out) | exact HB.out)⟩
                · rw [if_neg c35] at H
                  have c35b0 : (t332 == t330) = false := beq_eq_false_iff_ne.mpr c35
                  have c35b1 : (t332 != t330) = true := bne_iff_ne.mpr c35
                  obtain rfl := Option.some.inj H
                  obtain ⟨Ao54, co54, eo54⟩ := Kd.R_slice HO_11.out
                  subst eo54
                  go_wp2_with (first | ((with_reducible refine gate_callee (f := 23) rfl ?_); refine goesL_ (some 55) rfl rfl Tryd.func23 (by kernel_rfl) rfl #[.slice Ao54 t325.length co54, .int .i64 1] rfl (by (try simp only [List.map_toArray, List.map_cons, List.map_nil]); first | done | rfl | (simp only [List.length_drop, List.length_take]; rfl)) ?_; (with_reducible refine (laws_markInt64S.calls kj14 (fun k_ => some k_ = (.slice Ao54 t325.length co54 : Value).ownBlock) (.slice Ao54 t325.length co54) t325 1 t330 t331 w _ ?side1 ?side2 A30.out).mono ?_); (case side1 => repeat (first | (with_reducible first | exact HB.out | apply below_alloc | apply pw_below_drewN | apply below_drew1 | refine below_set ?_ GE316.out) | exact HB.out)); (case side2 => exact Kd.R_tight rfl HO_11.out); rintro e w55 ⟨rfl, hy0, hb, hkp⟩; refine ⟨_, rfl, ?_⟩; have n0_ := Aside0.mk (Kd.R_mono (ok' := fun k_ => some k_ ≠ (.slice Ao54 t325.length co54 : Value).ownBlock) (Kd.R_keptB (HO_9.out) hkp (fun k_ hk_ hs_ => (hk_) hs_)) (fun k_ hk_ => hk_.1)); have n1_ := Aside0.mk (Kd.R_reok rfl hy0 (fun k_ e_ => HO_11.out.1 k_ e_)); have n2_ := Aside0.mk (blk_kept (by (with_reducible repeat (first | refine blk_drewN ?_ _ | refine blk_drew ?_ | refine blk_alloc ?_ _)); exact BK316.out) hkp (fun hs_ => (fun e_ => (Kd.R_ne HO_11.out BK316.out (by decide)) e_) hs_)); have n3_ := Aside0.mk (hb); clear HO_9; clear HO_11; clear BK316; clear HB; have HO_9 := n0_; have HO_11 := n1_; have BK316 := n2_; have HB := n3_; clear n0_ n1_ n2_ n3_; (try clear hb); (try clear hkp); (try clear hy0)) | ((with_reducible refine gate_callee (f := 24) rfl ?_); refine goesL_ (some 58) rfl rfl Tryd.func24 (by kernel_rfl) rfl #[.slice Ao54 t331.length co54, .int .i64 1] rfl (by (try simp only [List.map_toArray, List.map_cons, List.map_nil]); first | done | (rw [show t331.length = t325.length from (Kd.R_reads' HO_11.out).1.symm] <;> rfl) | rfl | (simp only [List.length_drop, List.length_take]; rfl)) ?_; (with_reducible refine (laws_heldInt64S.calls kj14 _ _ t331 1 t332 _ ?side1 ?side2 A31.out).mono ?_); (case side1 => repeat (first | exact (Kd.R_reads' HO_11.out).2.2 | (with_reducible refine Kd.C_alloc ?_ _) | (with_reducible refine Kd.C_drewN ?_ _) | (with_reducible refine Kd.C_drew ?_))); (case side2 => rw [show t331.length = t325.length from (Kd.R_reads' HO_11.out).1.symm]; first | exact trivial | (exact (Kd.R_reads' HO_11.out).2.1)); rintro e w' ⟨rfl, ⟨nd, rfl⟩⟩; refine ⟨_, rfl, ?_⟩))
                  go_ret
                  exact ⟨by first | rfl | (simp [errW_none, errW_some] <;> rfl) | (simp [*, errW_none, errW_some] <;> rfl), by repeat (first | (with_reducible first | exact HB.out | apply below_alloc | apply pw_below_drewN | apply below_drew1 | refine below_set ?_ GE316.out) | exact HB.out)⟩
end Go.Proofs.YthkpnbelbaljdaaDoor.X
end
section
/- The times of a switch: the plain law of SwitchTimes. Conditions: as each lemma says. -/
namespace Go.Proofs.YthkpnbelbaljdaaDoor.X
open Go.RowKit Go.Proofs.YthkpnbelbaljdaaDoorW.PrintWords Go.Proofs.YthkpnbelbaljdaaDoorW.PrintLast Go.Proofs.YthkpnbelbaljdaaDoorW.PrintMore
set_option linter.unusedVariables false
set_option linter.unusedSimpArgs false
theorem times_loop (x y : ByteArray) (p q : Int) (hx : x.size ≤ 1000000) (hy : y.size = x.size) : ∀ (d k i : Nat), i + d = x.size → d < k →
    spec_SwitchTimes.l0 k x y (chgs x y p q i) (pvb x p i) (pvb y q i) i = some (chgs x y p q x.size, true)
  | 0, k, i, hi, hk => by
    cases k with
    | zero => omega
    | succ k => rw [spec_SwitchTimes.l0, if_neg (by omega), show i = x.size by omega]
  | d + 1, k, i, hi, hk => by
    cases k with
    | zero => omega
    | succ k =>
      have ih := times_loop x y p q hx hy d k (i + 1) (by omega) (by omega)
      have hl := chgs_len x y p q i
      rw [show pvb x p (i + 1) = bt x (i : Int) from rfl, show pvb y q (i + 1) = bt y (i : Int) from rfl, show chgs x y p q (i + 1) = chgs x y p q i ++ (if chg x y p q i = true then [(i : Int)] else []) from rfl, Int.natCast_add, Int.natCast_one] at ih
      rw [spec_SwitchTimes.l0, if_pos (by omega), if_pos (by omega), w64 (by omega) (by omega)]
      by_cases h1 : bt x (i : Int) = pvb x p i
      · rw [if_pos h1, if_pos (by omega)]
        by_cases h2 : bt y (i : Int) = pvb y q i
        · have hc : chg x y p q i = false := by unfold chg; rw [beq_iff_eq.mpr h1, beq_iff_eq.mpr h2]; rfl
          rw [hc, if_neg (by decide), List.append_nil] at ih
          rw [if_pos h2]; exact ih
        · have hc : chg x y p q i = true := by unfold chg; rw [beq_eq_false_iff_ne.mpr h2, Bool.and_false]; rfl
          rw [hc, if_pos rfl] at ih
          rw [if_neg h2, if_pos (by omega)]; exact ih
      · have hc : chg x y p q i = true := by unfold chg; rw [beq_eq_false_iff_ne.mpr h1]; rfl
        rw [hc, if_pos rfl] at ih
        rw [if_neg h1, if_pos (by omega), if_pos (by omega)]; exact ih
theorem times_both (k : Nat) (a0_0 a0_1 : Int) (a1 a2 a3 : ByteArray) (h1 : a1.size ≤ 1048576) (h2 : a2.size ≤ 1048576) (h3 : a3.size ≤ 1048576) (hk : 1000001 < k) :
    ∃ r : List Int × Bool, spec_SwitchTimes.f k a0_0 a0_1 a1 a2 a3 = some r ∧ impl_SwitchTimes.f a0_0 a0_1 a1 a2 a3 = some r ∧ r.1.length ≤ 1000000 := by
  unfold spec_SwitchTimes.f impl_SwitchTimes.f
  rw [impl_en a0_0 a0_1 a1 a2 a3 h1 h2 h3]
  unfold spec_EnablesOf.f
  rw [if_pos ⟨h1, h2, h3⟩, Option.bind_some, Option.bind_some]
  by_cases hs : swOk a0_0 a0_1 = true ∧ wv3 a1 a2 a3 = true
  · rw [if_pos hs]
    simp only [if_true]
    obtain ⟨hs, hw⟩ := hs
    unfold swOk at hs
    unfold wv3 at hw
    simp only [Bool.and_eq_true, decide_eq_true_eq] at hs hw
    have hz := isW_size hw.1.1.1.1
    rw [level_eq, level_eq, Option.bind_some, Option.bind_some]
    have e1 : (if (a0_1 == 0) = true then (49 : Int) else 48) = if a0_1 = 1 then 48 else 49 := by
      by_cases e : a0_1 = 1
      · subst e; rfl
      · have : a0_1 = 0 := by omega
        subst this; rfl
    have e2 : (if (a0_1 == 1) = true then (49 : Int) else 48) = if a0_1 = 1 then 49 else 48 := by
      by_cases e : a0_1 = 1
      · subst e; rfl
      · have : a0_1 = 0 := by omega
        subst this; rfl
    rw [e1, e2]
    have hX : (strOfNums (lvs (fun i => (swAt a1 a2 a3 (sw0 a0_0 a0_1) (i + 1)).e0) a1.size)).size ≤ 1000000 := by rw [lvs_size]; exact hz
    have hY : (strOfNums (lvs (fun i => (swAt a1 a2 a3 (sw0 a0_0 a0_1) (i + 1)).e1) a1.size)).size = (strOfNums (lvs (fun i => (swAt a1 a2 a3 (sw0 a0_0 a0_1) (i + 1)).e0) a1.size)).size := by rw [lvs_size, lvs_size]
    generalize strOfNums (lvs (fun i => (swAt a1 a2 a3 (sw0 a0_0 a0_1) (i + 1)).e0) a1.size) = X at hX hY ⊢
    generalize strOfNums (lvs (fun i => (swAt a1 a2 a3 (sw0 a0_0 a0_1) (i + 1)).e1) a1.size) = Y at hY ⊢
    have hc : X.size ≤ 1000000 ∧ Y.size = X.size := ⟨hX, hY⟩
    rw [if_pos hc]
    generalize (if a0_1 = 1 then (48 : Int) else 49) = P
    generalize (if a0_1 = 1 then (49 : Int) else 48) = Q
    have := times_loop X Y P Q hX hY _ k 0 (Nat.zero_add _) (by omega)
    exact ⟨_, this, rfl, Nat.le_trans (chgs_len _ _ _ _ _) hX⟩
  · rw [if_neg hs]
    exact ⟨_, rfl, rfl, by simp⟩
theorem FnExactSwitchTimes_pure (a0_0 a0_1 : Int) (a1 a2 a3 : ByteArray) {P0 P1 P2 P3 P4 : Prop} (_ : P0) (_ : P1) (_ : P2) (_ : P3) (_ : P4) : ∃ k, laws_FnExactSwitchTimes.f k a0_0 a0_1 a1 a2 a3 = some true := by
  obtain ⟨k, hk⟩ : ∃ k : Nat, 2000000 < k := ⟨2000001, by omega⟩
  refine ⟨k + 2, ?_⟩
  unfold laws_FnExactSwitchTimes.f laws_toSwitch.f
  split
  · rfl
  · split
    · rfl
    · split
      · rfl
      · rename_i h1 h2 h3
        obtain ⟨r, hs, hi, hl⟩ := times_both (k + 2) a0_0 a0_1 a1 a2 a3 (by omega) (by omega) (by omega) (by omega)
        simp only [Option.bind_some]
        rw [hs, hi]
        simp only [Option.bind_some]
        rw [eqInt64S_refl (k + 2) r.1 (by omega) (by omega), Option.bind_some, if_pos rfl, laws_FnExactSwitchTimes.j0, if_neg (by cases r.2 <;> decide), markInt64S_eq (k + 1) r.1 1 (by omega) (by omega) (by omega) (by omega)]
        simp only [Option.bind_some]
        rw [heldInt64S_eq (k + 1) 1 r.1.length (by omega) (by omega) (by omega) (by omega)]
        unfold laws_toSwitch.f
        simp only [Option.bind_some]
        rw [if_neg (by omega), if_pos (by trivial), hi]
        simp only [Option.bind_some]
        rw [eqInt64S_refl (k + 1) r.1 (by omega) (by omega), Option.bind_some, if_pos rfl, laws_FnExactSwitchTimes.j1, if_neg (by cases r.2 <;> decide), heldInt64S_eq k 1 r.1.length (by omega) (by omega) (by omega) (by omega)]
        simp only [Option.bind_some]
        rw [if_neg (by omega)]
        simp
end Go.Proofs.YthkpnbelbaljdaaDoor.X
end
