/- My own texts of this seat and its words, merged: Xp70, XSlowClo, Xp75, XSlow, Xp59, XSlowest, Xp93, XSlowR, Xp88, Xp89, Xp58, XSSlow, Xp15, Xp46, CNums, Xp49, Xp50, Xp20, Xp80, Xp52, Xp22, Xp87, Xp55, Xp24, CFlow, Xp30, XSPeriod, Xp7, XOpenRow. Conditions: as each lemma says. -/
import Derived.Test.YtojpibpjieanhaaO21
import Derived.Test.YtojpibpjieanhaaO24
import Derived.Deep.RegionHeld3
import Derived.RegionTactic
import Derived.BigRegion
import Derived.Deep.RegionLaw
import Derived.Test.YtojpibpjieanhaaO23
import Derived.Deep.Slices
import Derived.Deep.Fields
import Derived.ChangeSame
import Derived.ChangeSlices
section
-- Written by a program of this session out of the kit's print of the loaded functions: a plain function of a Go function, and its contract.
namespace Go.Proofs.Ytojpibpjieanhaa.X
open Go.RowKit Go.Proofs.YtojpibpjieanhaaW.PrintWords Go.Proofs.YtojpibpjieanhaaW.PrintLast Go.Proofs.YtojpibpjieanhaaW.PrintMore
attribute [local go_sem] max2_int min2_int max_two min_two max_three min_three max_four min_four   -- for this text's walks alone
set_option linter.unusedVariables false
set_option linter.unusedSimpArgs false
def impl_Flow_openFrom.l0 : Nat → Int → List Int → List (S55) → Int → Int → Option (List Int)
 | 0, _, _, _, _, _ => none
 | k + 1, x1, x5, x10, x11, x12 => if x12 < x11 then (if 0 ≤ x12 then (if x12 < (x10.length : Int) then (if ((rd_T55 x10 x12).f0) = x1 then (if ((rd_T55 x10 x12).f2) = 0 then ((slices_Contains_int64_int64.f k x5 ((rd_T55 x10 x12).f1)).bind fun t920 => (if t920 = true then (impl_Flow_openFrom.l0 k x1 x5 x10 x11 (wrap64 (x12 + 1))) else (if x5.length < 17592186044416 then (impl_Flow_openFrom.l0 k x1 (x5 ++ [(rd_T55 x10 x12).f1]) x10 x11 (wrap64 (x12 + 1))) else (none)))) else (impl_Flow_openFrom.l0 k x1 x5 x10 x11 (wrap64 (x12 + 1)))) else (impl_Flow_openFrom.l0 k x1 x5 x10 x11 (wrap64 (x12 + 1)))) else (none)) else (none)) else (some x5)
def impl_Flow_openFrom.f (k : Nat) (l0_0 : List Int) (l0_1 : List (S55)) (a1 : Int) : Option (List Int) := impl_Flow_openFrom.l0 k a1 (([] : List Int)) l0_1 (l0_1.length : Int) 0
set_option maxHeartbeats 8000000 in
set_option maxRecDepth 100000 in
theorem impl_Flow_openFrom.calls (k : Nat) (A0_0 : Option Addr) (c0_0 : Nat) (l0_0 : List Int) (A0_1 : Option Addr) (c0_1 : Nat) (l0_1 : List (S55)) (a1 : Int) (r : List Int) (w : World) (hr0_0 : Kd.C (Kd.int .i64) w A0_0 l0_0.length l0_0) (hc0_0 : l0_0.length ≤ c0_0) (hr0_1 : Kd.C k55 w A0_1 l0_1.length l0_1) (hc0_1 : l0_1.length ≤ c0_1) (h : impl_Flow_openFrom.f k l0_0 l0_1 a1 = some r) :
  Calls Try.prog 70 #[.agg #[.slice A0_0 l0_0.length c0_0, .slice A0_1 l0_1.length c0_1], .int .i64 a1] w fun e w' => ∃ v0_ : Value, e = .returned (v0_) ∧ Kd.R (Kd.int .i64) 2 w' w.heap.size (fun _ => True) v0_ r ∧ Below w.heap.size w w' := by
 have hu36 := Try.underlying36
 have hu55 := Try.underlying55
 have HR0_0 := Aside0.mk hr0_0
 have HC0_0 := Aside0.mk hc0_0
 clear hr0_0 hc0_0
 have HR0_1 := Aside0.mk hr0_1
 have HC0_1 := Aside0.mk hc0_1
 clear hr0_1 hc0_1
 have HB := Aside0.mk (Below.refl w.heap.size w)
 have H : (impl_Flow_openFrom.l0 k a1 (([] : List Int)) l0_1 (l0_1.length : Int) 0) = some r := h
 clear h
 obtain ⟨y915, hy915⟩ : ∃ y_ : List Int, y_ = (([] : List Int)) := ⟨_, rfl⟩
 replace H : (impl_Flow_openFrom.l0 k a1 y915 l0_1 (l0_1.length : Int) 0) = some r := by first | (rw [hy915]; with_reducible exact H) | (have H2_ := (Option.bind_some _ _).symm.trans H; rw [hy915]; with_reducible exact H2_) | (have H2_ := (Option.bind_some _ _).symm.trans H; with_reducible exact H2_) | with_reducible exact H | (rw [hy915]; exact H) | exact H
 have Ny915 := Aside0.mk hy915
 clear hy915
 have H' := Aside0.mk H
 clear H
 go_enter Try.func70, Try.ntmps70
 go_wp2_with (first | ((with_reducible refine gate_dst (N := 2) rfl ?_); refine box_event ?hg (N := 2) ?hd (cs := #[.slice A0_0 l0_0.length c0_0, .slice A0_1 l0_1.length c0_1]) (t := 36) ?hr ?_; (case hd => rfl); (case hg => rfl); (case hr => first | (go_simp; done) | (go_simp; rfl)); intro gb914 hg w3 hbox hb; have n0_ := Aside0.mk (below_step (by repeat (first | (with_reducible first | exact HB.out | apply below_alloc | apply pw_below_drewN | apply below_drew1) | exact HB.out)) hb); have n1_ := Aside0.mk (hbox); have n2_ := Aside0.mk ((by rw [hg]; exact (below_size (by repeat (first | (with_reducible first | exact HB.out | apply below_alloc | apply pw_below_drewN | apply below_drew1) | exact HB.out))) : w.heap.size ≤ gb914)); have n3_ := Aside0.mk ((by rw [hg]; exact (below_size (by repeat (first | (with_reducible first | exact HB.out | apply below_alloc | apply pw_below_drewN | apply below_drew1) | exact HB.out))) : w.heap.size ≤ gb914)); clear HB; have HB := n0_; have BK914 := n1_; have GW914 := n2_; have GE914 := n3_; clear n0_ n1_ n2_ n3_; clear hb hbox hg) | ((with_reducible refine gate_dst (N := 8) rfl ?_); refine Kd.R_lit (Kd.int .i64) _ 2 ?hg (N := 8) ?hd (xs := ([] : List Int)) (inner := []) (ok := fun _ => True) (okp := fun _ => True) ?hr ?hp (fun _ hk => hk) trivial (Below.refl _ _) (Nat.le_refl _) (by simp) ?_; (case hd => rfl); (case hg => rfl); (case hr => first | (go_simp; done) | (go_simp; rfl)); (case hp => exact (Reps.none _ _)); intro v916 w4 ho5 hb hg_ hnew_; clear hg_ hnew_; (first | rw [← Ny915.out] at ho5 | (simp only [Int.reduceToNat] at ho5; rw [← Ny915.out] at ho5)); have n0_ := Aside0.mk (Kd.R_lower ho5 (below_size (by repeat (first | (with_reducible first | exact HB.out | apply below_alloc | apply pw_below_drewN | apply below_drew1 | refine below_set ?_ GE914.out) | exact HB.out)))); have n1_ := Aside0.mk (blk_below (g := gb914) (o := .cells #[.slice A0_0 l0_0.length c0_0, .slice A0_1 l0_1.length c0_1] 36 (0, 0)) (by (with_reducible repeat (first | refine blk_drewN ?_ _ | refine blk_drew ?_ | refine blk_alloc ?_ _)); exact BK914.out) hb); have n2_ := Aside0.mk (below_step (by repeat (first | (with_reducible first | exact HB.out | apply below_alloc | apply pw_below_drewN | apply below_drew1 | refine below_set ?_ GE914.out) | exact HB.out)) hb); clear BK914; clear HB; have HO917 := n0_; have BK914 := n1_; have HB := n2_; clear n0_ n1_ n2_; clear hb ho5; have hcz6_0 : w4.cell? ⟨gb914, 0, none⟩ = some (.slice A0_0 l0_0.length c0_0) := (blk_cell BK914.out 0).trans rfl; have hcz6_1 : w4.cell? ⟨gb914, 1, none⟩ = some (.slice A0_1 l0_1.length c0_1) := (blk_cell BK914.out 1).trans rfl; have hfz6_0 := blk_frozen BK914.out 0; have hfz6_1 := blk_frozen BK914.out 1))
 go_loopg [5, 12] k (fun kq v5 v12 w' => ∃ (x5_1 : List Int) (x12_1 : Int), v12 = .int .i64 x12_1 ∧ Aside0 (impl_Flow_openFrom.l0 kq a1 x5_1 l0_1 (l0_1.length : Int) x12_1 = some r) ∧ Aside0 (kq ≤ k) ∧ Aside0 (Kd.R (Kd.int .i64) 2 w' w.heap.size (fun _ => True) v5 x5_1) ∧ Aside0 (w'.heap[gb914]? = some (.cells #[(.slice A0_0 l0_0.length c0_0), (.slice A0_1 l0_1.length c0_1)] 36 (0, 0))) ∧ Aside0 (Below w.heap.size w w'))
 case atStart => exact ⟨(y915), (0), (by first | rfl | (simp; done) | (simp [*]; done)), H', ⟨Nat.le_refl _⟩, ⟨by (with_reducible repeat (first | apply Kd.R_alloc | apply Kd.R_drewN | apply Kd.R_drew)); exact HO917.out⟩, ⟨by (with_reducible repeat (first | refine blk_drewN ?_ _ | refine blk_drew ?_ | refine blk_alloc ?_ _)); exact BK914.out⟩, ⟨by repeat (first | (with_reducible first | exact HB.out | apply below_alloc | apply pw_below_drewN | apply below_drew1 | refine below_set ?_ GE914.out) | exact HB.out)⟩⟩
 case round =>
  clear H'
  try clear p2
  try clear hcz6_0
  try clear hcz6_1
  try clear hfz6_0
  try clear hfz6_1
  obtain ⟨x5_1, x12_1, rfl, HA, HK1, HO_5, BK914, HB⟩ := hrel
  cases gk with
  | zero => exact absurd HA.out (by simp [impl_Flow_openFrom.l0])
  | succ k1 =>
   have H := HA.out
   clear HA
   simp only [impl_Flow_openFrom.l0] at H
   by_cases c7 : x12_1 < (l0_1.length : Int)
   ·rw [if_pos c7] at H
    have c7b0 : decide (x12_1 < (l0_1.length : Int)) = true := decide_eq_true c7
    clear c7
    by_cases c8 : 0 ≤ x12_1
    ·rw [if_pos c8] at H
     have c8b0 : decide (0 ≤ x12_1) = true := decide_eq_true c8
     clear c8
     by_cases c9 : x12_1 < (l0_1.length : Int)
     ·rw [if_pos c9] at H
      have c9b0 : decide (x12_1 < (l0_1.length : Int)) = true := decide_eq_true c9
      clear c9
      by_cases c10 : ((rd_T55 l0_1 x12_1).f0) = a1
      ·rw [if_pos c10] at H
       have c10b0 : (((rd_T55 l0_1 x12_1).f0) == a1) = true := beq_iff_eq.mpr c10
       have c10b1 : (((rd_T55 l0_1 x12_1).f0) != a1) = false := bne_eq_false_iff_eq.mpr c10
       clear c10
       by_cases c11 : ((rd_T55 l0_1 x12_1).f2) = 0
       ·rw [if_pos c11] at H
        have c11b0 : (((rd_T55 l0_1 x12_1).f2) == 0) = true := beq_iff_eq.mpr c11
        have c11b1 : (((rd_T55 l0_1 x12_1).f2) != 0) = false := bne_eq_false_iff_eq.mpr c11
        clear c11
        replace H := Option.bind_eq_some_iff.mp H
        obtain ⟨t920, A120, H⟩ := H
        replace H : (if t920 = true then (impl_Flow_openFrom.l0 k1 a1 x5_1 l0_1 (l0_1.length : Int) (wrap64 (x12_1 + 1))) else (if x5_1.length < 17592186044416 then (impl_Flow_openFrom.l0 k1 a1 (x5_1 ++ [(rd_T55 l0_1 x12_1).f1]) l0_1 (l0_1.length : Int) (wrap64 (x12_1 + 1))) else (none))) = some r := H
        have A12 := Aside0.mk A120
        clear A120
        by_cases c13 : t920 = true
        ·subst c13
         have H1 : (impl_Flow_openFrom.l0 k1 a1 x5_1 l0_1 (l0_1.length : Int) (wrap64 (x12_1 + 1))) = some r := by rw [if_pos rfl] at H; exact H
         clear H
         have H := H1
         clear H1
         have H' := Aside0.mk H
         clear H
         have p918 : 0 ≤ (x12_1 : Int) := of_decide_eq_true (by first | (with_reducible assumption) | assumption)
         have q918 : x12_1 < (l0_1.length : Int) := of_decide_eq_true (by first | (with_reducible assumption) | assumption)
         obtain ⟨ad918, e918, hx918_0, hx918_1, hx918_2⟩ := at_T55 HR0_1.out x12_1 p918 q918
         cases e918
         replace hx918_0 := (HB.out.cell (World.block_lt_of_cell? w _ hx918_0)).trans hx918_0
         replace hx918_1 := (HB.out.cell (World.block_lt_of_cell? w _ hx918_1)).trans hx918_1
         replace hx918_2 := (HB.out.cell (World.block_lt_of_cell? w _ hx918_2)).trans hx918_2
         replace p918 := eq_true p918
         replace q918 := eq_true q918
         go_wp2_with (first | ((with_reducible refine gate_dst (N := 7) rfl ?_); refine box_event ?hg (N := 7) ?hd (cs := #[.int .i64 0, .int .i64 0, .int .i64 0]) (t := 55) ?hr ?_; (case hd => rfl); (case hg => rfl); (case hr => first | (go_simp; done) | (go_simp; rfl)); intro gb919 hg w14 hbox hb; have n0_ := Aside0.mk (Kd.R_below (by (with_reducible repeat (first | apply Kd.R_alloc | apply Kd.R_drewN | apply Kd.R_drew)); exact HO_5.out) hb); have n1_ := Aside0.mk (blk_below (g := gb914) (o := .cells #[.slice A0_0 l0_0.length c0_0, .slice (some ad918) l0_1.length c0_1] 36 (0, 0)) (by (with_reducible repeat (first | refine blk_drewN ?_ _ | refine blk_drew ?_ | refine blk_alloc ?_ _)); exact BK914.out) hb); have n2_ := Aside0.mk (below_step (by repeat (first | (with_reducible first | exact HB.out | apply below_alloc | apply pw_below_drewN | apply below_drew1 | refine below_set ?_ GE914.out) | exact HB.out)) hb); have n3_ := Aside0.mk (hbox); have n4_ := Aside0.mk ((by rw [hg]; exact (below_size (by repeat (first | (with_reducible first | exact HB.out | apply below_alloc | apply pw_below_drewN | apply below_drew1 | refine below_set ?_ GE914.out) | exact HB.out))) : w.heap.size ≤ gb919)); have n5_ := Aside0.mk ((by rw [hg]; exact (below_size (by repeat (first | (with_reducible first | exact HB.out | apply below_alloc | apply pw_below_drewN | apply below_drew1 | refine below_set ?_ GE914.out) | exact HB.out))) : w.heap.size ≤ gb919)); have n6_ := Aside0.mk ((by rw [hg]; exact Nat.ne_of_lt (blk_lt (g := gb914) (o := .cells #[.slice A0_0 l0_0.length c0_0, .slice (some ad918) l0_1.length c0_1] 36 (0, 0)) (by (with_reducible repeat (first | refine blk_drewN ?_ _ | refine blk_drew ?_ | refine blk_alloc ?_ _)); exact BK914.out)) : gb914 ≠ gb919)); have n7_ := Aside0.mk ((by rw [hg]; exact Nat.ne_of_gt (blk_lt (g := gb914) (o := .cells #[.slice A0_0 l0_0.length c0_0, .slice (some ad918) l0_1.length c0_1] 36 (0, 0)) (by (with_reducible repeat (first | refine blk_drewN ?_ _ | refine blk_drew ?_ | refine blk_alloc ?_ _)); exact BK914.out)) : gb919 ≠ gb914)); clear HO_5; clear BK914; clear HB; have HO_5 := n0_; have BK914 := n1_; have HB := n2_; have BK919 := n3_; have GW919 := n4_; have GE919 := n5_; have NB914_919 := n6_; have NB919_914 := n7_; clear n0_ n1_ n2_ n3_ n4_ n5_ n6_ n7_; clear hb hbox hg; have hnb15 := NB919_914.out; have hnc15 := NB914_919.out; have hcz16_0 : w14.cell? ⟨gb919, 0, none⟩ = some (.int .i64 0) := (blk_cell BK919.out 0).trans rfl; have hcz16_1 : w14.cell? ⟨gb919, 1, none⟩ = some (.int .i64 0) := (blk_cell BK919.out 1).trans rfl; have hcz16_2 : w14.cell? ⟨gb919, 2, none⟩ = some (.int .i64 0) := (blk_cell BK919.out 2).trans rfl; have hfz16_0 := blk_frozen BK919.out 0; have hfz16_1 := blk_frozen BK919.out 1; have hfz16_2 := blk_frozen BK919.out 2; obtain ⟨Ao17, co17, eo17⟩ := Kd.R_slice HO_5.out; subst eo17) | (go_at_call 95; (with_reducible refine (slices_Contains_int64_int64.calls k1 _ _ x5_1 ((rd_T55 l0_1 x12_1).f1) true _ ?side1 ?side2 A12.out).mono ?_); (case side1 => refine (Kd.R_reads' (e := 2) (base := w.heap.size) (ok := fun k_ => True) (n := x5_1.length) (c := co17) ?_).2.2; exact (by (with_reducible repeat (first | apply Kd.R_alloc | apply Kd.R_drewN | apply Kd.R_drew)); exact (Kd.R_mono (Kd.R_far (p := ⟨gb919, 2, none⟩) (Kd.R_far (p := ⟨gb919, 1, none⟩) (Kd.R_far (p := ⟨gb919, 0, none⟩) (Kd.R_types HO_5.out BK919.out (by decide)) (fun _ hk => hk.2) (.int .i64 ((rd_T55 l0_1 x12_1).f0))) (fun _ hk => hk.2) (.int .i64 ((rd_T55 l0_1 x12_1).f1))) (fun _ hk => hk.2) (.int .i64 ((rd_T55 l0_1 x12_1).f2))) (fun _ h_ => h_.1)))); (case side2 => first | exact trivial | (exact (Kd.R_reads' HO_5.out).2.1)); rintro e w' ⟨rfl, ⟨nd, rfl⟩⟩))
         go_roundg k1
         case measure => have := HK1.out; omega
         case rel => exact ⟨(x5_1), (wrap64 (x12_1 + 1)), (by first | rfl | (simp; done) | (simp [*]; done)), H', ⟨by have := HK1.out; omega⟩, ⟨by (with_reducible repeat (first | apply Kd.R_alloc | apply Kd.R_drewN | apply Kd.R_drew)); exact Kd.R_mono (Kd.R_far (p := ⟨gb919, 2, none⟩) (Kd.R_far (p := ⟨gb919, 1, none⟩) (Kd.R_far (p := ⟨gb919, 0, none⟩) (Kd.R_types HO_5.out BK919.out (by decide)) (fun _ hk => hk.2) (.int .i64 ((rd_T55 l0_1 x12_1).f0))) (fun _ hk => hk.2) (.int .i64 ((rd_T55 l0_1 x12_1).f1))) (fun _ hk => hk.2) (.int .i64 ((rd_T55 l0_1 x12_1).f2))) (fun _ hk => trivial)⟩, ⟨by (with_reducible repeat (first | refine blk_drewN ?_ _ | refine blk_drew ?_ | refine blk_alloc ?_ _)); refine blk_far ?_ NB914_919.out _; (with_reducible repeat (first | refine blk_drewN ?_ _ | refine blk_drew ?_ | refine blk_alloc ?_ _)); refine blk_far ?_ NB914_919.out _; (with_reducible repeat (first | refine blk_drewN ?_ _ | refine blk_drew ?_ | refine blk_alloc ?_ _)); refine blk_far ?_ NB914_919.out _; (with_reducible repeat (first | refine blk_drewN ?_ _ | refine blk_drew ?_ | refine blk_alloc ?_ _)); exact BK914.out⟩, ⟨by repeat (first | (with_reducible first | exact HB.out | apply below_alloc | apply pw_below_drewN | apply below_drew1 | refine below_set ?_ GE914.out | refine below_set ?_ GE919.out) | exact HB.out)⟩⟩
        ·replace c13 := Bool.eq_false_iff.mpr c13
         subst c13
         have H1 : (if x5_1.length < 17592186044416 then (impl_Flow_openFrom.l0 k1 a1 (x5_1 ++ [(rd_T55 l0_1 x12_1).f1]) l0_1 (l0_1.length : Int) (wrap64 (x12_1 + 1))) else (none)) = some r := by rw [if_neg (show ¬ (false = true) by decide)] at H; exact H
         clear H
         have H := H1
         clear H1
         by_cases c18 : x5_1.length < 17592186044416
         ·rw [if_pos c18] at H
          have LMc18 := Aside0.mk c18
          clear c18
          obtain ⟨y921, hy921⟩ : ∃ y_ : List Int, y_ = (x5_1 ++ [(rd_T55 l0_1 x12_1).f1]) := ⟨_, rfl⟩
          replace H : (impl_Flow_openFrom.l0 k1 a1 y921 l0_1 (l0_1.length : Int) (wrap64 (x12_1 + 1))) = some r := by first | (rw [hy921]; with_reducible exact H) | (have H2_ := (Option.bind_some _ _).symm.trans H; rw [hy921]; with_reducible exact H2_) | (have H2_ := (Option.bind_some _ _).symm.trans H; with_reducible exact H2_) | with_reducible exact H | (rw [hy921]; exact H) | exact H
          have Ny921 := Aside0.mk hy921
          clear hy921
          have H' := Aside0.mk H
          clear H
          have p918 : 0 ≤ (x12_1 : Int) := of_decide_eq_true (by first | (with_reducible assumption) | assumption)
          have q918 : x12_1 < (l0_1.length : Int) := of_decide_eq_true (by first | (with_reducible assumption) | assumption)
          obtain ⟨ad918, e918, hx918_0, hx918_1, hx918_2⟩ := at_T55 HR0_1.out x12_1 p918 q918
          cases e918
          replace hx918_0 := (HB.out.cell (World.block_lt_of_cell? w _ hx918_0)).trans hx918_0
          replace hx918_1 := (HB.out.cell (World.block_lt_of_cell? w _ hx918_1)).trans hx918_1
          replace hx918_2 := (HB.out.cell (World.block_lt_of_cell? w _ hx918_2)).trans hx918_2
          replace p918 := eq_true p918
          replace q918 := eq_true q918
          go_wp2_with (first | ((with_reducible refine gate_dst (N := 7) rfl ?_); refine box_event ?hg (N := 7) ?hd (cs := #[.int .i64 0, .int .i64 0, .int .i64 0]) (t := 55) ?hr ?_; (case hd => rfl); (case hg => rfl); (case hr => first | (go_simp; done) | (go_simp; rfl)); intro gb919 hg w19 hbox hb; have n0_ := Aside0.mk (Kd.R_below (by (with_reducible repeat (first | apply Kd.R_alloc | apply Kd.R_drewN | apply Kd.R_drew)); exact HO_5.out) hb); have n1_ := Aside0.mk (blk_below (g := gb914) (o := .cells #[.slice A0_0 l0_0.length c0_0, .slice (some ad918) l0_1.length c0_1] 36 (0, 0)) (by (with_reducible repeat (first | refine blk_drewN ?_ _ | refine blk_drew ?_ | refine blk_alloc ?_ _)); exact BK914.out) hb); have n2_ := Aside0.mk (below_step (by repeat (first | (with_reducible first | exact HB.out | apply below_alloc | apply pw_below_drewN | apply below_drew1 | refine below_set ?_ GE914.out) | exact HB.out)) hb); have n3_ := Aside0.mk (hbox); have n4_ := Aside0.mk ((by rw [hg]; exact (below_size (by repeat (first | (with_reducible first | exact HB.out | apply below_alloc | apply pw_below_drewN | apply below_drew1 | refine below_set ?_ GE914.out) | exact HB.out))) : w.heap.size ≤ gb919)); have n5_ := Aside0.mk ((by rw [hg]; exact (below_size (by repeat (first | (with_reducible first | exact HB.out | apply below_alloc | apply pw_below_drewN | apply below_drew1 | refine below_set ?_ GE914.out) | exact HB.out))) : w.heap.size ≤ gb919)); have n6_ := Aside0.mk ((by rw [hg]; exact Nat.ne_of_lt (blk_lt (g := gb914) (o := .cells #[.slice A0_0 l0_0.length c0_0, .slice (some ad918) l0_1.length c0_1] 36 (0, 0)) (by (with_reducible repeat (first | refine blk_drewN ?_ _ | refine blk_drew ?_ | refine blk_alloc ?_ _)); exact BK914.out)) : gb914 ≠ gb919)); have n7_ := Aside0.mk ((by rw [hg]; exact Nat.ne_of_gt (blk_lt (g := gb914) (o := .cells #[.slice A0_0 l0_0.length c0_0, .slice (some ad918) l0_1.length c0_1] 36 (0, 0)) (by (with_reducible repeat (first | refine blk_drewN ?_ _ | refine blk_drew ?_ | refine blk_alloc ?_ _)); exact BK914.out)) : gb919 ≠ gb914)); clear HO_5; clear BK914; clear HB; have HO_5 := n0_; have BK914 := n1_; have HB := n2_; have BK919 := n3_; have GW919 := n4_; have GE919 := n5_; have NB914_919 := n6_; have NB919_914 := n7_; clear n0_ n1_ n2_ n3_ n4_ n5_ n6_ n7_; clear hb hbox hg; have hnb20 := NB919_914.out; have hnc20 := NB914_919.out; have hcz21_0 : w19.cell? ⟨gb919, 0, none⟩ = some (.int .i64 0) := (blk_cell BK919.out 0).trans rfl; have hcz21_1 : w19.cell? ⟨gb919, 1, none⟩ = some (.int .i64 0) := (blk_cell BK919.out 1).trans rfl; have hcz21_2 : w19.cell? ⟨gb919, 2, none⟩ = some (.int .i64 0) := (blk_cell BK919.out 2).trans rfl; have hfz21_0 := blk_frozen BK919.out 0; have hfz21_1 := blk_frozen BK919.out 1; have hfz21_2 := blk_frozen BK919.out 2; obtain ⟨Ao22, co22, eo22⟩ := Kd.R_slice HO_5.out; subst eo22) | (go_at_call 95; (with_reducible refine (slices_Contains_int64_int64.calls k1 _ _ x5_1 ((rd_T55 l0_1 x12_1).f1) false _ ?side1 ?side2 A12.out).mono ?_); (case side1 => refine (Kd.R_reads' (e := 2) (base := w.heap.size) (ok := fun k_ => True) (n := x5_1.length) (c := co22) ?_).2.2; exact (by (with_reducible repeat (first | apply Kd.R_alloc | apply Kd.R_drewN | apply Kd.R_drew)); exact (Kd.R_mono (Kd.R_far (p := ⟨gb919, 2, none⟩) (Kd.R_far (p := ⟨gb919, 1, none⟩) (Kd.R_far (p := ⟨gb919, 0, none⟩) (Kd.R_types HO_5.out BK919.out (by decide)) (fun _ hk => hk.2) (.int .i64 ((rd_T55 l0_1 x12_1).f0))) (fun _ hk => hk.2) (.int .i64 ((rd_T55 l0_1 x12_1).f1))) (fun _ hk => hk.2) (.int .i64 ((rd_T55 l0_1 x12_1).f2))) (fun _ h_ => h_.1)))); (case side2 => first | exact trivial | (exact (Kd.R_reads' HO_5.out).2.1)); rintro e w' ⟨rfl, ⟨nd, rfl⟩⟩) | ((with_reducible refine gate_builtin (b := .append) (xs := #[.tmp 32, .tmp 35]) rfl ?_); at_builtin; refine Kd.R_append (Kd.int .i64) (w0 := w) w.heap.size rfl (.tmp 32) (.tmp 35) 22 2 (.int .i64 0) 8 rfl Try.underlying22 info2 rfl (by decide) (by omega) (.slice Ao22 x5_1.length co22) x5_1 ((rd_T55 l0_1 x12_1).f1) [.int .i64 ((rd_T55 l0_1 x12_1).f1)] (fun _ => True) (fun _ => False) rfl (by first | (go_simp; done) | (go_simp; rfl)) ?aP (fun _ hk => hk.elim) ?aF ?aO ?aB ?aS ?aL ?_; (case aP => exact rfl); (case aB => exact (by repeat (first | (with_reducible first | exact HB.out | apply below_alloc | apply pw_below_drewN | apply below_drew1 | refine below_set ?_ GE914.out | refine below_set ?_ GE919.out) | exact HB.out))); (case aF => exact (fun _ _ => trivial)); (case aO => exact (by (with_reducible repeat (first | apply Kd.R_alloc | apply Kd.R_drewN | apply Kd.R_drew)); exact Kd.R_mono (Kd.R_far (p := ⟨gb919, 2, none⟩) (Kd.R_far (p := ⟨gb919, 1, none⟩) (Kd.R_far (p := ⟨gb919, 0, none⟩) (Kd.R_types HO_5.out BK919.out (by decide)) (fun _ hk => hk.2) (.int .i64 ((rd_T55 l0_1 x12_1).f0))) (fun _ hk => hk.2) (.int .i64 ((rd_T55 l0_1 x12_1).f1))) (fun _ hk => hk.2) (.int .i64 ((rd_T55 l0_1 x12_1).f2))) (fun _ hk => trivial))); (case aS => exact (below_size (by repeat (first | (with_reducible first | exact HB.out | apply below_alloc | apply pw_below_drewN | apply below_drew1 | refine below_set ?_ GE914.out | refine below_set ?_ GE919.out) | exact HB.out)))); (case aL => have := LMc18.out; omega); intro v922 w23 ho hb hg hat; rw [← Ny921.out] at ho; have n0_ := Aside0.mk (blk_grown (g := gb914) (o := .cells #[.slice A0_0 l0_0.length c0_0, .slice (some ad918) l0_1.length c0_1] 36 (0, 0)) (by (with_reducible repeat (first | refine blk_drewN ?_ _ | refine blk_drew ?_ | refine blk_alloc ?_ _)); refine blk_far ?_ NB914_919.out _; (with_reducible repeat (first | refine blk_drewN ?_ _ | refine blk_drew ?_ | refine blk_alloc ?_ _)); refine blk_far ?_ NB914_919.out _; (with_reducible repeat (first | refine blk_drewN ?_ _ | refine blk_drew ?_ | refine blk_alloc ?_ _)); refine blk_far ?_ NB914_919.out _; (with_reducible repeat (first | refine blk_drewN ?_ _ | refine blk_drew ?_ | refine blk_alloc ?_ _)); exact BK914.out) hg (Kd.R_ne HO_5.out BK914.out (by decide))); have n1_ := Aside0.mk (blk_grown (g := gb919) (o := .cells #[.int .i64 ((rd_T55 l0_1 x12_1).f0), .int .i64 ((rd_T55 l0_1 x12_1).f1), .int .i64 ((rd_T55 l0_1 x12_1).f2)] 55 (0, 0)) (by (with_reducible repeat (first | refine blk_drewN ?_ _ | refine blk_drew ?_ | refine blk_alloc ?_ _)); refine blk_put (cs := #[.int .i64 ((rd_T55 l0_1 x12_1).f0), .int .i64 ((rd_T55 l0_1 x12_1).f1), .int .i64 0]) ?_ 2 _ rfl; (with_reducible repeat (first | refine blk_drewN ?_ _ | refine blk_drew ?_ | refine blk_alloc ?_ _)); refine blk_put (cs := #[.int .i64 ((rd_T55 l0_1 x12_1).f0), .int .i64 0, .int .i64 0]) ?_ 1 _ rfl; (with_reducible repeat (first | refine blk_drewN ?_ _ | refine blk_drew ?_ | refine blk_alloc ?_ _)); refine blk_put (cs := #[.int .i64 0, .int .i64 0, .int .i64 0]) ?_ 0 _ rfl; (with_reducible repeat (first | refine blk_drewN ?_ _ | refine blk_drew ?_ | refine blk_alloc ?_ _)); exact BK919.out) hg (Kd.R_ne HO_5.out BK919.out (by decide))); have n2_ := Aside0.mk (hb); have n3_ := Aside0.mk (ho); clear BK914; clear BK919; clear HB; clear HO_5; have BK914 := n0_; have BK919 := n1_; have HB := n2_; have HO923 := n3_; clear n0_ n1_ n2_ n3_; clear ho hb hg hat))
          go_roundg k1
          case measure => have := HK1.out; omega
          case rel => exact ⟨(y921), (wrap64 (x12_1 + 1)), (by first | rfl | (simp; done) | (simp [*]; done)), H', ⟨by have := HK1.out; omega⟩, ⟨by (with_reducible repeat (first | apply Kd.R_alloc | apply Kd.R_drewN | apply Kd.R_drew)); exact HO923.out⟩, ⟨by (with_reducible repeat (first | refine blk_drewN ?_ _ | refine blk_drew ?_ | refine blk_alloc ?_ _)); exact BK914.out⟩, ⟨by repeat (first | (with_reducible first | exact HB.out | apply below_alloc | apply pw_below_drewN | apply below_drew1 | refine below_set ?_ GE914.out | refine below_set ?_ GE919.out) | exact HB.out)⟩⟩
         ·rw [if_neg c18] at H
          exact absurd H (by simp)
       ·rw [if_neg c11] at H
        have c11b0 : (((rd_T55 l0_1 x12_1).f2) == 0) = false := beq_eq_false_iff_ne.mpr c11
        have c11b1 : (((rd_T55 l0_1 x12_1).f2) != 0) = true := bne_iff_ne.mpr c11
        have H' := Aside0.mk H
        clear H
        have p918 : 0 ≤ (x12_1 : Int) := of_decide_eq_true (by first | (with_reducible assumption) | assumption)
        have q918 : x12_1 < (l0_1.length : Int) := of_decide_eq_true (by first | (with_reducible assumption) | assumption)
        obtain ⟨ad918, e918, hx918_0, hx918_1, hx918_2⟩ := at_T55 HR0_1.out x12_1 p918 q918
        cases e918
        replace hx918_0 := (HB.out.cell (World.block_lt_of_cell? w _ hx918_0)).trans hx918_0
        replace hx918_1 := (HB.out.cell (World.block_lt_of_cell? w _ hx918_1)).trans hx918_1
        replace hx918_2 := (HB.out.cell (World.block_lt_of_cell? w _ hx918_2)).trans hx918_2
        replace p918 := eq_true p918
        replace q918 := eq_true q918
        go_wp2_with (first | ((with_reducible refine gate_dst (N := 7) rfl ?_); refine box_event ?hg (N := 7) ?hd (cs := #[.int .i64 0, .int .i64 0, .int .i64 0]) (t := 55) ?hr ?_; (case hd => rfl); (case hg => rfl); (case hr => first | (go_simp; done) | (go_simp; rfl)); intro gb919 hg w24 hbox hb; have n0_ := Aside0.mk (Kd.R_below (by (with_reducible repeat (first | apply Kd.R_alloc | apply Kd.R_drewN | apply Kd.R_drew)); exact HO_5.out) hb); have n1_ := Aside0.mk (blk_below (g := gb914) (o := .cells #[.slice A0_0 l0_0.length c0_0, .slice (some ad918) l0_1.length c0_1] 36 (0, 0)) (by (with_reducible repeat (first | refine blk_drewN ?_ _ | refine blk_drew ?_ | refine blk_alloc ?_ _)); exact BK914.out) hb); have n2_ := Aside0.mk (below_step (by repeat (first | (with_reducible first | exact HB.out | apply below_alloc | apply pw_below_drewN | apply below_drew1 | refine below_set ?_ GE914.out) | exact HB.out)) hb); have n3_ := Aside0.mk (hbox); have n4_ := Aside0.mk ((by rw [hg]; exact (below_size (by repeat (first | (with_reducible first | exact HB.out | apply below_alloc | apply pw_below_drewN | apply below_drew1 | refine below_set ?_ GE914.out) | exact HB.out))) : w.heap.size ≤ gb919)); have n5_ := Aside0.mk ((by rw [hg]; exact (below_size (by repeat (first | (with_reducible first | exact HB.out | apply below_alloc | apply pw_below_drewN | apply below_drew1 | refine below_set ?_ GE914.out) | exact HB.out))) : w.heap.size ≤ gb919)); have n6_ := Aside0.mk ((by rw [hg]; exact Nat.ne_of_lt (blk_lt (g := gb914) (o := .cells #[.slice A0_0 l0_0.length c0_0, .slice (some ad918) l0_1.length c0_1] 36 (0, 0)) (by (with_reducible repeat (first | refine blk_drewN ?_ _ | refine blk_drew ?_ | refine blk_alloc ?_ _)); exact BK914.out)) : gb914 ≠ gb919)); have n7_ := Aside0.mk ((by rw [hg]; exact Nat.ne_of_gt (blk_lt (g := gb914) (o := .cells #[.slice A0_0 l0_0.length c0_0, .slice (some ad918) l0_1.length c0_1] 36 (0, 0)) (by (with_reducible repeat (first | refine blk_drewN ?_ _ | refine blk_drew ?_ | refine blk_alloc ?_ _)); exact BK914.out)) : gb919 ≠ gb914)); clear HO_5; clear BK914; clear HB; have HO_5 := n0_; have BK914 := n1_; have HB := n2_; have BK919 := n3_; have GW919 := n4_; have GE919 := n5_; have NB914_919 := n6_; have NB919_914 := n7_; clear n0_ n1_ n2_ n3_ n4_ n5_ n6_ n7_; clear hb hbox hg; have hnb25 := NB919_914.out; have hnc25 := NB914_919.out; have hcz26_0 : w24.cell? ⟨gb919, 0, none⟩ = some (.int .i64 0) := (blk_cell BK919.out 0).trans rfl; have hcz26_1 : w24.cell? ⟨gb919, 1, none⟩ = some (.int .i64 0) := (blk_cell BK919.out 1).trans rfl; have hcz26_2 : w24.cell? ⟨gb919, 2, none⟩ = some (.int .i64 0) := (blk_cell BK919.out 2).trans rfl; have hfz26_0 := blk_frozen BK919.out 0; have hfz26_1 := blk_frozen BK919.out 1; have hfz26_2 := blk_frozen BK919.out 2))
        go_roundg k1
        case measure => have := HK1.out; omega
        case rel => exact ⟨(x5_1), (wrap64 (x12_1 + 1)), (by first | rfl | (simp; done) | (simp [*]; done)), H', ⟨by have := HK1.out; omega⟩, ⟨by (with_reducible repeat (first | apply Kd.R_alloc | apply Kd.R_drewN | apply Kd.R_drew)); exact Kd.R_mono (Kd.R_far (p := ⟨gb919, 2, none⟩) (Kd.R_far (p := ⟨gb919, 1, none⟩) (Kd.R_far (p := ⟨gb919, 0, none⟩) (Kd.R_types HO_5.out BK919.out (by decide)) (fun _ hk => hk.2) (.int .i64 ((rd_T55 l0_1 x12_1).f0))) (fun _ hk => hk.2) (.int .i64 ((rd_T55 l0_1 x12_1).f1))) (fun _ hk => hk.2) (.int .i64 ((rd_T55 l0_1 x12_1).f2))) (fun _ hk => trivial)⟩, ⟨by (with_reducible repeat (first | refine blk_drewN ?_ _ | refine blk_drew ?_ | refine blk_alloc ?_ _)); refine blk_far ?_ NB914_919.out _; (with_reducible repeat (first | refine blk_drewN ?_ _ | refine blk_drew ?_ | refine blk_alloc ?_ _)); refine blk_far ?_ NB914_919.out _; (with_reducible repeat (first | refine blk_drewN ?_ _ | refine blk_drew ?_ | refine blk_alloc ?_ _)); refine blk_far ?_ NB914_919.out _; (with_reducible repeat (first | refine blk_drewN ?_ _ | refine blk_drew ?_ | refine blk_alloc ?_ _)); exact BK914.out⟩, ⟨by repeat (first | (with_reducible first | exact HB.out | apply below_alloc | apply pw_below_drewN | apply below_drew1 | refine below_set ?_ GE914.out | refine below_set ?_ GE919.out) | exact HB.out)⟩⟩
      ·rw [if_neg c10] at H
       have c10b0 : (((rd_T55 l0_1 x12_1).f0) == a1) = false := beq_eq_false_iff_ne.mpr c10
       have c10b1 : (((rd_T55 l0_1 x12_1).f0) != a1) = true := bne_iff_ne.mpr c10
       have H' := Aside0.mk H
       clear H
       have p918 : 0 ≤ (x12_1 : Int) := of_decide_eq_true (by first | (with_reducible assumption) | assumption)
       have q918 : x12_1 < (l0_1.length : Int) := of_decide_eq_true (by first | (with_reducible assumption) | assumption)
       obtain ⟨ad918, e918, hx918_0, hx918_1, hx918_2⟩ := at_T55 HR0_1.out x12_1 p918 q918
       cases e918
       replace hx918_0 := (HB.out.cell (World.block_lt_of_cell? w _ hx918_0)).trans hx918_0
       replace hx918_1 := (HB.out.cell (World.block_lt_of_cell? w _ hx918_1)).trans hx918_1
       replace hx918_2 := (HB.out.cell (World.block_lt_of_cell? w _ hx918_2)).trans hx918_2
       replace p918 := eq_true p918
       replace q918 := eq_true q918
       go_wp2_with (first | ((with_reducible refine gate_dst (N := 7) rfl ?_); refine box_event ?hg (N := 7) ?hd (cs := #[.int .i64 0, .int .i64 0, .int .i64 0]) (t := 55) ?hr ?_; (case hd => rfl); (case hg => rfl); (case hr => first | (go_simp; done) | (go_simp; rfl)); intro gb919 hg w27 hbox hb; have n0_ := Aside0.mk (Kd.R_below (by (with_reducible repeat (first | apply Kd.R_alloc | apply Kd.R_drewN | apply Kd.R_drew)); exact HO_5.out) hb); have n1_ := Aside0.mk (blk_below (g := gb914) (o := .cells #[.slice A0_0 l0_0.length c0_0, .slice (some ad918) l0_1.length c0_1] 36 (0, 0)) (by (with_reducible repeat (first | refine blk_drewN ?_ _ | refine blk_drew ?_ | refine blk_alloc ?_ _)); exact BK914.out) hb); have n2_ := Aside0.mk (below_step (by repeat (first | (with_reducible first | exact HB.out | apply below_alloc | apply pw_below_drewN | apply below_drew1 | refine below_set ?_ GE914.out) | exact HB.out)) hb); have n3_ := Aside0.mk (hbox); have n4_ := Aside0.mk ((by rw [hg]; exact (below_size (by repeat (first | (with_reducible first | exact HB.out | apply below_alloc | apply pw_below_drewN | apply below_drew1 | refine below_set ?_ GE914.out) | exact HB.out))) : w.heap.size ≤ gb919)); have n5_ := Aside0.mk ((by rw [hg]; exact (below_size (by repeat (first | (with_reducible first | exact HB.out | apply below_alloc | apply pw_below_drewN | apply below_drew1 | refine below_set ?_ GE914.out) | exact HB.out))) : w.heap.size ≤ gb919)); have n6_ := Aside0.mk ((by rw [hg]; exact Nat.ne_of_lt (blk_lt (g := gb914) (o := .cells #[.slice A0_0 l0_0.length c0_0, .slice (some ad918) l0_1.length c0_1] 36 (0, 0)) (by (with_reducible repeat (first | refine blk_drewN ?_ _ | refine blk_drew ?_ | refine blk_alloc ?_ _)); exact BK914.out)) : gb914 ≠ gb919)); have n7_ := Aside0.mk ((by rw [hg]; exact Nat.ne_of_gt (blk_lt (g := gb914) (o := .cells #[.slice A0_0 l0_0.length c0_0, .slice (some ad918) l0_1.length c0_1] 36 (0, 0)) (by (with_reducible repeat (first | refine blk_drewN ?_ _ | refine blk_drew ?_ | refine blk_alloc ?_ _)); exact BK914.out)) : gb919 ≠ gb914)); clear HO_5; clear BK914; clear HB; have HO_5 := n0_; have BK914 := n1_; have HB := n2_; have BK919 := n3_; have GW919 := n4_; have GE919 := n5_; have NB914_919 := n6_; have NB919_914 := n7_; clear n0_ n1_ n2_ n3_ n4_ n5_ n6_ n7_; clear hb hbox hg; have hnb28 := NB919_914.out; have hnc28 := NB914_919.out; have hcz29_0 : w27.cell? ⟨gb919, 0, none⟩ = some (.int .i64 0) := (blk_cell BK919.out 0).trans rfl; have hcz29_1 : w27.cell? ⟨gb919, 1, none⟩ = some (.int .i64 0) := (blk_cell BK919.out 1).trans rfl; have hcz29_2 : w27.cell? ⟨gb919, 2, none⟩ = some (.int .i64 0) := (blk_cell BK919.out 2).trans rfl; have hfz29_0 := blk_frozen BK919.out 0; have hfz29_1 := blk_frozen BK919.out 1; have hfz29_2 := blk_frozen BK919.out 2))
       go_roundg k1
       case measure => have := HK1.out; omega
       case rel => exact ⟨(x5_1), (wrap64 (x12_1 + 1)), (by first | rfl | (simp; done) | (simp [*]; done)), H', ⟨by have := HK1.out; omega⟩, ⟨by (with_reducible repeat (first | apply Kd.R_alloc | apply Kd.R_drewN | apply Kd.R_drew)); exact Kd.R_mono (Kd.R_far (p := ⟨gb919, 2, none⟩) (Kd.R_far (p := ⟨gb919, 1, none⟩) (Kd.R_far (p := ⟨gb919, 0, none⟩) (Kd.R_types HO_5.out BK919.out (by decide)) (fun _ hk => hk.2) (.int .i64 ((rd_T55 l0_1 x12_1).f0))) (fun _ hk => hk.2) (.int .i64 ((rd_T55 l0_1 x12_1).f1))) (fun _ hk => hk.2) (.int .i64 ((rd_T55 l0_1 x12_1).f2))) (fun _ hk => trivial)⟩, ⟨by (with_reducible repeat (first | refine blk_drewN ?_ _ | refine blk_drew ?_ | refine blk_alloc ?_ _)); refine blk_far ?_ NB914_919.out _; (with_reducible repeat (first | refine blk_drewN ?_ _ | refine blk_drew ?_ | refine blk_alloc ?_ _)); refine blk_far ?_ NB914_919.out _; (with_reducible repeat (first | refine blk_drewN ?_ _ | refine blk_drew ?_ | refine blk_alloc ?_ _)); refine blk_far ?_ NB914_919.out _; (with_reducible repeat (first | refine blk_drewN ?_ _ | refine blk_drew ?_ | refine blk_alloc ?_ _)); exact BK914.out⟩, ⟨by repeat (first | (with_reducible first | exact HB.out | apply below_alloc | apply pw_below_drewN | apply below_drew1 | refine below_set ?_ GE914.out | refine below_set ?_ GE919.out) | exact HB.out)⟩⟩
     ·rw [if_neg c9] at H
      exact absurd H (by simp)
    ·rw [if_neg c8] at H
     exact absurd H (by simp)
   ·rw [if_neg c7] at H
    have c7b0 : decide (x12_1 < (l0_1.length : Int)) = false := decide_eq_false c7
    clear c7
    obtain rfl := Option.some.inj H
    go_wp2
    go_ret
    exact ⟨_, by first | rfl | (simp [errW_none, errW_some] <;> rfl) | (simp [*, errW_none, errW_some] <;> rfl), by (with_reducible repeat (first | apply Kd.R_alloc | apply Kd.R_drewN | apply Kd.R_drew)); exact HO_5.out, by repeat (first | (with_reducible first | exact HB.out | apply below_alloc | apply pw_below_drewN | apply below_drew1 | refine below_set ?_ GE914.out) | exact HB.out)⟩
end Go.Proofs.Ytojpibpjieanhaa.X
end
section
namespace Go.Proofs.Ytojpibpjieanhaa.X
open Go.RowKit Go.Proofs.YtojpibpjieanhaaW.PrintWords Go.Proofs.YtojpibpjieanhaaW.PrintLast Go.Proofs.YtojpibpjieanhaaW.PrintMore
set_option linter.unusedVariables false
set_option linter.unusedSimpArgs false
def updS (K : Nat) (T : Int) (p b : List Int) (t : Int) : Option (List Int) := if (t == T) = true then (if ((b.length : Int) == 0) = true then some p else if (p.length : Int) < b.length then some p else if ((p.length : Int) == (b.length : Int)) = true then (slices_Compare_int64_int64.f K p b).bind fun c => if c < 0 then some p else some b else some b) else some b
def extN (rec : List Int → Int → List Int → Option (List Int)) (d p : List Int) (t : Int) (outs : List Int) : Nat → Nat → List Int → Option (List Int)
  | 0, _, b => some b
  | e + 1, i, b => if 0 ≤ rd outs (i : Int) ∧ rd outs (i : Int) < d.length then (rec (p ++ [rd outs (i : Int)]) (wrap64 (t + rd d (rd outs (i : Int)))) b).bind fun b' => extN rec d p t outs e (i + 1) b' else none
def extF (K : Nat) (d : List Int) (ws : List S55) (T : Int) : Nat → List Int → Int → List Int → Option (List Int)
  | 0, _, _, _ => none
  | k + 1, p, t, b => if 1 ≤ p.length ∧ p.length ≤ 1000000 ∧ d.length ≤ 1000000 then (updS K T p b t).bind fun b1 => (impl_Flow_openFrom.f K d ws (rd p ((p.length : Int) - 1))).bind fun outs => if outs.length ≤ 1000000 then extN (extF K d ws T k) d p t outs outs.length 0 b1 else none else none
structure ExtW (w0 : World) (d : List Int) (ws : List S55) (T : Int) (g2 g3 g4 g5 : Nat) (A0 : Option Addr) (c0 : Nat) (A1 : Option Addr) (c1 : Nat) (b : List Int) (w : World) : Prop where
  b2 : w.heap[g2]? = some (.cells #[.int .i64 T] 2 (0, 0))
  b3 : ∃ A c, w.heap[g3]? = some (.cells #[.slice A b.length c] 22 (0, 0)) ∧ Kd.R (Kd.int .i64) 2 w w0.heap.size (fun k => k ≠ g3) (.slice A b.length c) b
  b4 : w.heap[g4]? = some (.cells #[.slice A0 d.length c0, .slice A1 ws.length c1] 36 (0, 0))
  b5 : w.heap[g5]? = some (.cells #[.func (.func 67) #[] #[.pointer (some ⟨g2, 0, none⟩), .pointer (some ⟨g3, 0, none⟩), .pointer (some ⟨g4, 0, none⟩), .pointer (some ⟨g5, 0, none⟩)]] 84 (0, 0))
  h3 : w0.heap.size ≤ g3
  bel : Below w0.heap.size w0 w
variable {w0 w w1 : World} {d : List Int} {ws : List S55} {T : Int} {g2 g3 g4 g5 : Nat} {A0 : Option Addr} {c0 : Nat} {A1 : Option Addr} {c1 : Nat} {b b' : List Int}
theorem ExtW.move (h : ExtW w0 d ws T g2 g3 g4 g5 A0 c0 A1 c1 b w) (hb : Below w.heap.size w w1) : ExtW w0 d ws T g2 g3 g4 g5 A0 c0 A1 c1 b w1 := by
  obtain ⟨A, c, q1, q2⟩ := h.b3
  exact ⟨blk_below h.b2 hb, ⟨A, c, blk_below q1 hb, Kd.R_below q2 hb⟩, blk_below h.b4 hb, blk_below h.b5 hb, h.h3, below_step h.bel hb⟩
theorem ExtW.put (h : ExtW w0 d ws T g2 g3 g4 g5 A0 c0 A1 c1 b w) {A : Option Addr} {c : Nat} (hR : Kd.R (Kd.int .i64) 2 w w0.heap.size (fun _ => True) (.slice A b'.length c) b') : ExtW w0 d ws T g2 g3 g4 g5 A0 c0 A1 c1 b' (w.setCell ⟨g3, 0, none⟩ (.slice A b'.length c)) := by
  obtain ⟨A', c', q1, q2⟩ := h.b3
  refine ⟨blk_far h.b2 (p := ⟨g3, 0, none⟩) (blk_ne h.b2 q1 (by decide)) _, ⟨A, c, blk_put q1 0 _ rfl, ?_⟩, blk_far h.b4 (p := ⟨g3, 0, none⟩) (blk_ne h.b4 q1 (by decide)) _, blk_far h.b5 (p := ⟨g3, 0, none⟩) (blk_ne h.b5 q1 (by decide)) _, h.h3, h.bel.setCell (p := ⟨g3, 0, none⟩) h.h3 _⟩
  exact Kd.R_mono (Kd.R_far (p := ⟨g3, 0, none⟩) (Kd.R_types hR q1 (by decide)) (fun _ hk => hk.2) _) (fun _ hk => hk.2)
def ExtP (w0 : World) (d : List Int) (ws : List S55) (T : Int) (g2 g3 g4 g5 : Nat) (A0 : Option Addr) (c0 : Nat) (A1 : Option Addr) (c1 : Nat) (b : List Int) (w w' : World) : Prop := ExtW w0 d ws T g2 g3 g4 g5 A0 c0 A1 c1 b w' ∧ Kept w w' (fun k => k = g3)
theorem ok3 (h : ExtW w0 d ws T g2 g3 g4 g5 A0 c0 A1 c1 b w) {v : Value} {l : List Int} (hR : Kd.R (Kd.int .i64) 2 w w0.heap.size (fun _ => True) v l) : Kd.R (Kd.int .i64) 2 w w0.heap.size (fun k => k ≠ g3) v l := by
  obtain ⟨A', c', q1, q2⟩ := h.b3
  exact Kd.R_mono (Kd.R_types hR q1 (by decide)) (fun _ hk => hk.2)
theorem extk {ad : Addr} {n x : Nat} {dx : Int} {W : World} (hr0 : Kd.C (Kd.int .i64) w0 (some ad) d.length d) (h : ExtW w0 d ws T g2 g3 g4 g5 (some ad) c0 A1 c1 b W) (hn : n = d.length) (hx : x < n) (hd : dx = rd d (x : Int)) :
    W.cell? ⟨g5, 0, none⟩ = some (.func (.func 67) #[] #[.pointer (some ⟨g2, 0, none⟩), .pointer (some ⟨g3, 0, none⟩), .pointer (some ⟨g4, 0, none⟩), .pointer (some ⟨g5, 0, none⟩)]) ∧ W.cell? ⟨g4, 0, none⟩ = some (.slice (some ad) n c0) ∧ W.cell? (ad.add x) = some (.int .i64 dx) := by
  obtain ⟨ad', hA, dA⟩ := Kd.at_int (Kd.C_below hr0 h.bel) (x : Int) (by omega) (by omega)
  cases hA
  rw [Int.toNat_natCast, ← hd] at dA
  exact ⟨(blk_cell h.b5 0).trans rfl, (blk_cell h.b4 0).trans (by rw [hn]; rfl), dA⟩
set_option maxHeartbeats 16000000 in
set_option maxRecDepth 100000 in
theorem ext_walk (K : Nat) (hr0 : Kd.C (Kd.int .i64) w0 A0 d.length d) (hr1 : Kd.C k55 w0 A1 ws.length ws) (hc0 : d.length ≤ c0) (hc1 : ws.length ≤ c1) : ∀ (k : Nat) (p : List Int) (t : Int) (A : Option Addr) (c : Nat) (b b' : List Int) (w : World), ExtW w0 d ws T g2 g3 g4 g5 A0 c0 A1 c1 b w → Kd.R (Kd.int .i64) 2 w w0.heap.size (fun k => k ≠ g3) (.slice A p.length c) p → extF K d ws T k p t b = some b' →
    Calls Try.prog 67 #[.slice A p.length c, .int .i64 t, .pointer (some ⟨g2, 0, none⟩), .pointer (some ⟨g3, 0, none⟩), .pointer (some ⟨g4, 0, none⟩), .pointer (some ⟨g5, 0, none⟩)] w fun e w' => e = .returned (.tuple #[]) ∧ ExtP w0 d ws T g2 g3 g4 g5 A0 c0 A1 c1 b' w w' := by
  intro k
  induction k with
  | zero => intro p t A c b b' w _ _ h; simp [extF] at h
  | succ k ih =>
  intro p t A c b b' w hI hR hF
  have HIH := Aside0.mk ih
  have HI := Aside0.mk hI
  have HR := Aside0.mk hR
  have HR0 := Aside0.mk hr0
  have HR1 := Aside0.mk hr1
  have HC0 := Aside0.mk hc0
  have HC1 := Aside0.mk hc1
  rw [extF] at hF
  by_cases hl : 1 ≤ p.length ∧ p.length ≤ 1000000 ∧ d.length ≤ 1000000
  case neg => rw [if_neg hl] at hF; cases hF
  rw [if_pos hl] at hF
  obtain ⟨b1, hU, hF⟩ := Option.bind_eq_some_iff.mp hF
  obtain ⟨outs, hO, hF⟩ := Option.bind_eq_some_iff.mp hF
  by_cases hol : outs.length ≤ 1000000
  case neg => rw [if_neg hol] at hF; cases hF
  rw [if_pos hol] at hF
  have HU := Aside0.mk hU
  have HO := Aside0.mk hO
  have HF := Aside0.mk hF
  obtain ⟨L, hL⟩ : ∃ L, L = p.length := ⟨_, rfl⟩
  have HL := Aside0.mk hL
  rw [← hL] at hl HR ⊢
  obtain ⟨hl1, hl2, hn⟩ := hl
  obtain ⟨n, hn0⟩ : ∃ n, n = d.length := ⟨_, rfl⟩
  have HN0 := Aside0.mk hn0
  obtain ⟨m, hm0⟩ : ∃ m, m = ws.length := ⟨_, rfl⟩
  have HM0 := Aside0.mk hm0
  rw [← hn0] at hn
  obtain ⟨lb, hlb⟩ : ∃ lb, lb = b.length := ⟨_, rfl⟩
  have HLB := Aside0.mk hlb
  obtain ⟨A3, c3, q3, q3R⟩ := hI.b3
  rw [← hlb] at q3 q3R
  have Q3 := Aside0.mk q3
  have Q3R := Aside0.mk q3R
  have k2 : w.cell? ⟨g2, 0, none⟩ = some (.int .i64 T) := (blk_cell hI.b2 0).trans rfl
  have k3 : w.cell? ⟨g3, 0, none⟩ = some (.slice A3 lb c3) := (blk_cell q3 0).trans rfl
  have z3 := blk_frozen q3 0
  clear hI hR hr0 hr1 hc0 hc1 ih hL hn0 hm0 hlb q3 q3R hU hO hF
  go_enter Try.func67, Try.ntmps67
  go_upto_region 0 with (fail)
  go_cut [37] (fun v37 wc => ∃ s : Bool, v37 = .bool s ∧ Aside0 (b1 = if s = true then p else b) ∧ Aside0 (ExtW w0 d ws T g2 g3 g4 g5 A0 c0 A1 c1 b wc) ∧ Aside0 (Below w.heap.size w wc))
  case first =>
    have hU := HU.out
    clear HU HF HO
    unfold updS at hU
    rw [← HL.out, ← HLB.out] at hU
    cases hv : (t == T) with
    | false =>
      have HE : Aside0 (b1 = if false = true then p else b) := ⟨by rw [hv, if_neg (by decide)] at hU; injection hU with h; rw [if_neg (by decide)]; exact h.symm⟩
      clear hU
      go_wp2
      go_meet
      exact ⟨false, rfl, HE, ⟨HI.out⟩, ⟨Below.refl _ _⟩⟩
    | true =>
      rw [hv, if_pos rfl] at hU
      cases hz : ((lb : Int) == 0) with
      | true =>
        have HE : Aside0 (b1 = if true = true then p else b) := ⟨by rw [hz, if_pos rfl] at hU; injection hU with h; rw [if_pos rfl]; exact h.symm⟩
        clear hU
        go_wp2
        go_meet
        exact ⟨true, rfl, HE, ⟨HI.out⟩, ⟨Below.refl _ _⟩⟩
      | false =>
        rw [hz, if_neg (by decide)] at hU
        by_cases hlt : (L : Int) < (lb : Int)
        · have HE : Aside0 (b1 = if true = true then p else b) := ⟨by rw [if_pos hlt] at hU; injection hU with h; rw [if_pos rfl]; exact h.symm⟩
          have hd : decide ((L : Int) < (lb : Int)) = true := decide_eq_true hlt
          have hd2 : decide (L < lb) = true := decide_eq_true (by omega)
          clear hU
          go_wp2
          go_meet
          exact ⟨true, rfl, HE, ⟨HI.out⟩, ⟨Below.refl _ _⟩⟩
        · rw [if_neg hlt] at hU
          have hd : decide ((L : Int) < (lb : Int)) = false := decide_eq_false hlt
          have hd2 : decide (L < lb) = false := decide_eq_false (by omega)
          cases he : ((L : Int) == (lb : Int)) with
          | false =>
            have HE : Aside0 (b1 = if false = true then p else b) := ⟨by rw [he, if_neg (by decide)] at hU; injection hU with h; rw [if_neg (by decide)]; exact h.symm⟩
            clear hU
            have he2 : (L == lb) = false := by rw [beq_eq_false_iff_ne] at he ⊢; omega
            go_wp2
            go_meet
            exact ⟨false, rfl, HE, ⟨HI.out⟩, ⟨Below.refl _ _⟩⟩
          | true =>
            rw [he, if_pos rfl] at hU
            have he2 : (L == lb) = true := by rw [beq_iff_eq] at he ⊢; omega
            obtain ⟨r, hc, hU⟩ := Option.bind_eq_some_iff.mp hU
            have HCMP : Aside0 (Calls Try.prog 68 #[.slice A L c, .slice A3 lb c3] w fun e w' => e = .returned (.int .i64 r) ∧ Drawn0 w w') := ⟨by
              have T := slices_Compare_int64_int64.calls K A c p A3 c3 b r w (Kd.R_reads' HR.out).2.2 (by have := Kd.R_reads' HR.out; omega) (Kd.R_reads' Q3R.out).2.2 (by have := Kd.R_reads' Q3R.out; omega) hc
              rw [← HL.out, ← HLB.out] at T
              exact T⟩
            clear hc
            by_cases hr : r < 0
            · have HE : Aside0 (b1 = if true = true then p else b) := ⟨by rw [if_pos hr] at hU; injection hU with h; rw [if_pos rfl]; exact h.symm⟩
              have hd3 : decide (r < 0) = true := decide_eq_true hr
              clear hU
              go_wp2_with (go_at_call 68; (with_reducible refine HCMP.out.mono ?_); rintro e w8 ⟨rfl, ⟨nd, rfl⟩⟩)
              go_meet
              exact ⟨true, rfl, HE, ⟨HI.out.move (pw_below_drewN (Below.refl _ _) nd)⟩, ⟨pw_below_drewN (Below.refl _ _) nd⟩⟩
            · have HE : Aside0 (b1 = if false = true then p else b) := ⟨by rw [if_neg hr] at hU; injection hU with h; rw [if_neg (by decide)]; exact h.symm⟩
              have hd3 : decide (r < 0) = false := decide_eq_false hr
              clear hU
              go_wp2_with (go_at_call 68; (with_reducible refine HCMP.out.mono ?_); rintro e w8 ⟨rfl, ⟨nd, rfl⟩⟩)
              go_meet
              exact ⟨false, rfl, HE, ⟨HI.out.move (pw_below_drewN (Below.refl _ _) nd)⟩, ⟨pw_below_drewN (Below.refl _ _) nd⟩⟩
  case rest =>
    obtain ⟨s, rfl, HE, HIc, HBc⟩ := hcut
    have Q3c := Aside0.mk (blk_below Q3.out HBc.out)
    clear k2 k3 z3 HI Q3R Q3 HU
    have HOW : Aside0 (∀ W, Below w.heap.size w W → Calls Try.prog 69 #[.slice A L c] W fun e w' => ∃ v0_ : Value, e = .returned (v0_) ∧ Kd.R (Kd.int .i64) 2 w' W.heap.size (fun _ => True) v0_ p ∧ Below W.heap.size W w') := ⟨fun W hW => by
      have T := slices_Clone_int64_int64.calls A c p p W (Kd.C_below (Kd.R_reads' HR.out).2.2 hW) trivial (by unfold slices_Clone_int64_int64.f; rw [if_pos (by rw [← HL.out]; omega)])
      rw [← HL.out] at T
      exact T⟩
    go_upto_if 37 with (fail)
    go_cut [] (fun wd => Aside0 (ExtP w0 d ws T g2 g3 g4 g5 A0 c0 A1 c1 b1 w wd))
    case first =>
      cases s with
      | false =>
        have HE2 : Aside0 (b1 = b) := ⟨by have h := HE.out; rw [if_neg (by decide)] at h; exact h⟩
        go_wp2
        go_meet
        exact ⟨⟨by rw [HE2.out]; exact HIc.out, Kept.of_below HBc.out _⟩⟩
      | true =>
        have HE2 : Aside0 (b1 = p) := ⟨by have h := HE.out; rw [if_pos rfl] at h; exact h⟩
        have k3 : wc.cell? ⟨g3, 0, none⟩ = some (.slice A3 lb c3) := (blk_cell Q3c.out 0).trans rfl
        go_wp2_with (go_at_call 69; (with_reducible refine (HOW.out _ HBc.out).mono ?_); rintro e wn ⟨v, rfl, hRv, hb⟩; have HBn := Aside0.mk hb; have HIn := Aside0.mk (HIc.out.move hb); obtain ⟨Av, cv, rfl, _, _⟩ := Kd.R_reads hRv; have HRv := Aside0.mk (Kd.R_lower hRv (below_size HIc.out.bel)); have k3n := pw_cell_below hb k3; have z3n := blk_frozen (blk_below Q3c.out hb) 0; clear hRv hb)
        go_meet
        exact ⟨⟨by rw [HE2.out]; exact HIn.out.put HRv.out, Kept.setCell (p := ⟨g3, 0, none⟩) (show Kept w wn (fun k => k = g3) from (Kept.of_below HBc.out _).below HBn.out) (.inl rfl) _⟩⟩
    case rest =>
      have HX := hcut
      clear hcut HE HIc HBc Q3c HOW s
      have HRd := Aside0.mk (Kd.R_kept HR.out HX.out.2 (fun k hk => hk))
      obtain ⟨lad, hLA, lx⟩ := Kd.at_int (Kd.R_reads' HRd.out).2.2 ((L : Int) - 1) (by omega) (by rw [← HL.out]; omega)
      cases hLA
      have wl : IntKind.i64.wrap ((L : Int) - 1) = (L : Int) - 1 := IntWalk.i64_in _ ⟨by omega, by omega⟩
      have p4 : (0 ≤ (L : Int) - 1) = True := eq_true (by omega)
      have p6 : (1 ≤ (L : Int)) = True := eq_true (by omega)
      have p5 : ((L : Int) - 1 < (L : Int)) = True := eq_true (by omega)
      obtain ⟨la, hla⟩ : ∃ la, la = rd p ((L : Int) - 1) := ⟨_, rfl⟩
      rw [show ((L : Int) - 1).toNat = L - 1 by omega, ← hla] at lx
      have HLA := Aside0.mk hla
      clear hla
      have k4_0 : wc.cell? ⟨g4, 0, none⟩ = some (.slice A0 n c0) := (blk_cell HX.out.1.b4 0).trans (by rw [← HN0.out]; rfl)
      have k4_1 : wc.cell? ⟨g4, 1, none⟩ = some (.slice A1 m c1) := (blk_cell HX.out.1.b4 1).trans (by rw [← HM0.out]; rfl)
      have HOP : Aside0 (∀ W, Below wc.heap.size wc W → Calls Try.prog 70 #[.agg #[.slice A0 n c0, .slice A1 m c1], .int .i64 la] W fun e w' => ∃ v0_ : Value, e = .returned (v0_) ∧ Kd.R (Kd.int .i64) 2 w' W.heap.size (fun _ => True) v0_ outs ∧ Below W.heap.size W w') := ⟨fun W hW => by
        have T := impl_Flow_openFrom.calls K A0 c0 d A1 c1 ws la outs W (Kd.C_below HR0.out (below_step HX.out.1.bel hW)) HC0.out (Kd.C_below HR1.out (below_step HX.out.1.bel hW)) HC1.out (by rw [HLA.out, HL.out]; exact HO.out)
        rw [← HN0.out, ← HM0.out] at T
        exact T⟩
      have HK : Aside0 (∀ W, Below wc.heap.size wc W → (W.cell? ⟨g4, 0, none⟩ = some (.slice A0 n c0) ∧ W.cell? ⟨g4, 1, none⟩ = some (.slice A1 m c1) ∧ W.cell? (lad.add (L - 1)) = some (.int .i64 la))) := ⟨fun W hW => ⟨pw_cell_below hW k4_0, pw_cell_below hW k4_1, pw_cell_below hW lx⟩⟩
      have hd : ∀ y, y = wc.drew → (y.cell? ⟨g4, 0, none⟩ = some (.slice A0 n c0) ∧ y.cell? ⟨g4, 1, none⟩ = some (.slice A1 m c1) ∧ y.cell? (lad.add (L - 1)) = some (.int .i64 la)) := by
        rintro y rfl
        exact HK.out _ (below_drew1 (Below.refl _ _))
      obtain ⟨lo, hlo⟩ : ∃ lo, lo = outs.length := ⟨_, rfl⟩
      have HLO := Aside0.mk hlo
      rw [← hlo] at hol
      clear hlo HO
      go_wp2
      go_region_held3 (fun W => W.cell? ⟨g4, 0, none⟩ = some (.slice A0 n c0) ∧ W.cell? ⟨g4, 1, none⟩ = some (.slice A1 m c1) ∧ W.cell? (lad.add (L - 1)) = some (.int .i64 la)) (first | exact hd _ rfl | assumption | exact HK.out _ hB70) (first
        | (go_at_call 70; (with_reducible refine (HOP.out _ (below_drew1 (Below.refl _ _))).mono ?_); rintro e w70 ⟨v70, rfl, hR70, hb70⟩; have hB70 : Below wc.heap.size wc w70 := (below_step (below_drew1 (Below.refl _ _)) hb70); obtain ⟨Ao, co, hv70, _, _⟩ := Kd.R_reads hR70; rw [← HLO.out] at hv70; subst hv70))
      have HRO := Aside0.mk (ok3 (HX.out.1.move hB70) (Kd.R_lower hR70 (below_size (below_drew1 HX.out.1.bel))))
      have HX7 : Aside0 (ExtP w0 d ws T g2 g3 g4 g5 A0 c0 A1 c1 b1 w w70) := ⟨⟨HX.out.1.move hB70, HX.out.2.below hB70⟩⟩
      clear hR70 hB70 hb70 HX HK HOP hd k4_0 k4_1 lx HRd
      go_wp2
      go_loopg [49] lo (fun kq v49 w' => ∃ (i : Nat) (bb : List Int), v49 = .int .i64 i ∧ Aside0 (i + kq = lo) ∧ Aside0 (extN (extF K d ws T k) d p t outs kq i bb = some b') ∧ Aside0 (ExtP w0 d ws T g2 g3 g4 g5 A0 c0 A1 c1 bb w w') ∧ Aside0 (Kd.R (Kd.int .i64) 2 w' w0.heap.size (fun k => k ≠ g3) (.slice Ao lo co) outs))
      case atStart => exact ⟨0, b1, by first | rfl | simp, ⟨by omega⟩, ⟨by rw [HLO.out]; exact HF.out⟩, HX7, HRO⟩
      case round =>
        clear HX7 HRO HF
        obtain ⟨i, bb, rfl, HE, HF, HX, HRO⟩ := hrel
        by_cases hlt : i < lo
        · cases gk with
          | zero => have := HE.out; omega
          | succ gq =>
          have hF := HF.out
          rw [extN] at hF
          by_cases hxx : 0 ≤ rd outs (i : Int) ∧ rd outs (i : Int) < d.length
          case neg => rw [if_neg hxx] at hF; cases hF
          rw [if_pos hxx] at hF
          obtain ⟨b2, hS, hF⟩ := Option.bind_eq_some_iff.mp hF
          obtain ⟨oad, hOA, ox⟩ := Kd.at_int (Kd.R_reads' HRO.out).2.2 (i : Int) (by omega) (by rw [← HLO.out]; omega)
          cases hOA
          rw [Int.toNat_natCast] at ox
          rw [← HN0.out] at hxx
          obtain ⟨x, hx⟩ : ∃ x : Nat, rd outs (i : Int) = x := ⟨(rd outs (i : Int)).toNat, by omega⟩
          rw [hx] at hS hxx ox
          have HS := Aside0.mk hS
          have HF2 := Aside0.mk hF
          clear hF hS hx HF
          have hxn : x < n := by omega
          obtain ⟨ad, hA, dA⟩ := Kd.at_int (Kd.C_below HR0.out HX.out.1.bel) (x : Int) (by omega) (by rw [← HN0.out]; omega)
          cases hA
          rw [Int.toNat_natCast] at dA
          obtain ⟨dx, hdx⟩ : ∃ dx, dx = rd d (x : Int) := ⟨_, rfl⟩
          rw [← hdx] at dA HS
          have HDX := Aside0.mk hdx
          clear hdx
          have HBX := Aside0.mk HX.out.1.bel
          have hxi : decide ((i : Int) < (lo : Int)) = true := decide_eq_true (by omega)
          have hxi2 : decide (i < lo) = true := decide_eq_true hlt
          have p0 : (0 ≤ (x : Int)) = True := eq_true (by omega)
          have p1 : ((x : Int) < (n : Int)) = True := eq_true (by omega)
          have p2 : (0 ≤ (i : Int)) = True := eq_true (by omega)
          have p3 : ((i : Int) < (lo : Int)) = True := eq_true (by omega)
          have wi : IntKind.i64.wrap ((i : Int) + 1) = (i : Int) + 1 := IntWalk.i64_in _ ⟨by omega, by omega⟩
          have k4_0 : wr.cell? ⟨g4, 0, none⟩ = some (.slice (some ad) n c0) := (blk_cell HX.out.1.b4 0).trans (by rw [← HN0.out]; rfl)
          have k5 : wr.cell? ⟨g5, 0, none⟩ = some (.func (.func 67) #[] #[.pointer (some ⟨g2, 0, none⟩), .pointer (some ⟨g3, 0, none⟩), .pointer (some ⟨g4, 0, none⟩), .pointer (some ⟨g5, 0, none⟩)]) := (blk_cell HX.out.1.b5 0).trans rfl
          have HRp := Aside0.mk (Kd.R_kept HR.out HX.out.2 (fun k hk => hk))
          have HCL : Aside0 (∀ W, Below wr.heap.size wr W → Calls Try.prog 69 #[.slice (some lad) L c] W fun e w' => ∃ v0_ : Value, e = .returned (v0_) ∧ Kd.R (Kd.int .i64) 2 w' W.heap.size (fun _ => True) v0_ p ∧ Below W.heap.size W w') := ⟨fun W hW => by
            have T := slices_Clone_int64_int64.calls (some lad) c p p W (Kd.C_below (Kd.R_reads' HRp.out).2.2 hW) trivial (by unfold slices_Clone_int64_int64.f; rw [if_pos (by rw [← HL.out]; omega)])
            rw [← HL.out] at T
            exact T⟩
          have HSF : Aside0 (∀ W v, Below wr.heap.size wr W → Kd.R (Kd.int .i64) 2 W w0.heap.size (fun _ => True) v (p ++ [(x : Int)]) → Calls Try.prog 67 #[v, .int .i64 (IntKind.i64.wrap (t + dx)), .pointer (some ⟨g2, 0, none⟩), .pointer (some ⟨g3, 0, none⟩), .pointer (some ⟨g4, 0, none⟩), .pointer (some ⟨g5, 0, none⟩)] W fun e w' => e = .returned (.tuple #[]) ∧ ExtP w0 d ws T g2 g3 g4 g5 (some ad) c0 A1 c1 b2 W w') := ⟨fun W v hW hv => by
            have hv2 := ok3 (HX.out.1.move hW) hv
            obtain ⟨A', c', rfl, _, _⟩ := Kd.R_reads hv2
            rw [IntWalk.i64_left]
            exact HIH.out (p ++ [(x : Int)]) (wrap64 (t + dx)) A' c' bb b2 W (HX.out.1.move hW) hv2 HS.out⟩
          have HK : Aside0 (∀ W, Below wr.heap.size wr W → (W.cell? ⟨g5, 0, none⟩ = some (.func (.func 67) #[] #[.pointer (some ⟨g2, 0, none⟩), .pointer (some ⟨g3, 0, none⟩), .pointer (some ⟨g4, 0, none⟩), .pointer (some ⟨g5, 0, none⟩)]) ∧ W.cell? ⟨g4, 0, none⟩ = some (.slice (some ad) n c0) ∧ W.cell? (ad.add x) = some (.int .i64 dx))) := ⟨fun W hW => ⟨pw_cell_below hW k5, pw_cell_below hW k4_0, pw_cell_below hW dA⟩⟩
          have hd : ∀ y, y = wr.drew → (y.cell? ⟨g5, 0, none⟩ = some (.func (.func 67) #[] #[.pointer (some ⟨g2, 0, none⟩), .pointer (some ⟨g3, 0, none⟩), .pointer (some ⟨g4, 0, none⟩), .pointer (some ⟨g5, 0, none⟩)]) ∧ y.cell? ⟨g4, 0, none⟩ = some (.slice (some ad) n c0) ∧ y.cell? (ad.add x) = some (.int .i64 dx)) := by
            rintro y rfl
            exact HK.out _ (below_drew1 (Below.refl _ _))
          go_wp2
          go_region_held3 (fun W => W.cell? ⟨g5, 0, none⟩ = some (.func (.func 67) #[] #[.pointer (some ⟨g2, 0, none⟩), .pointer (some ⟨g3, 0, none⟩), .pointer (some ⟨g4, 0, none⟩), .pointer (some ⟨g5, 0, none⟩)]) ∧ W.cell? ⟨g4, 0, none⟩ = some (.slice (some ad) n c0) ∧ W.cell? (ad.add x) = some (.int .i64 dx)) (first | exact hd _ rfl | assumption | exact HK.out _ hB93 | exact HK.out _ (below_alloc hB93 _) | exact HK.out _ hb94 | exact hK67 | exact HK.out _ (below_alloc (below_drew1 (Below.refl _ _)) _)) (first
            | (go_at_call 69; (with_reducible refine (HCL.out _ (by first | exact below_drew1 (Below.refl _ _) | exact below_drew1 (below_alloc (Below.refl _ _) _) | exact below_alloc (below_drew1 (Below.refl _ _)) _)).mono ?_); rintro e w93 ⟨v93, rfl, hR93, hb93⟩; have hB93 : Below wr.heap.size wr w93 := (by first | exact below_step (below_drew1 (Below.refl _ _)) hb93 | exact below_step (below_drew1 (below_alloc (Below.refl _ _) _)) hb93))
            | (refine step_append_int rfl (.tmp 55) (.tmp 57) 22 rfl 2 8 Try.underlying22 info2 (by decide) wr.heap.size wr v93 p (by simp [Act.eval, Act.put]) ⟨w93.heap.size, 0, none⟩ 1 (x : Int) (by simp [Act.eval, Act.put]) ((blk_cell (blk_new w93 (.cells #[.int .i64 (x : Int)] 2)) 0).trans rfl) (Kd.R_alloc (Kd.R_lower hR93 (Nat.le_refl _)) _) (below_alloc hB93 _) (Nat.le_trans (below_size hB93) (below_size (below_alloc (Below.refl w93.heap.size w93) _))) (by rw [← HL.out]; omega) ?_; intro v94 w94 hR94 hb94)
            | (refine step_append_int rfl (.tmp 55) (.tmp 57) 22 rfl 2 8 Try.underlying22 info2 (by decide) wr.heap.size wr v93 p (by simp [Act.eval, Act.put]) ⟨wr.heap.size, 0, none⟩ 1 (x : Int) (by simp [Act.eval, Act.put]) (pw_cell_below hb93 ((blk_cell (blk_new wr (.cells #[.int .i64 (x : Int)] 2)) 0).trans rfl)) (Kd.R_lower hR93 (below_size (below_drew1 (below_alloc (Below.refl wr.heap.size wr) _)))) hB93 (below_size hB93) (by rw [← HL.out]; omega) ?_; intro v94 w94 hR94 hb94)
            | (go_at_call 67; (with_reducible refine (HSF.out _ _ hb94 (Kd.R_lower hR94 (below_size HBX.out))).mono ?_); rintro e w67 ⟨rfl, hP⟩; have hK67 := extk HR0.out hP.1 HN0.out hxn HDX.out))
          all_goals
            have HP := Aside0.mk hP
            have HB4 := Aside0.mk hb94
            have hx2 : Kept w wr (fun k => k = g3) := HX.out.2
            have hp2 : Kept w94 w67 (fun k => k = g3) := HP.out.2
            have HX2 : Aside0 (ExtP w0 d ws T g2 g3 g4 g5 (some ad) c0 A1 c1 b2 w w67) := ⟨⟨HP.out.1, (hx2.below HB4.out).then_ hp2 (fun _ hk => .inl hk)⟩⟩
            have HRO2 := Aside0.mk (Kd.R_kept (Kd.R_below HRO.out HB4.out) hp2 (fun k hk => hk))
            clear hx2 hp2 hP hb94 hR94 hR93 hb93 hB93 hK67 HX HRO HK HSF HCL
            go_wp2
            go_roundg gq
            case measure => omega
            case rel => exact ⟨i + 1, b2, by go_num, ⟨by have := HE.out; omega⟩, HF2, HX2, HRO2⟩
        · have hxi : decide ((i : Int) < (lo : Int)) = false := decide_eq_false (by omega)
          have hxi2 : decide (i < lo) = false := decide_eq_false hlt
          have HBB : Aside0 (bb = b') := ⟨by
            have h := HF.out
            rw [show gk = 0 by have := HE.out; omega, extN] at h
            injection h⟩
          go_wp2
          (first | (refine bodyPost_end (results_none rfl _ _ _) rfl ?_) | (refine bodyPost_ret (results_none rfl _ _ _) rfl ?_))
          rw [← HBB.out]
          exact ⟨rfl, HX.out⟩
end Go.Proofs.Ytojpibpjieanhaa.X
end
section
-- Written by a program of this session out of the kit's print of the loaded functions: a plain function of a Go function, and its contract.
namespace Go.Proofs.Ytojpibpjieanhaa.X
open Go.RowKit Go.Proofs.YtojpibpjieanhaaW.PrintWords Go.Proofs.YtojpibpjieanhaaW.PrintLast Go.Proofs.YtojpibpjieanhaaW.PrintMore
attribute [local go_sem] max2_int min2_int max_two min_two max_three min_three max_four min_four   -- for this text's walks alone
set_option linter.unusedVariables false
set_option linter.unusedSimpArgs false
def slices_Max_int64_int64.l0 : Nat → List Int → Int → Int → Option (Int)
 | 0, _, _, _ => none
 | k + 1, x0, x3, x4 => if x4 < (x0.length : Int) then (if 0 ≤ x4 then (slices_Max_int64_int64.l0 k x0 (mx x3 (rd x0 x4)) (wrap64 (x4 + 1))) else (none)) else (some x3)
def slices_Max_int64_int64.f (k : Nat) (l0 : List Int) : Option (Int) := if (l0.length : Int) < 1 then (none) else (if 0 < (l0.length : Int) then (slices_Max_int64_int64.l0 k l0 (rd l0 0) 1) else (none))
set_option maxHeartbeats 8000000 in
set_option maxRecDepth 100000 in
theorem slices_Max_int64_int64.calls (k : Nat) (A0 : Option Addr) (c0 : Nat) (l0 : List Int) (r : Int) (w : World) (hr0 : Kd.C (Kd.int .i64) w A0 l0.length l0) (hc0 : l0.length ≤ c0) (h : slices_Max_int64_int64.f k l0 = some r) :
  Calls Try.prog 75 #[.slice A0 l0.length c0] w fun e w' => e = .returned (.int .i64 r) ∧ Below w.heap.size w w' := by
 have HR0 := Aside0.mk hr0
 have HC0 := Aside0.mk hc0
 clear hr0 hc0
 have HB := Aside0.mk (Below.refl w.heap.size w)
 have H : (if (l0.length : Int) < 1 then (none) else (if 0 < (l0.length : Int) then (slices_Max_int64_int64.l0 k l0 (rd l0 0) 1) else (none))) = some r := h
 clear h
 by_cases c2 : (l0.length : Int) < 1
 ·rw [if_pos c2] at H
  exact absurd H (by simp)
 ·rw [if_neg c2] at H
  have c2b0 : decide ((l0.length : Int) < 1) = false := decide_eq_false c2
  have c2b1 : decide (l0.length < 1) = false := decide_eq_false (by omega)
  clear c2
  by_cases c3 : 0 < (l0.length : Int)
  ·rw [if_pos c3] at H
   have c3b0 : decide (0 < (l0.length : Int)) = true := decide_eq_true c3
   have c3b1 : decide (0 < l0.length) = true := decide_eq_true (by omega)
   clear c3
   have H' := Aside0.mk H
   clear H
   have p406 : 0 ≤ (0 : Int) := (by omega)
   have q406 : 0 < (l0.length : Int) := of_decide_eq_true (by first | (with_reducible assumption) | assumption)
   obtain ⟨ad406, e406, hx406_0⟩ := Kd.at_int HR0.out 0 p406 q406
   cases e406
   have qi406 : (0 < l0.length) = True := eq_true (by omega)
   (try rw [show ((0 : Int)).toNat = 0 from rfl] at hx406_0)
   (try rw [Addr.add_zero'] at hx406_0)
   replace p406 := eq_true p406
   replace q406 := eq_true q406
   go_enter Try.func75, Try.ntmps75
   go_wp2
   go_loopg [3, 4] k (fun kq v3 v4 w' => ∃ (x3_1 : Int) (x4_1 : Int), v3 = .int .i64 x3_1 ∧ v4 = .int .i64 x4_1 ∧ Aside0 (slices_Max_int64_int64.l0 kq l0 x3_1 x4_1 = some r) ∧ Aside0 (kq ≤ k) ∧ Aside0 (Below w.heap.size w w'))
   case atStart => exact ⟨(rd l0 0), (1), (by first | rfl | (simp; done) | (simp [*]; done)), (by first | rfl | (simp; done) | (simp [*]; done)), H', ⟨Nat.le_refl _⟩, ⟨by repeat (first | (with_reducible first | exact HB.out | apply below_alloc | apply pw_below_drewN | apply below_drew1) | exact HB.out)⟩⟩
   case round =>
    clear H'
    try clear c2
    try clear c2b0
    try clear c2b1
    try clear p2
    try clear c3
    try clear c3b0
    try clear c3b1
    try clear hx406_0
    try clear p406
    try clear q406
    obtain ⟨x3_1, x4_1, rfl, rfl, HA, HK1, HB⟩ := hrel
    cases gk with
    | zero => exact absurd HA.out (by simp [slices_Max_int64_int64.l0])
    | succ k1 =>
     have H := HA.out
     clear HA
     simp only [slices_Max_int64_int64.l0] at H
     by_cases c4 : x4_1 < (l0.length : Int)
     ·rw [if_pos c4] at H
      have c4b0 : decide (x4_1 < (l0.length : Int)) = true := decide_eq_true c4
      clear c4
      by_cases c5 : 0 ≤ x4_1
      ·rw [if_pos c5] at H
       have c5b0 : decide (0 ≤ x4_1) = true := decide_eq_true c5
       clear c5
       obtain ⟨ji6, hji6⟩ : ∃ j_ : Int, (mx x3_1 (rd l0 x4_1)) = j_ := ⟨_, rfl⟩
       replace H : (slices_Max_int64_int64.l0 k1 l0 ji6 (wrap64 (x4_1 + 1))) = some r := by first | (rw [hji6] at H; exact H) | (simp only [hji6] at H ⊢; exact H)
       have hji6_ : (if x3_1 < (rd l0 x4_1) then (rd l0 x4_1) else x3_1) = ji6 := hji6
       have H' := Aside0.mk H
       clear H
       have p407 : 0 ≤ (x4_1 : Int) := of_decide_eq_true (by first | (with_reducible assumption) | assumption)
       have q407 : x4_1 < (l0.length : Int) := of_decide_eq_true (by first | (with_reducible assumption) | assumption)
       obtain ⟨ad407, e407, hx407_0⟩ := Kd.at_int HR0.out x4_1 p407 q407
       obtain rfl : ad406 = ad407 := (by injection e407)
       replace hx407_0 := (HB.out.cell (World.block_lt_of_cell? w _ hx407_0)).trans hx407_0
       replace p407 := eq_true p407
       replace q407 := eq_true q407
       go_wp2
       go_roundg k1
       case measure => have := HK1.out; omega
       case rel => exact ⟨(ji6), (wrap64 (x4_1 + 1)), (by first | rfl | (simp; done) | (simp only [← hji6] <;> (first | rfl | simp)) | (simp [*]; done)), (by first | rfl | (simp; done) | (simp [*]; done)), H', ⟨by have := HK1.out; omega⟩, ⟨by repeat (first | (with_reducible first | exact HB.out | apply below_alloc | apply pw_below_drewN | apply below_drew1) | exact HB.out)⟩⟩
      ·rw [if_neg c5] at H
       exact absurd H (by simp)
     ·rw [if_neg c4] at H
      have c4b0 : decide (x4_1 < (l0.length : Int)) = false := decide_eq_false c4
      clear c4
      obtain rfl := Option.some.inj H
      go_wp2
      go_ret
      exact ⟨by first | rfl | (simp [errW_none, errW_some] <;> rfl) | (simp [*, errW_none, errW_some] <;> rfl), by repeat (first | (with_reducible first | exact HB.out | apply below_alloc | apply pw_below_drewN | apply below_drew1) | exact HB.out)⟩
  ·rw [if_neg c3] at H
   exact absurd H (by simp)
end Go.Proofs.Ytojpibpjieanhaa.X
end
section
namespace Go.Proofs.Ytojpibpjieanhaa.X
open Go.RowKit Go.Proofs.YtojpibpjieanhaaW.PrintWords Go.Proofs.YtojpibpjieanhaaW.PrintLast Go.Proofs.YtojpibpjieanhaaW.PrintMore
attribute [local go_sem] max2_int min2_int max_two min_two max_three min_three max_four min_four
set_option linter.unusedVariables false
set_option linter.unusedSimpArgs false
def slowStep (d x : List Int) (w : S55) : List Int := if (w.f2 == 0) = true then x.set w.f0.toNat (mx (rd x w.f0) (wrap64 (rd d w.f0 + rd x w.f1))) else x
def slowRound (d : List Int) (ws : List S55) : Nat → List Int → List Int
  | 0, x => x
  | j + 1, x => slowStep d (slowRound d ws j x) (rd_T55 ws (j : Int))
def slowRounds (d : List Int) (ws : List S55) : Nat → List Int
  | 0 => d
  | i + 1 => slowRound d ws ws.length (slowRounds d ws i)
def WireIn (n : Nat) (w : S55) : Prop := 0 ≤ w.f0 ∧ w.f0 < n ∧ 0 ≤ w.f1 ∧ w.f1 < n
instance (n : Nat) (w : S55) : Decidable (WireIn n w) := by unfold WireIn; infer_instance
set_option maxHeartbeats 16000000 in
set_option maxRecDepth 100000 in
theorem slowest_walk (A0 : Option Addr) (c0 : Nat) (d : List Int) (A1 : Option Addr) (c1 : Nat) (ws : List S55) (n m : Nat) (hn0 : n = d.length) (hm0 : m = ws.length) (h1 : 1 ≤ n) (hn : n ≤ 1000000) (hm : m ≤ 1000000) (hw : ∀ j : Nat, j < m → WireIn n (rd_T55 ws (j : Int))) (w : World)
    (hr0 : Kd.C (Kd.int .i64) w A0 n d) (hr1 : Kd.C k55 w A1 m ws) :
    Calls Try.prog 90 #[.agg #[.slice A0 n c0, .slice A1 m c1]] w fun e w' => ∃ v0_ : Value, e = .returned (v0_) ∧ Kd.R (Kd.int .i64) 2 w' w.heap.size (fun _ => True) v0_ (slowRounds d ws n) ∧ Below w.heap.size w w' := by
  have HR0 := Aside0.mk hr0
  have HR1 := Aside0.mk hr1
  have HW := Aside0.mk hw
  have HN0 := Aside0.mk hn0
  have HM0 := Aside0.mk hm0
  have HCL : Aside0 (slices_Clone_int64_int64.f d = some d) := ⟨by unfold slices_Clone_int64_int64.f; rw [if_pos (by omega)]⟩
  clear hr0 hr1 hw hm0 hn0
  have HB := Aside0.mk (Below.refl w.heap.size w)
  go_enter Try.func90, Try.ntmps90
  go_wp2_with (first
    | ((with_reducible refine gate_dst (N := 1) rfl ?_); refine box_event ?hg (N := 1) ?hd (cs := #[.slice A0 n c0, .slice A1 m c1]) (t := 36) ?hr ?_; (case hd => rfl); (case hg => rfl); (case hr => first | (go_simp; done) | (go_simp; rfl)); intro g1 hg wn hbox hb; have GE1 := Aside0.mk (by rw [hg]; exact below_size HB.out : w.heap.size ≤ g1); clear hg; have BK10 := Aside0.mk hbox; clear hbox; have n0_ := Aside0.mk (below_step HB.out hb); clear HB  hb; have HB := n0_; clear n0_ ; have BK1 := BK10; clear BK10; have c1_0 : wn.cell? ⟨g1, 0, none⟩ = some (.slice A0 n c0) := (blk_cell BK1.out 0).trans rfl; have c1_1 : wn.cell? ⟨g1, 1, none⟩ = some (.slice A1 m c1) := (blk_cell BK1.out 1).trans rfl)
    | (go_at_call 69; have T := slices_Clone_int64_int64.calls A0 c0 d d wn (by rw [← HN0.out]; exact Kd.C_below HR0.out HB.out) trivial HCL.out; rw [← HN0.out] at T; refine T.mono ?_; clear T; rintro e wz ⟨v1, rfl, ho, hb⟩; obtain ⟨gR, cR, rfl, hgb, hgl, cl, hcl⟩ := Kd.R_form ho (by rw [← HN0.out]; exact h1); rw [← HN0.out] at ho; have HO := Aside0.mk (Kd.R_lower ho (below_size HB.out)); have GR := Aside0.mk (Nat.le_trans (below_size HB.out) hgb); have NE1R := Aside0.mk (show g1 ≠ gR by have := blk_lt BK1.out; omega); clear ho hgb hgl hcl cl; rw [← HN0.out]; have n0_ := Aside0.mk (below_step HB.out hb); have m1_ := Aside0.mk (blk_below BK1.out hb); clear HB BK1 hb; have HB := n0_; have BK1 := m1_; clear n0_ m1_; have c1_0 : wz.cell? ⟨g1, 0, none⟩ = some (.slice A0 n c0) := (blk_cell BK1.out 0).trans rfl; have c1_1 : wz.cell? ⟨g1, 1, none⟩ = some (.slice A1 m c1) := (blk_cell BK1.out 1).trans rfl))
  go_loopg [12] n (fun kq v12 w' => ∃ i : Nat, v12 = .int .i64 i ∧ Aside0 (i + kq = n) ∧ Aside0 (w'.heap[g1]? = some (.cells #[.slice A0 n c0, .slice A1 m c1] 36 (0, 0))) ∧ Aside0 (Kd.R (Kd.int .i64) 2 w' w.heap.size (fun _ => True) (.slice (some ⟨gR, 0, none⟩) n cR) (slowRounds d ws i)) ∧ Aside0 (Below w.heap.size w w'))
  case atStart => exact ⟨0, by first | rfl | simp, ⟨by omega⟩, BK1, HO, HB⟩
  case round =>
    clear BK1 HO HB c1_0 c1_1
    obtain ⟨i, rfl, HE, Q1, QR, QB⟩ := hrel
    have c1_0 : wr.cell? ⟨g1, 0, none⟩ = some (.slice A0 n c0) := (blk_cell Q1.out 0).trans rfl
    have c1_1 : wr.cell? ⟨g1, 1, none⟩ = some (.slice A1 m c1) := (blk_cell Q1.out 1).trans rfl
    by_cases hlt : i < n
    · cases gk with
      | zero => have := HE.out; omega
      | succ gq =>
      go_wp2
      obtain ⟨wo, rfl⟩ : ∃ wo : World, wo = wr := ⟨_, rfl⟩
      go_loopg [17] m (fun kq v17 w' => ∃ j : Nat, v17 = .int .i64 j ∧ Aside0 (j + kq = m) ∧ Aside0 (w'.heap[g1]? = some (.cells #[.slice A0 n c0, .slice A1 m c1] 36 (0, 0))) ∧ Aside0 (Kd.R (Kd.int .i64) 2 w' w.heap.size (fun _ => True) (.slice (some ⟨gR, 0, none⟩) n cR) (slowRound d ws j (slowRounds d ws i))) ∧ Aside0 (Below w.heap.size w w'))
      case atStart => exact ⟨0, by first | rfl | simp, ⟨by omega⟩, Q1, QR, QB⟩
      case round =>
        clear Q1 QR QB c1_0 c1_1
        obtain ⟨j, rfl, HJ, Q1, QR, QB⟩ := hrel
        by_cases hlj : j < m
        · cases gk with
          | zero => have := HJ.out; omega
          | succ gq2 =>
          obtain ⟨ad, hA, x0, x1, x2⟩ := at_T55 (Kd.C_below HR1.out QB.out) (j : Int) (by omega) (by omega)
          cases hA
          rw [Int.toNat_natCast] at x0 x1 x2
          obtain ⟨o0, o1, o2, o3⟩ := HW.out j hlj
          obtain ⟨X, hX⟩ : ∃ X, X = slowRound d ws j (slowRounds d ws i) := ⟨_, rfl⟩
          have HX : Aside0 (slowRound d ws (j + 1) (slowRounds d ws i) = slowStep d X (rd_T55 ws (j : Int))) := ⟨by rw [hX]; rfl⟩
          rw [← hX] at QR
          clear hX
          obtain ⟨el, hel⟩ : ∃ el, el = rd_T55 ws (j : Int) := ⟨_, rfl⟩
          rw [← hel] at x0 x1 x2 o0 o1 o2 o3 HX
          clear hel
          have GRL := Aside0.mk (Kd.R_lt QR.out gR (by simp [Value.ownBlock]))
          have step : ∀ b : Bool, (el.f2 == 0) = b → True := fun _ _ => trivial
          clear step
          cases hf : (el.f2 == 0) with
          | false =>
            have HF := Aside0.mk hf
            go_wp2_with (first
              | ((with_reducible refine gate_dst (N := 5) rfl ?_); refine box_event ?hg (N := 5) ?hd (cs := #[.int .i64 0, .int .i64 0, .int .i64 0]) (t := 55) ?hr ?_; (case hd => rfl); (case hg => rfl); (case hr => first | (go_simp; done) | (go_simp; rfl)); intro g5 hg wn hbox hb; have GE5 := Aside0.mk (by rw [hg]; exact below_size QB.out : w.heap.size ≤ g5); have NE1_5 := Aside0.mk (show g1 ≠ g5 by have := blk_lt Q1.out; omega); have NER_5 := Aside0.mk (show gR ≠ g5 by have := GRL.out; omega); clear hg; have B5 := Aside0.mk hbox; clear hbox; have n0_ := Aside0.mk (below_step QB.out hb); have n1_ := Aside0.mk (blk_below Q1.out hb); have nR_ := Aside0.mk (Kd.R_below QR.out hb); clear QB Q1 QR hb; have QB := n0_; have Q1 := n1_; have QR := nR_; clear n0_ n1_ nR_; have z5_0 := blk_frozen B5.out 0; have z5_1 := blk_frozen B5.out 1; have z5_2 := blk_frozen B5.out 2; have c5_0 : wn.cell? ⟨g5, 0, none⟩ = some (.int .i64 0) := (blk_cell B5.out 0).trans rfl; have c5_1 : wn.cell? ⟨g5, 1, none⟩ = some (.int .i64 0) := (blk_cell B5.out 1).trans rfl; have c5_2 : wn.cell? ⟨g5, 2, none⟩ = some (.int .i64 0) := (blk_cell B5.out 2).trans rfl))
            have p1 := Aside0.mk (blk_far (blk_far (blk_far Q1.out (p := ⟨g5, 0, none⟩) NE1_5.out (.int .i64 el.f0)) (p := ⟨g5, 1, none⟩) NE1_5.out (.int .i64 el.f1)) (p := ⟨g5, 2, none⟩) NE1_5.out (.int .i64 el.f2))
            have pR : Aside0 (Kd.R (Kd.int .i64) 2 _ w.heap.size (fun _ => True) (.slice (some ⟨gR, 0, none⟩) n cR) X) := Aside0.mk (Kd.R_mono (Kd.R_far (p := ⟨g5, 2, none⟩) (Kd.R_far (p := ⟨g5, 1, none⟩) (Kd.R_far (p := ⟨g5, 0, none⟩) (Kd.R_types QR.out B5.out (by decide)) (fun _ hk => hk.2) (.int .i64 el.f0)) (fun _ hk => hk.2) (.int .i64 el.f1)) (fun _ hk => hk.2) (.int .i64 el.f2)) (fun _ _ => trivial))
            have p5 := Aside0.mk (blk_put (cs' := #[.int .i64 el.f0, .int .i64 el.f1, .int .i64 el.f2]) (blk_put (cs' := #[.int .i64 el.f0, .int .i64 el.f1, .int .i64 0]) (blk_put (cs' := #[.int .i64 el.f0, .int .i64 0, .int .i64 0]) B5.out 0 (.int .i64 el.f0) rfl) 1 (.int .i64 el.f1) rfl) 2 (.int .i64 el.f2) rfl)
            have pb := Aside0.mk (below_set (j := 2) (v := .int .i64 el.f2) (below_set (j := 1) (v := .int .i64 el.f1) (below_set (j := 0) (v := .int .i64 el.f0) QB.out GE5.out) GE5.out) GE5.out)
            go_roundg gq2
            case measure => omega
            case rel => exact ⟨j + 1, by go_num, ⟨by have := HJ.out; omega⟩, p1, ⟨by rw [HX.out]; unfold slowStep; rw [HF.out, if_neg (by decide)]; exact pR.out⟩, pb⟩
          | true =>
            have HF := Aside0.mk hf
            go_wp2_with (first
              | ((with_reducible refine gate_dst (N := 5) rfl ?_); refine box_event ?hg (N := 5) ?hd (cs := #[.int .i64 0, .int .i64 0, .int .i64 0]) (t := 55) ?hr ?_; (case hd => rfl); (case hg => rfl); (case hr => first | (go_simp; done) | (go_simp; rfl)); intro g5 hg wn hbox hb; have GE5 := Aside0.mk (by rw [hg]; exact below_size QB.out : w.heap.size ≤ g5); have NE1_5 := Aside0.mk (show g1 ≠ g5 by have := blk_lt Q1.out; omega); have NER_5 := Aside0.mk (show gR ≠ g5 by have := GRL.out; omega); clear hg; have B5 := Aside0.mk hbox; clear hbox; have n0_ := Aside0.mk (below_step QB.out hb); have n1_ := Aside0.mk (blk_below Q1.out hb); have nR_ := Aside0.mk (Kd.R_below QR.out hb); clear QB Q1 QR hb; have QB := n0_; have Q1 := n1_; have QR := nR_; clear n0_ n1_ nR_; have z5_0 := blk_frozen B5.out 0; have z5_1 := blk_frozen B5.out 1; have z5_2 := blk_frozen B5.out 2; have c5_0 : wn.cell? ⟨g5, 0, none⟩ = some (.int .i64 0) := (blk_cell B5.out 0).trans rfl; have c5_1 : wn.cell? ⟨g5, 1, none⟩ = some (.int .i64 0) := (blk_cell B5.out 1).trans rfl; have c5_2 : wn.cell? ⟨g5, 2, none⟩ = some (.int .i64 0) := (blk_cell B5.out 2).trans rfl))
            have p1 := Aside0.mk (blk_far (blk_far (blk_far Q1.out (p := ⟨g5, 0, none⟩) NE1_5.out (.int .i64 el.f0)) (p := ⟨g5, 1, none⟩) NE1_5.out (.int .i64 el.f1)) (p := ⟨g5, 2, none⟩) NE1_5.out (.int .i64 el.f2))
            have pR : Aside0 (Kd.R (Kd.int .i64) 2 _ w.heap.size (fun _ => True) (.slice (some ⟨gR, 0, none⟩) n cR) X) := Aside0.mk (Kd.R_mono (Kd.R_far (p := ⟨g5, 2, none⟩) (Kd.R_far (p := ⟨g5, 1, none⟩) (Kd.R_far (p := ⟨g5, 0, none⟩) (Kd.R_types QR.out B5.out (by decide)) (fun _ hk => hk.2) (.int .i64 el.f0)) (fun _ hk => hk.2) (.int .i64 el.f1)) (fun _ hk => hk.2) (.int .i64 el.f2)) (fun _ _ => trivial))
            have p5 := Aside0.mk (blk_put (cs' := #[.int .i64 el.f0, .int .i64 el.f1, .int .i64 el.f2]) (blk_put (cs' := #[.int .i64 el.f0, .int .i64 el.f1, .int .i64 0]) (blk_put (cs' := #[.int .i64 el.f0, .int .i64 0, .int .i64 0]) B5.out 0 (.int .i64 el.f0) rfl) 1 (.int .i64 el.f1) rfl) 2 (.int .i64 el.f2) rfl)
            have pb := Aside0.mk (below_set (j := 2) (v := .int .i64 el.f2) (below_set (j := 1) (v := .int .i64 el.f1) (below_set (j := 0) (v := .int .i64 el.f0) QB.out GE5.out) GE5.out) GE5.out)
            clear c5_0 c5_1 c5_2 z5_0 z5_1 z5_2 Q1 QR QB B5
            generalize ((wn.setCell ⟨g5, 0, none⟩ (.int .i64 el.f0)).setCell ⟨g5, 1, none⟩ (.int .i64 el.f1)).setCell ⟨g5, 2, none⟩ (.int .i64 el.f2) = W5 at p1 pR p5 pb ⊢
            obtain ⟨rA, zA⟩ := Kd.R_celln 0 pR.out el.f0 o0 o1
            obtain ⟨rB, zB⟩ := Kd.R_celln 0 pR.out el.f1 o2 o3
            obtain ⟨dd, hD, dA⟩ := Kd.at_int (Kd.C_below HR0.out pb.out) el.f0 o0 o1
            cases hD
            have rA' : W5.cell? ⟨gR, el.f0.toNat, none⟩ = some (.int .i64 (rd X el.f0)) := rA
            have rB' : W5.cell? ⟨gR, el.f1.toNat, none⟩ = some (.int .i64 (rd X el.f1)) := rB
            have k1_0 : W5.cell? ⟨g1, 0, none⟩ = some (.slice (some dd) n c0) := (blk_cell p1.out 0).trans rfl
            have k5_0 : W5.cell? ⟨g5, 0, none⟩ = some (.int .i64 el.f0) := (blk_cell p5.out 0).trans rfl
            have k5_1 : W5.cell? ⟨g5, 1, none⟩ = some (.int .i64 el.f1) := (blk_cell p5.out 1).trans rfl
            clear rA rB zB x0 x1 x2 hf
            go_region
            have q1 := Aside0.mk (blk_drew (blk_far p1.out (p := ⟨gR, el.f0.toNat, none⟩) NE1R.out (.int .i64 (mx (rd X el.f0) (wrap64 (rd d el.f0 + rd X el.f1))))))
            have qR := Aside0.mk (Kd.R_drew (Kd.R_putn pR.out el.f0 (mx (rd X el.f0) (wrap64 (rd d el.f0 + rd X el.f1)))))
            have qb := Aside0.mk (below_drew1 (Below.setCell (p := ⟨gR, el.f0.toNat, none⟩) pb.out GR.out (.int .i64 (mx (rd X el.f0) (wrap64 (rd d el.f0 + rd X el.f1))))))
            have hmx : (if rd X el.f0 < wrap64 (rd d el.f0 + rd X el.f1) then wrap64 (rd d el.f0 + rd X el.f1) else rd X el.f0) = mx (rd X el.f0) (wrap64 (rd d el.f0 + rd X el.f1)) := rfl
            rw [hmx]
            clear rA' rB' zA k1_0 k5_0 k5_1 dA hmx
            go_wp2
            go_roundg gq2
            case measure => omega
            case rel => exact ⟨j + 1, by go_num, ⟨by have := HJ.out; omega⟩, q1, ⟨by rw [HX.out]; unfold slowStep; rw [HF.out, if_pos rfl]; exact qR.out⟩, qb⟩
        · have e : j = m := by have := HJ.out; omega
          have f1 : decide ((j : Int) < (m : Int)) = false := decide_eq_false (by omega)
          have f2 : decide (j < m) = false := decide_eq_false hlj
          have QR2 : Aside0 (Kd.R (Kd.int .i64) 2 wr w.heap.size (fun _ => True) (.slice (some ⟨gR, 0, none⟩) n cR) (slowRounds d ws (i + 1))) := ⟨by rw [slowRounds, ← HM0.out, ← e]; exact QR.out⟩
          clear hlj e
          go_wp2
          go_roundg gq
          case measure => omega
          case rel => exact ⟨i + 1, by go_num, ⟨by have := HE.out; omega⟩, Q1, QR2, QB⟩
    · have e : i = n := by have := HE.out; omega
      have f1 : decide ((i : Int) < (n : Int)) = false := decide_eq_false (by omega)
      have f2 : decide (i < n) = false := decide_eq_false hlt
      have QR2 : Aside0 (Kd.R (Kd.int .i64) 2 wr w.heap.size (fun _ => True) (.slice (some ⟨gR, 0, none⟩) n cR) (slowRounds d ws n)) := ⟨by have h := QR.out; rw [e] at h; exact h⟩
      clear hlt e
      go_wp2
      go_ret
      exact ⟨_, rfl, QR2.out, QB.out⟩
def impl_Flow_slowest.f (l0_0 : List Int) (l0_1 : List S55) : Option (List Int) := if 1 ≤ l0_0.length ∧ l0_0.length ≤ 1000000 ∧ l0_1.length ≤ 1000000 ∧ (∀ j : Nat, j < l0_1.length → WireIn l0_0.length (rd_T55 l0_1 (j : Int))) then some (slowRounds l0_0 l0_1 l0_0.length) else none
theorem impl_Flow_slowest.calls (A0_0 : Option Addr) (c0_0 : Nat) (l0_0 : List Int) (A0_1 : Option Addr) (c0_1 : Nat) (l0_1 : List S55) (r : List Int) (w : World) (hr0_0 : Kd.C (Kd.int .i64) w A0_0 l0_0.length l0_0) (hc0_0 : True) (hr0_1 : Kd.C k55 w A0_1 l0_1.length l0_1) (hc0_1 : True) (h : impl_Flow_slowest.f l0_0 l0_1 = some r) :
    Calls Try.prog 90 #[.agg #[.slice A0_0 l0_0.length c0_0, .slice A0_1 l0_1.length c0_1]] w fun e w' => ∃ v0_ : Value, e = .returned (v0_) ∧ Kd.R (Kd.int .i64) 2 w' w.heap.size (fun _ => True) v0_ r ∧ Below w.heap.size w w' := by
  unfold impl_Flow_slowest.f at h
  split at h
  case isTrue hg =>
    obtain ⟨g1, g2, g3, g4⟩ := hg
    have e : slowRounds l0_0 l0_1 l0_0.length = r := Option.some.inj h
    rw [← e]
    exact slowest_walk A0_0 c0_0 l0_0 A0_1 c0_1 l0_1 l0_0.length l0_1.length rfl rfl g1 g2 g3 g4 w hr0_0 hr0_1
  case isFalse => cases h
end Go.Proofs.Ytojpibpjieanhaa.X
end
section
-- Written by a program of this session out of the kit's print of the loaded functions: a plain function of a Go function, and its contract.
namespace Go.Proofs.Ytojpibpjieanhaa.X
open Go.RowKit Go.Proofs.YtojpibpjieanhaaW.PrintWords Go.Proofs.YtojpibpjieanhaaW.PrintLast Go.Proofs.YtojpibpjieanhaaW.PrintMore
attribute [local go_sem] max2_int min2_int max_two min_two max_three min_three max_four min_four   -- for this text's walks alone
set_option linter.unusedVariables false
set_option linter.unusedSimpArgs false
def impl_Flow_period.f (k : Nat) (l0_0 : List Int) (l0_1 : List (S55)) : Option (Int) := (impl_Flow_slowest.f l0_0 l0_1).bind fun t409 => ((slices_Max_int64_int64.f k t409).bind fun t412 => (some t412))
set_option maxHeartbeats 8000000 in
set_option maxRecDepth 100000 in
theorem impl_Flow_period.calls (k : Nat) (A0_0 : Option Addr) (c0_0 : Nat) (l0_0 : List Int) (A0_1 : Option Addr) (c0_1 : Nat) (l0_1 : List (S55)) (r : Int) (w : World) (hr0_0 : Kd.C (Kd.int .i64) w A0_0 l0_0.length l0_0) (hc0_0 : l0_0.length ≤ c0_0) (hr0_1 : Kd.C k55 w A0_1 l0_1.length l0_1) (hc0_1 : l0_1.length ≤ c0_1) (h : impl_Flow_period.f k l0_0 l0_1 = some r) :
  Calls Try.prog 59 #[.agg #[.slice A0_0 l0_0.length c0_0, .slice A0_1 l0_1.length c0_1]] w fun e w' => e = .returned (.int .i64 r) ∧ Below w.heap.size w w' := by
 have hu36 := Try.underlying36
 have HR0_0 := Aside0.mk hr0_0
 have HC0_0 := Aside0.mk hc0_0
 clear hr0_0 hc0_0
 have HR0_1 := Aside0.mk hr0_1
 have HC0_1 := Aside0.mk hc0_1
 clear hr0_1 hc0_1
 have HB := Aside0.mk (Below.refl w.heap.size w)
 have H : ((impl_Flow_slowest.f l0_0 l0_1).bind fun t409 => ((slices_Max_int64_int64.f k t409).bind fun t412 => (some t412))) = some r := h
 clear h
 replace H := Option.bind_eq_some_iff.mp H
 obtain ⟨t409, A20, H⟩ := H
 replace H : ((slices_Max_int64_int64.f k t409).bind fun t412 => (some t412)) = some r := H
 have A2 := Aside0.mk A20
 clear A20
 replace H := Option.bind_eq_some_iff.mp H
 obtain ⟨t412, A30, H⟩ := H
 replace H : (some t412) = some r := H
 have A3 := Aside0.mk A30
 clear A30
 obtain rfl := Option.some.inj H
 go_enter Try.func59, Try.ntmps59
 go_wp2_with (first | ((with_reducible refine gate_dst (N := 1) rfl ?_); refine box_event ?hg (N := 1) ?hd (cs := #[.slice A0_0 l0_0.length c0_0, .slice A0_1 l0_1.length c0_1]) (t := 36) ?hr ?_; (case hd => rfl); (case hg => rfl); (case hr => first | (go_simp; done) | (go_simp; rfl)); intro gb408 hg w4 hbox hb; have n0_ := Aside0.mk (below_step (by repeat (first | (with_reducible first | exact HB.out | apply below_alloc | apply pw_below_drewN | apply below_drew1) | exact HB.out)) hb); have n1_ := Aside0.mk (hbox); have n2_ := Aside0.mk ((by rw [hg]; exact (below_size (by repeat (first | (with_reducible first | exact HB.out | apply below_alloc | apply pw_below_drewN | apply below_drew1) | exact HB.out))) : w.heap.size ≤ gb408)); have n3_ := Aside0.mk ((by rw [hg]; exact (below_size (by repeat (first | (with_reducible first | exact HB.out | apply below_alloc | apply pw_below_drewN | apply below_drew1) | exact HB.out))) : w.heap.size ≤ gb408)); clear HB; have HB := n0_; have BK408 := n1_; have GW408 := n2_; have GE408 := n3_; clear n0_ n1_ n2_ n3_; clear hb hbox hg; have hcz5_0 : w4.cell? ⟨gb408, 0, none⟩ = some (.slice A0_0 l0_0.length c0_0) := (blk_cell BK408.out 0).trans rfl; have hcz5_1 : w4.cell? ⟨gb408, 1, none⟩ = some (.slice A0_1 l0_1.length c0_1) := (blk_cell BK408.out 1).trans rfl; have hfz5_0 := blk_frozen BK408.out 0; have hfz5_1 := blk_frozen BK408.out 1) | ((with_reducible refine gate_callee (f := 90) rfl ?_); refine goesL_ (some 4) rfl rfl Try.func90 (by kernel_rfl) rfl #[.agg #[.slice A0_0 l0_0.length c0_0, .slice A0_1 l0_1.length c0_1]] rfl (by (try simp only [List.map_toArray, List.map_cons, List.map_nil]); first | done | rfl | (simp only [List.length_drop, List.length_take]; rfl)) ?_; (with_reducible refine (impl_Flow_slowest.calls _ _ l0_0 _ _ l0_1 t409 _ ?side1 ?side2 ?side3 ?side4 A2.out).mono ?_); (case side1 => repeat (first | exact (Kd.C_below HR0_0.out HB.out) | (with_reducible refine Kd.C_alloc ?_ _) | (with_reducible refine Kd.C_drewN ?_ _) | (with_reducible refine Kd.C_drew ?_))); (case side2 => first | exact trivial | (exact HC0_0.out)); (case side3 => repeat (first | exact (Kd.C_below HR0_1.out HB.out) | (with_reducible refine Kd.C_alloc ?_ _) | (with_reducible refine Kd.C_drewN ?_ _) | (with_reducible refine Kd.C_drew ?_))); (case side4 => first | exact trivial | (exact HC0_1.out)); rintro e w6 ⟨v410, rfl, ho0, hb⟩; refine ⟨_, rfl, ?_⟩; have n0_ := Aside0.mk (Kd.R_lower ho0 (below_size (by repeat (first | (with_reducible first | exact HB.out | apply below_alloc | apply pw_below_drewN | apply below_drew1 | refine below_set ?_ GE408.out) | exact HB.out)))); have n1_ := Aside0.mk (blk_below (g := gb408) (o := .cells #[.slice A0_0 l0_0.length c0_0, .slice A0_1 l0_1.length c0_1] 36 (0, 0)) (by (with_reducible repeat (first | refine blk_drewN ?_ _ | refine blk_drew ?_ | refine blk_alloc ?_ _)); exact BK408.out) hb); have n2_ := Aside0.mk (below_step (by repeat (first | (with_reducible first | exact HB.out | apply below_alloc | apply pw_below_drewN | apply below_drew1 | refine below_set ?_ GE408.out) | exact HB.out)) hb); clear BK408; clear HB; have HO411 := n0_; have BK408 := n1_; have HB := n2_; clear n0_ n1_ n2_; (try clear hb); (try clear hb2); (try clear hk); (try clear hi); (try clear ho0); obtain ⟨Ao7, co7, eo7⟩ := Kd.R_slice HO411.out; subst eo7) | ((with_reducible refine gate_callee (f := 75) rfl ?_); refine goesL_ (some 5) rfl rfl Try.func75 (by kernel_rfl) rfl #[.slice Ao7 t409.length co7] rfl (by (try simp only [List.map_toArray, List.map_cons, List.map_nil]); first | done | rfl | (simp only [List.length_drop, List.length_take]; rfl)) ?_; (with_reducible refine (slices_Max_int64_int64.calls k _ _ t409 t412 _ ?side1 ?side2 A3.out).mono ?_); (case side1 => repeat (first | exact (Kd.R_reads' HO411.out).2.2 | (with_reducible refine Kd.C_alloc ?_ _) | (with_reducible refine Kd.C_drewN ?_ _) | (with_reducible refine Kd.C_drew ?_))); (case side2 => first | exact trivial | (exact (Kd.R_reads' HO411.out).2.1)); rintro e w8 ⟨rfl, hb⟩; refine ⟨_, rfl, ?_⟩; have n0_ := Aside0.mk (Kd.R_below (by (with_reducible repeat (first | apply Kd.R_alloc | apply Kd.R_drewN | apply Kd.R_drew)); exact HO411.out) hb); have n1_ := Aside0.mk (blk_below (g := gb408) (o := .cells #[.slice A0_0 l0_0.length c0_0, .slice A0_1 l0_1.length c0_1] 36 (0, 0)) (by (with_reducible repeat (first | refine blk_drewN ?_ _ | refine blk_drew ?_ | refine blk_alloc ?_ _)); exact BK408.out) hb); have n2_ := Aside0.mk (below_step (by repeat (first | (with_reducible first | exact HB.out | apply below_alloc | apply pw_below_drewN | apply below_drew1 | refine below_set ?_ GE408.out) | exact HB.out)) hb); clear HO411; clear BK408; clear HB; have HO411 := n0_; have BK408 := n1_; have HB := n2_; clear n0_ n1_ n2_; (try clear hb); (try clear hb2); (try clear hk); (try clear hi)))
 go_ret
 exact ⟨by first | rfl | (simp [errW_none, errW_some] <;> rfl) | (simp [*, errW_none, errW_some] <;> rfl), by repeat (first | (with_reducible first | exact HB.out | apply below_alloc | apply pw_below_drewN | apply below_drew1 | refine below_set ?_ GE408.out) | exact HB.out)⟩
end Go.Proofs.Ytojpibpjieanhaa.X
end
section
namespace Go.Proofs.Ytojpibpjieanhaa.X
open Go.RowKit Go.Proofs.YtojpibpjieanhaaW.PrintWords Go.Proofs.YtojpibpjieanhaaW.PrintLast Go.Proofs.YtojpibpjieanhaaW.PrintMore
set_option linter.unusedVariables false
set_option linter.unusedSimpArgs false
def slN (K : Nat) (d : List Int) (ws : List S55) (T : Int) : Nat → Nat → List Int → Option (List Int)
  | 0, _, b => some b
  | e + 1, i, b => (extF K d ws T K [(i : Int)] (rd d (i : Int)) b).bind fun b' => slN K d ws T e (i + 1) b'
def impl_SlowestPath.f (k : Nat) (l0 : List Int) (l1 : List S55) : Option (List Int × Bool) :=
  (impl_ValidFlow.f k l0 l1).bind fun b1 => if b1 = true then (if l0.length ≤ 1000000 ∧ l1.length ≤ 1000000 then (impl_Flow_period.f k l0 l1).bind fun T => (slN k l0 l1 T l0.length 0 []).bind fun p => some (p, true) else none) else some ([], false)
set_option maxHeartbeats 4000000 in
set_option maxRecDepth 100000 in
theorem iSlow_1 (k : Nat) (A0 : Option Addr) (c0 : Nat) (l0 : List Int) (A1 : Option Addr) (c1 : Nat) (l1 : List S55) (w : World) (hr0 : Kd.C (Kd.int .i64) w A0 l0.length l0) (hc0 : l0.length ≤ c0) (hr1 : Kd.C k55 w A1 l1.length l1) (hc1 : l1.length ≤ c1) (h1 : impl_ValidFlow.f k l0 l1 = some false) :
    Calls Try.prog 38 #[.agg #[.slice A0 l0.length c0, .slice A1 l1.length c1]] w fun e w' => ∃ v : Value, e = .returned (.tuple #[v, .bool false]) ∧ Kd.R (Kd.int .i64) 2 w' w.heap.size (fun _ => True) v ([] : List Int) ∧ Below w.heap.size w w' := by
  have HVF : Aside0 (∀ W, Below w.heap.size w W → Calls Try.prog 23 #[.agg #[.slice A0 l0.length c0, .slice A1 l1.length c1]] W fun e w' => e = .returned (.bool false) ∧ Below W.heap.size W w') := ⟨fun W hW => impl_ValidFlow.calls k A0 c0 l0 A1 c1 l1 false W (Kd.C_below hr0 hW) hc0 (Kd.C_below hr1 hW) hc1 h1⟩
  clear hr0 hr1 h1 hc0 hc1
  have HB := Aside0.mk (Below.refl w.heap.size w)
  go_enter Try.func38, Try.ntmps38
  go_wp2_with (first
    | ((with_reducible refine gate_dst (N := 1) rfl ?_); refine box_event ?hg (N := 1) ?hd (cs := #[.slice A0 l0.length c0, .slice A1 l1.length c1]) (t := 36) ?hr ?_; (case hd => rfl); (case hg => rfl); (case hr => first | (go_simp; done) | (go_simp; rfl)); intro g4 hg wn hbox hb; have GE4 := Aside0.mk (by rw [hg]; exact below_size HB.out : w.heap.size ≤ g4); clear hg; have BK4 := Aside0.mk hbox; have n0_ := Aside0.mk (below_step HB.out hb); clear HB hb hbox; have HB := n0_; clear n0_; have k4_0 : wn.cell? ⟨g4, 0, none⟩ = some (.slice A0 l0.length c0) := (blk_cell BK4.out 0).trans rfl; have k4_1 : wn.cell? ⟨g4, 1, none⟩ = some (.slice A1 l1.length c1) := (blk_cell BK4.out 1).trans rfl)
    | (go_at_call 23; (with_reducible refine (HVF.out _ HB.out).mono ?_); rintro e w23 ⟨rfl, hb⟩; have n0_ := Aside0.mk (below_step HB.out hb); have n1_ := Aside0.mk (blk_below BK4.out hb); clear HB BK4 k4_0 k4_1 hb; have HB := n0_; have BK4 := n1_; clear n0_ n1_; have k4_0 : w23.cell? ⟨g4, 0, none⟩ = some (.slice A0 l0.length c0) := (blk_cell BK4.out 0).trans rfl; have k4_1 : w23.cell? ⟨g4, 1, none⟩ = some (.slice A1 l1.length c1) := (blk_cell BK4.out 1).trans rfl))
  go_ret2
  exact ⟨_, rfl, Kd.R_nil _ _ _ _ _, HB.out⟩
set_option maxHeartbeats 8000000 in
set_option maxRecDepth 100000 in
theorem iSlow_2 (k : Nat) (A0 : Option Addr) (c0 : Nat) (l0 : List Int) (A1 : Option Addr) (c1 : Nat) (l1 : List S55) (T : Int) (r : List Int) (w : World) (hn : l0.length ≤ 1000000) (hm : l1.length ≤ 1000000) (hr0 : Kd.C (Kd.int .i64) w A0 l0.length l0) (hc0 : l0.length ≤ c0) (hr1 : Kd.C k55 w A1 l1.length l1) (hc1 : l1.length ≤ c1) (h1 : impl_ValidFlow.f k l0 l1 = some true) (h2 : impl_Flow_period.f k l0 l1 = some T) (h3 : slN k l0 l1 T l0.length 0 [] = some r) :
    Calls Try.prog 38 #[.agg #[.slice A0 l0.length c0, .slice A1 l1.length c1]] w fun e w' => ∃ v : Value, e = .returned (.tuple #[v, .bool true]) ∧ Kd.R (Kd.int .i64) 2 w' w.heap.size (fun _ => True) v r ∧ Below w.heap.size w w' := by
  have HVF : Aside0 (∀ W, Below w.heap.size w W → Calls Try.prog 23 #[.agg #[.slice A0 l0.length c0, .slice A1 l1.length c1]] W fun e w' => e = .returned (.bool true) ∧ Below W.heap.size W w') := ⟨fun W hW => impl_ValidFlow.calls k A0 c0 l0 A1 c1 l1 true W (Kd.C_below hr0 hW) hc0 (Kd.C_below hr1 hW) hc1 h1⟩
  have HPF : Aside0 (∀ W, Below w.heap.size w W → Calls Try.prog 59 #[.agg #[.slice A0 l0.length c0, .slice A1 l1.length c1]] W fun e w' => e = .returned (.int .i64 T) ∧ Below W.heap.size W w') := ⟨fun W hW => impl_Flow_period.calls k A0 c0 l0 A1 c1 l1 T W (Kd.C_below hr0 hW) hc0 (Kd.C_below hr1 hW) hc1 h2⟩
  have HF := Aside0.mk h3
  have HR0 := Aside0.mk hr0
  have HR1 := Aside0.mk hr1
  have HC0 := Aside0.mk hc0
  have HC1 := Aside0.mk hc1
  clear hr0 hr1 h1 h2 h3 hc0 hc1
  have HB := Aside0.mk (Below.refl w.heap.size w)
  go_enter Try.func38, Try.ntmps38
  go_upto_region 3 with (first
    | ((with_reducible refine gate_dst (N := 1) rfl ?_); refine box_event ?hg (N := 1) ?hd (cs := #[.slice A0 l0.length c0, .slice A1 l1.length c1]) (t := 36) ?hr ?_; (case hd => rfl); (case hg => rfl); (case hr => first | (go_simp; done) | (go_simp; rfl)); intro g4 hg wn hbox hb; have GE4 := Aside0.mk (by rw [hg]; exact below_size HB.out : w.heap.size ≤ g4); clear hg; have BK4 := Aside0.mk hbox; have n0_ := Aside0.mk (below_step HB.out hb); clear HB hb hbox; have HB := n0_; clear n0_; have k4_0 : wn.cell? ⟨g4, 0, none⟩ = some (.slice A0 l0.length c0) := (blk_cell BK4.out 0).trans rfl; have k4_1 : wn.cell? ⟨g4, 1, none⟩ = some (.slice A1 l1.length c1) := (blk_cell BK4.out 1).trans rfl)
    | (go_at_call 23; (with_reducible refine (HVF.out _ HB.out).mono ?_); rintro e w23 ⟨rfl, hb⟩; have n0_ := Aside0.mk (below_step HB.out hb); have n1_ := Aside0.mk (blk_below BK4.out hb); clear HB BK4 k4_0 k4_1 hb; have HB := n0_; have BK4 := n1_; clear n0_ n1_; have k4_0 : w23.cell? ⟨g4, 0, none⟩ = some (.slice A0 l0.length c0) := (blk_cell BK4.out 0).trans rfl; have k4_1 : w23.cell? ⟨g4, 1, none⟩ = some (.slice A1 l1.length c1) := (blk_cell BK4.out 1).trans rfl))
  have HA := Aside0.mk (below_alloc (Below.refl w23.heap.size w23) (.cells #[] 2))
  have HRE0 := Aside0.mk (Kd.R_of_own (enc := Value.int .i64) (h1 := fun _ => rfl) (ok := fun _ => True) (own_lit_of (enc := Value.int .i64) w23 w.heap.size 2 ([] : List Int) (below_size HB.out) (by simp)) (fun _ _ => trivial))
  have ka_0 : (w23.alloc (.cells #[] 2)).cell? ⟨g4, 0, none⟩ = some (.slice A0 l0.length c0) := pw_cell_below HA.out k4_0
  have ka_1 : (w23.alloc (.cells #[] 2)).cell? ⟨g4, 1, none⟩ = some (.slice A1 l1.length c1) := pw_cell_below HA.out k4_1
  go_upto_region 6 with (first
    | (go_at_call 59; (with_reducible refine (HPF.out _ (below_step HB.out HA.out)).mono ?_); rintro e w59 ⟨rfl, hb⟩; have n0_ := Aside0.mk (below_step HB.out (below_step HA.out hb)); have n1_ := Aside0.mk (blk_below BK4.out (below_step HA.out hb)); have HRE := Aside0.mk (Kd.R_below HRE0.out hb); clear HB BK4 k4_0 k4_1 hb HRE0 ka_0 ka_1 HA; have HB := n0_; have BK4 := n1_; clear n0_ n1_)
    | ((with_reducible refine gate_dst (N := 4) rfl ?_); refine box_event ?hg (N := 4) ?hd (cs := #[.slice none 0 0]) (t := 22) ?hr ?_; (case hd => rfl); (case hg => rfl); (case hr => first | (go_simp; done) | (go_simp; rfl)); intro g3 hg wa hbox hb; have GE3 := Aside0.mk (by rw [hg]; exact below_size HB.out : w.heap.size ≤ g3); clear hg; have BK3 := Aside0.mk hbox; have n0_ := Aside0.mk (below_step HB.out hb); have n1_ := Aside0.mk (blk_below BK4.out hb); have n2_ := Aside0.mk (Kd.R_below HRE.out hb); clear HB BK4 HRE hb hbox; have HB := n0_; have BK4 := n1_; have HRE := n2_; clear n0_ n1_ n2_)
    | ((with_reducible refine gate_dst (N := 5) rfl ?_); refine box_event ?hg (N := 5) ?hd (cs := #[.int .i64 0]) (t := 2) ?hr ?_; (case hd => rfl); (case hg => rfl); (case hr => first | (go_simp; done) | (go_simp; rfl)); intro g2 hg wb hbox hb; have GE2 := Aside0.mk (by rw [hg]; exact below_size HB.out : w.heap.size ≤ g2); have NE2 := Aside0.mk (by have := Kd.R_lt HRE.out w23.heap.size rfl; rw [hg]; intro e; injection e with e; omega : some g2 ≠ some w23.heap.size); clear hg; have BK2 := Aside0.mk hbox; have n0_ := Aside0.mk (below_step HB.out hb); have n1_ := Aside0.mk (blk_below BK4.out hb); have n2_ := Aside0.mk (Kd.R_below HRE.out hb); have n3_ := Aside0.mk (blk_below BK3.out hb); clear HB BK4 HRE BK3 hb hbox; have HB := n0_; have BK4 := n1_; have HRE := n2_; have BK3 := n3_; clear n0_ n1_ n2_ n3_; have k3 : wb.cell? ⟨g3, 0, none⟩ = some (.slice none 0 0) := (blk_cell BK3.out 0).trans rfl; have z3 := blk_frozen BK3.out 0; have P3 := Aside0.mk (blk_put BK3.out 0 (.slice (some ⟨w23.heap.size, 0, none⟩) 0 0) rfl); have F2 := Aside0.mk (blk_far BK2.out (p := ⟨g3, 0, none⟩) (blk_ne BK2.out BK3.out (by decide)) (.slice (some ⟨w23.heap.size, 0, none⟩) 0 0)); have k2 : (wb.setCell ⟨g3, 0, none⟩ (.slice (some ⟨w23.heap.size, 0, none⟩) 0 0)).cell? ⟨g2, 0, none⟩ = some (.int .i64 0) := (blk_cell F2.out 0).trans rfl; have z2 := blk_frozen F2.out 0; have S2 := Aside0.mk (blk_put F2.out 0 (.int .i64 T) rfl); have S3 := Aside0.mk (blk_far P3.out (p := ⟨g2, 0, none⟩) (blk_ne P3.out F2.out (by decide)) (.int .i64 T)); have S4 := Aside0.mk (blk_far (blk_far BK4.out (p := ⟨g3, 0, none⟩) (blk_ne BK4.out BK3.out (by decide)) (.slice (some ⟨w23.heap.size, 0, none⟩) 0 0)) (p := ⟨g2, 0, none⟩) (blk_ne BK4.out BK2.out (by decide)) (.int .i64 T)); have SR := Aside0.mk (Kd.R_far (p := ⟨g2, 0, none⟩) (Kd.R_far1 (Kd.R_far (p := ⟨g3, 0, none⟩) (Kd.R_types HRE.out BK3.out (by decide)) (fun _ hk => hk.2) (.slice (some ⟨w23.heap.size, 0, none⟩) 0 0)) rfl NE2.out) (fun _ hk => hk.2) (.int .i64 T)); have SB := Aside0.mk ((HB.out.setCell (p := ⟨g3, 0, none⟩) GE3.out (.slice (some ⟨w23.heap.size, 0, none⟩) 0 0)).setCell (p := ⟨g2, 0, none⟩) GE2.out (.int .i64 T)))
    | ((with_reducible refine gate_dst (N := 6) rfl ?_); refine box_event ?hg (N := 6) ?hd (cs := #[.nilFunc]) (t := 84) ?hr ?_; (case hd => rfl); (case hg => rfl); (case hr => first | (go_simp; done) | (go_simp; rfl)); intro g5 hg wc hbox hb; have GE5 := Aside0.mk (by rw [hg]; exact below_size SB.out : w.heap.size ≤ g5); clear hg; have BK5 := Aside0.mk hbox; have HXW := Aside0.mk (show ExtW w l0 l1 T g2 g3 g4 g5 A0 c0 A1 c1 [] (wc.setCell ⟨g5, 0, none⟩ (.func (.func 67) #[] #[.pointer (some ⟨g2, 0, none⟩), .pointer (some ⟨g3, 0, none⟩), .pointer (some ⟨g4, 0, none⟩), .pointer (some ⟨g5, 0, none⟩)])) from ⟨blk_far (blk_below S2.out hb) (p := ⟨g5, 0, none⟩) (blk_ne (blk_below S2.out hb) hbox (by decide)) _, ⟨some ⟨w23.heap.size, 0, none⟩, 0, blk_far (blk_below S3.out hb) (p := ⟨g5, 0, none⟩) (blk_ne (blk_below S3.out hb) hbox (by decide)) _, Kd.R_mono (Kd.R_far (p := ⟨g5, 0, none⟩) (Kd.R_types (Kd.R_below SR.out hb) hbox (by decide)) (fun _ hk => hk.2) _) (fun _ hk => hk.1.1.2)⟩, blk_far (blk_below S4.out hb) (p := ⟨g5, 0, none⟩) (blk_ne (blk_below S4.out hb) hbox (by decide)) _, blk_put hbox 0 _ rfl, GE3.out, (below_step SB.out hb).setCell (p := ⟨g5, 0, none⟩) GE5.out _⟩); have k5 : wc.cell? ⟨g5, 0, none⟩ = some .nilFunc := (blk_cell hbox 0).trans rfl; have z5 := blk_frozen hbox 0; have hst := fun (W : World) => run_store Try.prog W (⟨g5, 0, none⟩ : Addr) (.func (.func 67) #[] #[.pointer (some ⟨g2, 0, none⟩), .pointer (some ⟨g3, 0, none⟩), .pointer (some ⟨g4, 0, none⟩), .pointer (some ⟨g5, 0, none⟩)]) Mode.plain rfl; clear hb hbox BK5 SR SB S2 S3 S4 HB BK2 BK3 BK4 HRE k3 z3 P3 F2 k2 z2 NE2))
  generalize wc.setCell ⟨g5, 0, none⟩ (.func (.func 67) #[] #[.pointer (some ⟨g2, 0, none⟩), .pointer (some ⟨g3, 0, none⟩), .pointer (some ⟨g4, 0, none⟩), .pointer (some ⟨g5, 0, none⟩)]) = W5 at HXW ⊢
  clear k5 z5 hst
  obtain ⟨n, hn0⟩ : ∃ n, n = l0.length := ⟨_, rfl⟩
  have HN0 := Aside0.mk hn0
  have k4_0 : W5.cell? ⟨g4, 0, none⟩ = some (.slice A0 n c0) := (blk_cell HXW.out.b4 0).trans (by rw [← hn0]; rfl)
  rw [← hn0] at hn HF ⊢
  clear hn0
  go_wp2
  go_loopg [19] n (fun kq v19 w' => ∃ (i : Nat) (bb : List Int), v19 = .int .i64 i ∧ Aside0 (i + kq = n) ∧ Aside0 (slN k l0 l1 T kq i bb = some r) ∧ Aside0 (ExtW w l0 l1 T g2 g3 g4 g5 A0 c0 A1 c1 bb w'))
  case atStart => exact ⟨0, [], by first | rfl | simp, ⟨by omega⟩, HF, HXW⟩
  case round =>
    clear HF HXW k4_0
    obtain ⟨i, bb, rfl, HE, HF, HX⟩ := hrel
    by_cases hlt : i < n
    · cases gk with
      | zero => have := HE.out; omega
      | succ gq =>
      have hF := HF.out
      rw [slN] at hF
      obtain ⟨b2, hS, hF⟩ := Option.bind_eq_some_iff.mp hF
      have HS := Aside0.mk hS
      have HF2 := Aside0.mk hF
      clear hS hF HF
      obtain ⟨ad, hA, dA⟩ := Kd.at_int (Kd.C_below HR0.out HX.out.bel) (i : Int) (by omega) (by rw [← HN0.out]; omega)
      cases hA
      rw [Int.toNat_natCast] at dA
      obtain ⟨x, hx⟩ : ∃ x, x = rd l0 (i : Int) := ⟨_, rfl⟩
      rw [← hx] at dA HS
      clear hx
      have p0 : (0 ≤ (i : Int)) = True := eq_true (by omega)
      have p1 : ((i : Int) < (n : Int)) = True := eq_true (by omega)
      have f1 : decide ((i : Int) < (n : Int)) = true := decide_eq_true (by omega)
      have f2 : decide (i < n) = true := decide_eq_true hlt
      have wi : IntKind.i64.wrap ((i : Int) + 1) = (i : Int) + 1 := IntWalk.i64_in _ ⟨by omega, by omega⟩
      have k5 : wr.cell? ⟨g5, 0, none⟩ = some (.func (.func 67) #[] #[.pointer (some ⟨g2, 0, none⟩), .pointer (some ⟨g3, 0, none⟩), .pointer (some ⟨g4, 0, none⟩), .pointer (some ⟨g5, 0, none⟩)]) := (blk_cell HX.out.b5 0).trans rfl
      have HA := Aside0.mk (below_alloc (Below.refl wr.heap.size wr) (.cells #[.int .i64 (i : Int)] 2))
      have HRL := Aside0.mk (Kd.R_of_own (enc := Value.int .i64) (h1 := fun _ => rfl) (ok := fun _ => True) (own_lit_of (enc := Value.int .i64) wr w.heap.size 2 [(i : Int)] (below_size HX.out.bel) (by simp)) (fun _ _ => trivial))
      have HC : Aside0 (Calls Try.prog 67 #[.slice (some ⟨wr.heap.size, 0, none⟩) 1 1, .int .i64 x, .pointer (some ⟨g2, 0, none⟩), .pointer (some ⟨g3, 0, none⟩), .pointer (some ⟨g4, 0, none⟩), .pointer (some ⟨g5, 0, none⟩)] (wr.alloc (.cells #[.int .i64 (i : Int)] 2)) fun e w' => e = .returned (.tuple #[]) ∧ ExtP w l0 l1 T g2 g3 g4 g5 (some ad) c0 A1 c1 b2 (wr.alloc (.cells #[.int .i64 (i : Int)] 2)) w') :=
        ⟨ext_walk k HR0.out HR1.out HC0.out HC1.out k [(i : Int)] x (some ⟨wr.heap.size, 0, none⟩) 1 bb b2 _ (HX.out.move HA.out) (ok3 (HX.out.move HA.out) HRL.out) HS.out⟩
      clear HRL HS
      go_wp2_with ((with_reducible refine gate_dst (N := 28) rfl ?_); refine goesV_ (some 28) rfl rfl Try.func67 rfl (by kernel_rfl) #[.slice (some ⟨wr.heap.size, 0, none⟩) 1 1, .int .i64 x] rfl rfl (by simp [Act.eval, Act.put]) ?_; refine HC.out.mono ?_; rintro e w2 ⟨rfl, hp⟩; refine ⟨_, rfl, ?_⟩; have HX2 := Aside0.mk hp.1; clear hp)
      go_roundg gq
      case measure => omega
      case rel => exact ⟨i + 1, b2, by go_num, ⟨by have := HE.out; omega⟩, HF2, HX2⟩
    · have f1 : decide ((i : Int) < (n : Int)) = false := decide_eq_false (by omega)
      have f2 : decide (i < n) = false := decide_eq_false hlt
      have HBB : Aside0 (bb = r) := ⟨by
        have h := HF.out
        rw [show gk = 0 by have := HE.out; omega, slN] at h
        injection h⟩
      obtain ⟨A3, c3, q1, q2⟩ := HX.out.b3
      have k3 : wr.cell? ⟨g3, 0, none⟩ = some (.slice A3 bb.length c3) := (blk_cell q1 0).trans rfl
      have HQ := Aside0.mk q2
      clear q1 q2
      go_wp2
      go_ret2
      rw [← HBB.out]
      exact ⟨_, rfl, Kd.R_mono HQ.out (fun _ _ => trivial), HX.out.bel⟩
theorem impl_SlowestPath.calls (k : Nat) (A0_0 : Option Addr) (c0_0 : Nat) (l0_0 : List Int) (A0_1 : Option Addr) (c0_1 : Nat) (l0_1 : List (S55)) (r1 : List Int) (r2 : Bool) (w : World) (hr0_0 : Kd.C (Kd.int .i64) w A0_0 l0_0.length l0_0) (hc0_0 : l0_0.length ≤ c0_0) (hr0_1 : Kd.C k55 w A0_1 l0_1.length l0_1) (hc0_1 : l0_1.length ≤ c0_1) (h : impl_SlowestPath.f k l0_0 l0_1 = some (r1, r2)) :
    Calls Try.prog 38 #[.agg #[.slice A0_0 l0_0.length c0_0, .slice A0_1 l0_1.length c0_1]] w fun e w' => ∃ v : Value, e = .returned (.tuple #[v, .bool r2]) ∧ Kd.R (Kd.int .i64) 2 w' w.heap.size (fun _ => True) v r1 ∧ Below w.heap.size w w' := by
  unfold impl_SlowestPath.f at h
  obtain ⟨b1, h1, h⟩ := Option.bind_eq_some_iff.mp h
  cases b1 with
  | false =>
      rw [if_neg (by simp)] at h
      simp only [Option.some.injEq, Prod.mk.injEq] at h
      obtain ⟨rfl, rfl⟩ := h
      exact iSlow_1 k A0_0 c0_0 l0_0 A0_1 c0_1 l0_1 w hr0_0 hc0_0 hr0_1 hc0_1 h1
  | true =>
    rw [if_pos rfl] at h
    by_cases hc : l0_0.length ≤ 1000000 ∧ l0_1.length ≤ 1000000
    · rw [if_pos hc] at h
      obtain ⟨T, h2, h⟩ := Option.bind_eq_some_iff.mp h
      obtain ⟨p, h3, h⟩ := Option.bind_eq_some_iff.mp h
      simp only [Option.some.injEq, Prod.mk.injEq] at h
      obtain ⟨rfl, rfl⟩ := h
      exact iSlow_2 k A0_0 c0_0 l0_0 A0_1 c0_1 l0_1 T p w hc.1 hc.2 hr0_0 hc0_0 hr0_1 hc0_1 h1 h2 h3
    · rw [if_neg hc] at h; cases h
end Go.Proofs.Ytojpibpjieanhaa.X
end
section
-- Written by a program of this session out of the kit's print of the loaded functions: a plain function of a Go function, and its contract.
namespace Go.Proofs.Ytojpibpjieanhaa.X
open Go.RowKit Go.Proofs.YtojpibpjieanhaaW.PrintWords Go.Proofs.YtojpibpjieanhaaW.PrintLast Go.Proofs.YtojpibpjieanhaaW.PrintMore
attribute [local go_sem] max2_int min2_int max_two min_two max_three min_three max_four min_four   -- for this text's walks alone
set_option linter.unusedVariables false
set_option linter.unusedSimpArgs false
def spec_l00Own.f (l0 : List Int) : Option (List Int) := (some (([] : List Int) : List Int)).bind fun y313 => (if y313.length + l0.length < 17592186044416 then (some (y313 ++ l0)) else (none))
end Go.Proofs.Ytojpibpjieanhaa.X
end
section
namespace Go.Proofs.Ytojpibpjieanhaa.X
open Go.RowKit Go.Proofs.YtojpibpjieanhaaW.PrintWords Go.Proofs.YtojpibpjieanhaaW.PrintLast Go.Proofs.YtojpibpjieanhaaW.PrintMore
set_option linter.unusedVariables false
set_option linter.unusedSimpArgs false
def fitB (ws : List S55) (l : List Int) (v : Int) : Nat → Bool
  | 0 => ((l.length : Int) == 0)
  | j + 1 => fitB ws l v j || (((rd_T55 ws (j : Int)).f2 == 0) && (((rd_T55 ws (j : Int)).f1 == v) && ((rd_T55 ws (j : Int)).f0 == rd l ((l.length : Int) - 1))))
def slowLoop (rec : List Int → Int → Option (List Int × Bool)) (d : List Int) (ws : List S55) (l : List Int) (left : Int) : Nat → Nat → Option (List Int × Bool)
  | 0, _ => some ([], false)
  | e + 1, v => if fitB ws l (v : Int) ws.length = true then (if rd d (v : Int) > left then slowLoop rec d ws l left e (v + 1) else (rec (l ++ [(v : Int)]) (wrap64 (left - rd d (v : Int)))).bind fun q => if q.2 = true then some (q.1, true) else slowLoop rec d ws l left e (v + 1)) else slowLoop rec d ws l left e (v + 1)
def slowF (d : List Int) (ws : List S55) (size : Int) : Nat → List Int → Int → Option (List Int × Bool)
  | 0, _, _ => none
  | k + 1, l, left => if l.length ≤ 1000000 then (if (l.length : Int) = size then some (l, (left == 0)) else slowLoop (slowF d ws size k) d ws l left d.length 0) else none
end Go.Proofs.Ytojpibpjieanhaa.X
end
section
-- Written by a program of this session out of the kit's print of the loaded functions: a plain function of a Go function, and its contract.
namespace Go.Proofs.Ytojpibpjieanhaa.X
open Go.RowKit Go.Proofs.YtojpibpjieanhaaW.PrintWords Go.Proofs.YtojpibpjieanhaaW.PrintLast Go.Proofs.YtojpibpjieanhaaW.PrintMore
attribute [local go_sem] max2_int min2_int max_two min_two max_three min_three max_four min_four   -- for this text's walks alone
set_option linter.unusedVariables false
set_option linter.unusedSimpArgs false
mutual
def spec_l08Behind.l0 : Nat → List Int → Int → List Int → List (S55) → Option (List Int × Bool)
 | 0, _, _, _, _ => none
 | k + 1, x4, x5, x1000, x1001 => if x5 ≤ (x1000.length : Int) then (spec_l08Behind.l1 k x4 x5 false 0 x1000 x1001) else (some (x4, false))
def spec_l08Behind.l1 : Nat → List Int → Int → Bool → Int → List Int → List (S55) → Option (List Int × Bool)
 | 0, _, _, _, _, _, _ => none
 | k + 1, x4, x5, x6, x7, x1000, x1001 => if x7 < (x1001.length : Int) then (if 0 ≤ x7 then (if 0 ≤ ((rd_T55 x1001 x7).f0) then (if ((rd_T55 x1001 x7).f0) < (x1000.length : Int) then (if 0 ≤ ((rd_T55 x1001 x7).f1) then (if ((rd_T55 x1001 x7).f1) < (x4.length : Int) then (if ((rd_T55 x1001 x7).f2) = 0 then (if ((rd_T55 x1001 x7).f0) < (x4.length : Int) then (if (wrap64 ((rd x1000 ((rd_T55 x1001 x7).f0)) + (rd x4 ((rd_T55 x1001 x7).f1)))) > (rd x4 ((rd_T55 x1001 x7).f0)) then (spec_l08Behind.l1 k (x4.set (((rd_T55 x1001 x7).f0) : Int).toNat (wrap64 ((rd x1000 ((rd_T55 x1001 x7).f0)) + (rd x4 ((rd_T55 x1001 x7).f1))))) x5 true (wrap64 (x7 + 1)) x1000 x1001) else (spec_l08Behind.l1 k x4 x5 x6 (wrap64 (x7 + 1)) x1000 x1001)) else (none)) else (spec_l08Behind.l1 k x4 x5 x6 (wrap64 (x7 + 1)) x1000 x1001)) else (none)) else (none)) else (none)) else (none)) else (none)) else (if x6 = true then (spec_l08Behind.l0 k x4 (wrap64 (x5 + 1)) x1000 x1001) else (some (x4, true)))
end
def spec_l08Behind.f (k : Nat) (s0_0 : List Int) (s0_1 : List (S55)) : Option (List Int × Bool) := (spec_l00Own.f s0_0).bind fun t391 => (spec_l08Behind.l0 k t391 0 s0_0 s0_1)
end Go.Proofs.Ytojpibpjieanhaa.X
end
section
-- Written by a program of this session out of the kit's print of the loaded functions: a plain function of a Go function, and its contract.
namespace Go.Proofs.Ytojpibpjieanhaa.X
open Go.RowKit Go.Proofs.YtojpibpjieanhaaW.PrintWords Go.Proofs.YtojpibpjieanhaaW.PrintLast Go.Proofs.YtojpibpjieanhaaW.PrintMore
attribute [local go_sem] max2_int min2_int max_two min_two max_three min_three max_four min_four   -- for this text's walks alone
set_option linter.unusedVariables false
set_option linter.unusedSimpArgs false
def spec_l00Max.f (a0 : Int) (a1 : Int) : Option (Int) := if a0 > a1 then (some a0) else (some a1)
end Go.Proofs.Ytojpibpjieanhaa.X
end
section
-- Written by a program of this session out of the kit's print of the loaded functions: a plain function of a Go function, and its contract.
namespace Go.Proofs.Ytojpibpjieanhaa.X
open Go.RowKit Go.Proofs.YtojpibpjieanhaaW.PrintWords Go.Proofs.YtojpibpjieanhaaW.PrintLast Go.Proofs.YtojpibpjieanhaaW.PrintMore
attribute [local go_sem] max2_int min2_int max_two min_two max_three min_three max_four min_four   -- for this text's walks alone
set_option linter.unusedVariables false
set_option linter.unusedSimpArgs false
def spec_l08Period.l0 : Nat → List Int → Int → Int → Option (Int)
 | 0, _, _, _ => none
 | k + 1, x3, x5, x6 => if x6 < (x3.length : Int) then (if 0 ≤ x6 then ((spec_l00Max.f x5 (rd x3 x6)).bind fun t405 => (spec_l08Period.l0 k x3 t405 (wrap64 (x6 + 1)))) else (none)) else (some x5)
def spec_l08Period.f (k : Nat) (s0_0 : List Int) (s0_1 : List (S55)) : Option (Int) := (spec_l08Behind.f k s0_0 s0_1).bind fun bt400 => (spec_l08Period.l0 k bt400.1 0 0)
end Go.Proofs.Ytojpibpjieanhaa.X
end
section
namespace Go.Proofs.Ytojpibpjieanhaa.X
open Go.RowKit Go.Proofs.YtojpibpjieanhaaW.PrintWords Go.Proofs.YtojpibpjieanhaaW.PrintLast Go.Proofs.YtojpibpjieanhaaW.PrintMore
set_option linter.unusedVariables false
set_option linter.unusedSimpArgs false
def slowTop (K : Nat) (d : List Int) (ws : List S55) (T : Int) : Nat → Nat → Option (List Int)
  | 0, _ => none
  | e + 1, s => if s < 1000000 then (slowF d ws (s : Int) K [] T).bind fun q => (if q.2 = true then some q.1 else slowTop K d ws T e (s + 1)) else none
def spec_SlowestPath.f (k : Nat) (l0 : List Int) (l1 : List S55) : Option (List Int × Bool) :=
  (spec_l08Is.f k l0 l1).bind fun b1 => if b1 = true then (if l0.length ≤ 1000000 ∧ l1.length ≤ 1000000 then (spec_l08Period.f k l0 l1).bind fun T => (slowTop k l0 l1 T k 1).bind fun p => some (p, true) else none) else some ([], false)
end Go.Proofs.Ytojpibpjieanhaa.X
end
section
-- Written by a program of this session out of the kit's print of the loaded functions: a plain function of a Go function, and its contract.
namespace Go.Proofs.Ytojpibpjieanhaa.X
open Go.RowKit Go.Proofs.YtojpibpjieanhaaW.PrintWords Go.Proofs.YtojpibpjieanhaaW.PrintLast Go.Proofs.YtojpibpjieanhaaW.PrintMore
attribute [local go_sem] max2_int min2_int max_two min_two max_three min_three max_four min_four   -- for this text's walks alone
set_option linter.unusedVariables false
set_option linter.unusedSimpArgs false
end Go.Proofs.Ytojpibpjieanhaa.X
end
section
-- Written by a program of this session out of the kit's print of the loaded functions: a plain function of a Go function, and its contract.
namespace Go.Proofs.Ytojpibpjieanhaa.X
open Go.RowKit Go.Proofs.YtojpibpjieanhaaW.PrintWords Go.Proofs.YtojpibpjieanhaaW.PrintLast Go.Proofs.YtojpibpjieanhaaW.PrintMore
attribute [local go_sem] max2_int min2_int max_two min_two max_three min_three max_four min_four   -- for this text's walks alone
set_option linter.unusedVariables false
set_option linter.unusedSimpArgs false
end Go.Proofs.Ytojpibpjieanhaa.X
end
section
namespace Go.Proofs.Ytojpibpjieanhaa.X
open Go.RowKit Go.Proofs.YtojpibpjieanhaaW.PrintWords Go.Proofs.YtojpibpjieanhaaW.PrintLast Go.Proofs.YtojpibpjieanhaaW.PrintMore
set_option linter.unusedVariables false
set_option linter.unusedSimpArgs false
end Go.Proofs.Ytojpibpjieanhaa.X
end
section
-- Written by a program of this session out of the kit's print of the loaded functions: a plain function of a Go function, and its contract.
namespace Go.Proofs.Ytojpibpjieanhaa.X
open Go.RowKit Go.Proofs.YtojpibpjieanhaaW.PrintWords Go.Proofs.YtojpibpjieanhaaW.PrintLast Go.Proofs.YtojpibpjieanhaaW.PrintMore
attribute [local go_sem] max2_int min2_int max_two min_two max_three min_three max_four min_four   -- for this text's walks alone
set_option linter.unusedVariables false
set_option linter.unusedSimpArgs false
end Go.Proofs.Ytojpibpjieanhaa.X
end
section
-- Written by a program of this session out of the kit's print of the loaded functions: a plain function of a Go function, and its contract.
namespace Go.Proofs.Ytojpibpjieanhaa.X
open Go.RowKit Go.Proofs.YtojpibpjieanhaaW.PrintWords Go.Proofs.YtojpibpjieanhaaW.PrintLast Go.Proofs.YtojpibpjieanhaaW.PrintMore
attribute [local go_sem] max2_int min2_int max_two min_two max_three min_three max_four min_four   -- for this text's walks alone
set_option linter.unusedVariables false
set_option linter.unusedSimpArgs false
end Go.Proofs.Ytojpibpjieanhaa.X
end
section
-- Written by a program of this session out of the kit's print of the loaded functions: a plain function of a Go function, and its contract.
namespace Go.Proofs.Ytojpibpjieanhaa.X
open Go.RowKit Go.Proofs.YtojpibpjieanhaaW.PrintWords Go.Proofs.YtojpibpjieanhaaW.PrintLast Go.Proofs.YtojpibpjieanhaaW.PrintMore
attribute [local go_sem] max2_int min2_int max_two min_two max_three min_three max_four min_four   -- for this text's walks alone
set_option linter.unusedVariables false
set_option linter.unusedSimpArgs false
end Go.Proofs.Ytojpibpjieanhaa.X
end
section
-- Written by a program of this session out of the kit's print of the loaded functions: a plain function of a Go function, and its contract.
namespace Go.Proofs.Ytojpibpjieanhaa.X
open Go.RowKit Go.Proofs.YtojpibpjieanhaaW.PrintWords Go.Proofs.YtojpibpjieanhaaW.PrintLast Go.Proofs.YtojpibpjieanhaaW.PrintMore
attribute [local go_sem] max2_int min2_int max_two min_two max_three min_three max_four min_four   -- for this text's walks alone
set_option linter.unusedVariables false
set_option linter.unusedSimpArgs false
end Go.Proofs.Ytojpibpjieanhaa.X
end
section
-- Written by a program of this session out of the kit's print of the loaded functions: a plain function of a Go function, and its contract.
namespace Go.Proofs.Ytojpibpjieanhaa.X
open Go.RowKit Go.Proofs.YtojpibpjieanhaaW.PrintWords Go.Proofs.YtojpibpjieanhaaW.PrintLast Go.Proofs.YtojpibpjieanhaaW.PrintMore
attribute [local go_sem] max2_int min2_int max_two min_two max_three min_three max_four min_four   -- for this text's walks alone
set_option linter.unusedVariables false
set_option linter.unusedSimpArgs false
end Go.Proofs.Ytojpibpjieanhaa.X
end
section
-- Written by a program of this session out of the kit's print of the loaded functions: a plain function of a Go function, and its contract.
namespace Go.Proofs.Ytojpibpjieanhaa.X
open Go.RowKit Go.Proofs.YtojpibpjieanhaaW.PrintWords Go.Proofs.YtojpibpjieanhaaW.PrintLast Go.Proofs.YtojpibpjieanhaaW.PrintMore
attribute [local go_sem] max2_int min2_int max_two min_two max_three min_three max_four min_four   -- for this text's walks alone
set_option linter.unusedVariables false
set_option linter.unusedSimpArgs false
end Go.Proofs.Ytojpibpjieanhaa.X
end
section
-- Written by a program of this session out of the kit's print of the loaded functions: a plain function of a Go function, and its contract.
namespace Go.Proofs.Ytojpibpjieanhaa.X
open Go.RowKit Go.Proofs.YtojpibpjieanhaaW.PrintWords Go.Proofs.YtojpibpjieanhaaW.PrintLast Go.Proofs.YtojpibpjieanhaaW.PrintMore
attribute [local go_sem] max2_int min2_int max_two min_two max_three min_three max_four min_four   -- for this text's walks alone
set_option linter.unusedVariables false
set_option linter.unusedSimpArgs false
end Go.Proofs.Ytojpibpjieanhaa.X
end
section
-- Written by a program of this session out of the kit's print of the loaded functions: a plain function of a Go function, and its contract.
namespace Go.Proofs.Ytojpibpjieanhaa.X
open Go.RowKit Go.Proofs.YtojpibpjieanhaaW.PrintWords Go.Proofs.YtojpibpjieanhaaW.PrintLast Go.Proofs.YtojpibpjieanhaaW.PrintMore
attribute [local go_sem] max2_int min2_int max_two min_two max_three min_three max_four min_four   -- for this text's walks alone
set_option linter.unusedVariables false
set_option linter.unusedSimpArgs false
end Go.Proofs.Ytojpibpjieanhaa.X
end
section
-- Written by a program of this session out of the kit's print of the loaded functions: a plain function of a Go function, and its contract.
namespace Go.Proofs.Ytojpibpjieanhaa.X
open Go.RowKit Go.Proofs.YtojpibpjieanhaaW.PrintWords Go.Proofs.YtojpibpjieanhaaW.PrintLast Go.Proofs.YtojpibpjieanhaaW.PrintMore
attribute [local go_sem] max2_int min2_int max_two min_two max_three min_three max_four min_four   -- for this text's walks alone
set_option linter.unusedVariables false
set_option linter.unusedSimpArgs false
end Go.Proofs.Ytojpibpjieanhaa.X
end
section
namespace Go.Proofs.Ytojpibpjieanhaa.X
open Go.RowKit Go.Proofs.YtojpibpjieanhaaW.PrintWords Go.Proofs.YtojpibpjieanhaaW.PrintLast Go.Proofs.YtojpibpjieanhaaW.PrintMore Go.Proofs.Ytojpibpjieanhaa.FlowMath
set_option linter.unusedVariables false
set_option linter.unusedSimpArgs false
end Go.Proofs.Ytojpibpjieanhaa.X
end
section
-- Written by a program of this session out of the kit's print of the loaded functions: a plain function of a Go function, and its contract.
namespace Go.Proofs.Ytojpibpjieanhaa.X
open Go.RowKit Go.Proofs.YtojpibpjieanhaaW.PrintWords Go.Proofs.YtojpibpjieanhaaW.PrintLast Go.Proofs.YtojpibpjieanhaaW.PrintMore
attribute [local go_sem] max2_int min2_int max_two min_two max_three min_three max_four min_four   -- for this text's walks alone
set_option linter.unusedVariables false
set_option linter.unusedSimpArgs false
def impl_FlowPeriod.f (k : Nat) (l0_0 : List Int) (l0_1 : List (S55)) : Option (Int × Bool) := (impl_ValidFlow.f k l0_0 l0_1).bind fun t414 => (if t414 = true then ((impl_Flow_period.f k l0_0 l0_1).bind fun t415 => (some (t415, true))) else (some (0, false)))
set_option maxHeartbeats 8000000 in
set_option maxRecDepth 100000 in
theorem impl_FlowPeriod.calls (k : Nat) (A0_0 : Option Addr) (c0_0 : Nat) (l0_0 : List Int) (A0_1 : Option Addr) (c0_1 : Nat) (l0_1 : List (S55)) (r1 : Int) (r2 : Bool) (w : World) (hr0_0 : Kd.C (Kd.int .i64) w A0_0 l0_0.length l0_0) (hc0_0 : l0_0.length ≤ c0_0) (hr0_1 : Kd.C k55 w A0_1 l0_1.length l0_1) (hc0_1 : l0_1.length ≤ c0_1) (h : impl_FlowPeriod.f k l0_0 l0_1 = some (r1, r2)) :
  Calls Try.prog 30 #[.agg #[.slice A0_0 l0_0.length c0_0, .slice A0_1 l0_1.length c0_1]] w fun e w' => e = .returned (.tuple #[.int .i64 r1, .bool r2]) ∧ Below w.heap.size w w' := by
 have hu36 := Try.underlying36
 have HR0_0 := Aside0.mk hr0_0
 have HC0_0 := Aside0.mk hc0_0
 clear hr0_0 hc0_0
 have HR0_1 := Aside0.mk hr0_1
 have HC0_1 := Aside0.mk hc0_1
 clear hr0_1 hc0_1
 have HB := Aside0.mk (Below.refl w.heap.size w)
 have H : ((impl_ValidFlow.f k l0_0 l0_1).bind fun t414 => (if t414 = true then ((impl_Flow_period.f k l0_0 l0_1).bind fun t415 => (some (t415, true))) else (some (0, false)))) = some (r1, r2) := h
 clear h
 replace H := Option.bind_eq_some_iff.mp H
 obtain ⟨t414, A20, H⟩ := H
 replace H : (if t414 = true then ((impl_Flow_period.f k l0_0 l0_1).bind fun t415 => (some (t415, true))) else (some (0, false))) = some (r1, r2) := H
 have A2 := Aside0.mk A20
 clear A20
 by_cases c3 : t414 = true
 ·subst c3
  have H1 : ((impl_Flow_period.f k l0_0 l0_1).bind fun t415 => (some (t415, true))) = some (r1, r2) := by rw [if_pos rfl] at H; exact H
  clear H
  have H := H1
  clear H1
  replace H := Option.bind_eq_some_iff.mp H
  obtain ⟨t415, A40, H⟩ := H
  replace H : (some (t415, true)) = some (r1, r2) := H
  have A4 := Aside0.mk A40
  clear A40
  simp only [Option.some.injEq, Prod.mk.injEq] at H
  obtain ⟨rfl, rfl⟩ := H
  go_enter Try.func30, Try.ntmps30
  go_wp2_with (first | ((with_reducible refine gate_dst (N := 1) rfl ?_); refine box_event ?hg (N := 1) ?hd (cs := #[.slice A0_0 l0_0.length c0_0, .slice A0_1 l0_1.length c0_1]) (t := 36) ?hr ?_; (case hd => rfl); (case hg => rfl); (case hr => first | (go_simp; done) | (go_simp; rfl)); intro gb413 hg w5 hbox hb; have n0_ := Aside0.mk (below_step (by repeat (first | (with_reducible first | exact HB.out | apply below_alloc | apply pw_below_drewN | apply below_drew1) | exact HB.out)) hb); have n1_ := Aside0.mk (hbox); have n2_ := Aside0.mk ((by rw [hg]; exact (below_size (by repeat (first | (with_reducible first | exact HB.out | apply below_alloc | apply pw_below_drewN | apply below_drew1) | exact HB.out))) : w.heap.size ≤ gb413)); have n3_ := Aside0.mk ((by rw [hg]; exact (below_size (by repeat (first | (with_reducible first | exact HB.out | apply below_alloc | apply pw_below_drewN | apply below_drew1) | exact HB.out))) : w.heap.size ≤ gb413)); clear HB; have HB := n0_; have BK413 := n1_; have GW413 := n2_; have GE413 := n3_; clear n0_ n1_ n2_ n3_; clear hb hbox hg; have hcz6_0 : w5.cell? ⟨gb413, 0, none⟩ = some (.slice A0_0 l0_0.length c0_0) := (blk_cell BK413.out 0).trans rfl; have hcz6_1 : w5.cell? ⟨gb413, 1, none⟩ = some (.slice A0_1 l0_1.length c0_1) := (blk_cell BK413.out 1).trans rfl; have hfz6_0 := blk_frozen BK413.out 0; have hfz6_1 := blk_frozen BK413.out 1) | ((with_reducible refine gate_callee (f := 23) rfl ?_); refine goesL_ (some 5) rfl rfl Try.func23 (by kernel_rfl) rfl #[.agg #[.slice A0_0 l0_0.length c0_0, .slice A0_1 l0_1.length c0_1]] rfl (by (try simp only [List.map_toArray, List.map_cons, List.map_nil]); first | done | rfl | (simp only [List.length_drop, List.length_take]; rfl)) ?_; (with_reducible refine (impl_ValidFlow.calls k _ _ l0_0 _ _ l0_1 true _ ?side1 ?side2 ?side3 ?side4 A2.out).mono ?_); (case side1 => repeat (first | exact (Kd.C_below HR0_0.out HB.out) | (with_reducible refine Kd.C_alloc ?_ _) | (with_reducible refine Kd.C_drewN ?_ _) | (with_reducible refine Kd.C_drew ?_))); (case side2 => first | exact trivial | (exact HC0_0.out)); (case side3 => repeat (first | exact (Kd.C_below HR0_1.out HB.out) | (with_reducible refine Kd.C_alloc ?_ _) | (with_reducible refine Kd.C_drewN ?_ _) | (with_reducible refine Kd.C_drew ?_))); (case side4 => first | exact trivial | (exact HC0_1.out)); rintro e w7 ⟨rfl, hb⟩; refine ⟨_, rfl, ?_⟩; have n0_ := Aside0.mk (blk_below (g := gb413) (o := .cells #[.slice A0_0 l0_0.length c0_0, .slice A0_1 l0_1.length c0_1] 36 (0, 0)) (by (with_reducible repeat (first | refine blk_drewN ?_ _ | refine blk_drew ?_ | refine blk_alloc ?_ _)); exact BK413.out) hb); have n1_ := Aside0.mk (below_step (by repeat (first | (with_reducible first | exact HB.out | apply below_alloc | apply pw_below_drewN | apply below_drew1 | refine below_set ?_ GE413.out) | exact HB.out)) hb); clear BK413; clear HB; have BK413 := n0_; have HB := n1_; clear n0_ n1_; (try clear hb); (try clear hb2); (try clear hk); (try clear hi); have hcz8_0 : w7.cell? ⟨gb413, 0, none⟩ = some (.slice A0_0 l0_0.length c0_0) := (blk_cell BK413.out 0).trans rfl; have hcz8_1 : w7.cell? ⟨gb413, 1, none⟩ = some (.slice A0_1 l0_1.length c0_1) := (blk_cell BK413.out 1).trans rfl; have hfz8_0 := blk_frozen BK413.out 0; have hfz8_1 := blk_frozen BK413.out 1) | ((with_reducible refine gate_callee (f := 59) rfl ?_); refine goesL_ (some 8) rfl rfl Try.func59 (by kernel_rfl) rfl #[.agg #[.slice A0_0 l0_0.length c0_0, .slice A0_1 l0_1.length c0_1]] rfl (by (try simp only [List.map_toArray, List.map_cons, List.map_nil]); first | done | rfl | (simp only [List.length_drop, List.length_take]; rfl)) ?_; (with_reducible refine (impl_Flow_period.calls k _ _ l0_0 _ _ l0_1 t415 _ ?side1 ?side2 ?side3 ?side4 A4.out).mono ?_); (case side1 => repeat (first | exact (Kd.C_below HR0_0.out HB.out) | (with_reducible refine Kd.C_alloc ?_ _) | (with_reducible refine Kd.C_drewN ?_ _) | (with_reducible refine Kd.C_drew ?_))); (case side2 => first | exact trivial | (exact HC0_0.out)); (case side3 => repeat (first | exact (Kd.C_below HR0_1.out HB.out) | (with_reducible refine Kd.C_alloc ?_ _) | (with_reducible refine Kd.C_drewN ?_ _) | (with_reducible refine Kd.C_drew ?_))); (case side4 => first | exact trivial | (exact HC0_1.out)); rintro e w9 ⟨rfl, hb⟩; refine ⟨_, rfl, ?_⟩; have n0_ := Aside0.mk (blk_below (g := gb413) (o := .cells #[.slice A0_0 l0_0.length c0_0, .slice A0_1 l0_1.length c0_1] 36 (0, 0)) (by (with_reducible repeat (first | refine blk_drewN ?_ _ | refine blk_drew ?_ | refine blk_alloc ?_ _)); exact BK413.out) hb); have n1_ := Aside0.mk (below_step (by repeat (first | (with_reducible first | exact HB.out | apply below_alloc | apply pw_below_drewN | apply below_drew1 | refine below_set ?_ GE413.out) | exact HB.out)) hb); clear BK413; clear HB; have BK413 := n0_; have HB := n1_; clear n0_ n1_; (try clear hb); (try clear hb2); (try clear hk); (try clear hi)))
  go_ret2
  exact ⟨by first | rfl | (simp [errW_none, errW_some] <;> rfl) | (simp [*, errW_none, errW_some] <;> rfl), by repeat (first | (with_reducible first | exact HB.out | apply below_alloc | apply pw_below_drewN | apply below_drew1 | refine below_set ?_ GE413.out) | exact HB.out)⟩
 ·replace c3 := Bool.eq_false_iff.mpr c3
  subst c3
  have H1 : (some (0, false)) = some (r1, r2) := by rw [if_neg (show ¬ (false = true) by decide)] at H; exact H
  clear H
  have H := H1
  clear H1
  simp only [Option.some.injEq, Prod.mk.injEq] at H
  obtain ⟨rfl, rfl⟩ := H
  go_enter Try.func30, Try.ntmps30
  go_wp2_with (first | ((with_reducible refine gate_dst (N := 1) rfl ?_); refine box_event ?hg (N := 1) ?hd (cs := #[.slice A0_0 l0_0.length c0_0, .slice A0_1 l0_1.length c0_1]) (t := 36) ?hr ?_; (case hd => rfl); (case hg => rfl); (case hr => first | (go_simp; done) | (go_simp; rfl)); intro gb413 hg w10 hbox hb; have n0_ := Aside0.mk (below_step (by repeat (first | (with_reducible first | exact HB.out | apply below_alloc | apply pw_below_drewN | apply below_drew1) | exact HB.out)) hb); have n1_ := Aside0.mk (hbox); have n2_ := Aside0.mk ((by rw [hg]; exact (below_size (by repeat (first | (with_reducible first | exact HB.out | apply below_alloc | apply pw_below_drewN | apply below_drew1) | exact HB.out))) : w.heap.size ≤ gb413)); have n3_ := Aside0.mk ((by rw [hg]; exact (below_size (by repeat (first | (with_reducible first | exact HB.out | apply below_alloc | apply pw_below_drewN | apply below_drew1) | exact HB.out))) : w.heap.size ≤ gb413)); clear HB; have HB := n0_; have BK413 := n1_; have GW413 := n2_; have GE413 := n3_; clear n0_ n1_ n2_ n3_; clear hb hbox hg; have hcz11_0 : w10.cell? ⟨gb413, 0, none⟩ = some (.slice A0_0 l0_0.length c0_0) := (blk_cell BK413.out 0).trans rfl; have hcz11_1 : w10.cell? ⟨gb413, 1, none⟩ = some (.slice A0_1 l0_1.length c0_1) := (blk_cell BK413.out 1).trans rfl; have hfz11_0 := blk_frozen BK413.out 0; have hfz11_1 := blk_frozen BK413.out 1) | ((with_reducible refine gate_callee (f := 23) rfl ?_); refine goesL_ (some 5) rfl rfl Try.func23 (by kernel_rfl) rfl #[.agg #[.slice A0_0 l0_0.length c0_0, .slice A0_1 l0_1.length c0_1]] rfl (by (try simp only [List.map_toArray, List.map_cons, List.map_nil]); first | done | rfl | (simp only [List.length_drop, List.length_take]; rfl)) ?_; (with_reducible refine (impl_ValidFlow.calls k _ _ l0_0 _ _ l0_1 false _ ?side1 ?side2 ?side3 ?side4 A2.out).mono ?_); (case side1 => repeat (first | exact (Kd.C_below HR0_0.out HB.out) | (with_reducible refine Kd.C_alloc ?_ _) | (with_reducible refine Kd.C_drewN ?_ _) | (with_reducible refine Kd.C_drew ?_))); (case side2 => first | exact trivial | (exact HC0_0.out)); (case side3 => repeat (first | exact (Kd.C_below HR0_1.out HB.out) | (with_reducible refine Kd.C_alloc ?_ _) | (with_reducible refine Kd.C_drewN ?_ _) | (with_reducible refine Kd.C_drew ?_))); (case side4 => first | exact trivial | (exact HC0_1.out)); rintro e w12 ⟨rfl, hb⟩; refine ⟨_, rfl, ?_⟩; have n0_ := Aside0.mk (blk_below (g := gb413) (o := .cells #[.slice A0_0 l0_0.length c0_0, .slice A0_1 l0_1.length c0_1] 36 (0, 0)) (by (with_reducible repeat (first | refine blk_drewN ?_ _ | refine blk_drew ?_ | refine blk_alloc ?_ _)); exact BK413.out) hb); have n1_ := Aside0.mk (below_step (by repeat (first | (with_reducible first | exact HB.out | apply below_alloc | apply pw_below_drewN | apply below_drew1 | refine below_set ?_ GE413.out) | exact HB.out)) hb); clear BK413; clear HB; have BK413 := n0_; have HB := n1_; clear n0_ n1_; (try clear hb); (try clear hb2); (try clear hk); (try clear hi)))
  go_ret2
  exact ⟨by first | rfl | (simp [errW_none, errW_some] <;> rfl) | (simp [*, errW_none, errW_some] <;> rfl), by repeat (first | (with_reducible first | exact HB.out | apply below_alloc | apply pw_below_drewN | apply below_drew1 | refine below_set ?_ GE413.out) | exact HB.out)⟩
end Go.Proofs.Ytojpibpjieanhaa.X
end
section
namespace Go.Proofs.Ytojpibpjieanhaa.X
open Go.RowKit Go.Proofs.YtojpibpjieanhaaW.PrintWords Go.Proofs.YtojpibpjieanhaaW.PrintLast Go.Proofs.YtojpibpjieanhaaW.PrintMore
set_option linter.unusedVariables false
set_option linter.unusedSimpArgs false
end Go.Proofs.Ytojpibpjieanhaa.X
end
section
-- Written by a program of this session out of the kit's print of the loaded functions: a plain function of a Go function, and its contract.
namespace Go.Proofs.Ytojpibpjieanhaa.X
open Go.RowKit Go.Proofs.YtojpibpjieanhaaW.PrintWords Go.Proofs.YtojpibpjieanhaaW.PrintLast Go.Proofs.YtojpibpjieanhaaW.PrintMore
attribute [local go_sem] max2_int min2_int max_two min_two max_three min_three max_four min_four   -- for this text's walks alone
set_option linter.unusedVariables false
set_option linter.unusedSimpArgs false
end Go.Proofs.Ytojpibpjieanhaa.X
end
section
namespace Go.Proofs.Ytojpibpjieanhaa.X
open Go.RowKit Go.Proofs.YtojpibpjieanhaaW.PrintWords Go.Proofs.YtojpibpjieanhaaW.PrintLast Go.Proofs.YtojpibpjieanhaaW.PrintMore
open Go.ChangeShapes Go.WideShapes Go.Deep
set_option linter.unusedVariables false
set_option linter.unusedSimpArgs false
section
variable {H : Type} {enc : TypeId × Value → H} {P : Program} {w : World} {base : Nat} {spare : Nat → Bool} {held : Bool}
end
section
variable {H : Type} {enc : TypeId × Value → H} {w : World}
end
end Go.Proofs.Ytojpibpjieanhaa.X
end
