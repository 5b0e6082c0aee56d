/- My own texts of this seat and its words, merged: Xp44, XSLeast. Conditions: as each lemma says. -/
import Derived.Test.YtojpibpjieanhaaM21
import Derived.Test.YtojpibpjieanhaaM24
import Derived.Test.YtojpibpjieanhaaM25
import Derived.Test.YtojpibpjieanhaaM29
import Derived.Test.YtojpibpjieanhaaM22
import Derived.Test.YtojpibpjieanhaaM26
section
-- Written by a program of this session out of the kit's print of the loaded functions: a plain function of a Go function, and its contract.
namespace Go.Proofs.Ytojpibpjieanhaa.X
open Go.RowKit Go.Proofs.YtojpibpjieanhaaW.PrintWords Go.Proofs.YtojpibpjieanhaaW.PrintLast Go.Proofs.YtojpibpjieanhaaW.PrintMore
attribute [local go_sem] max2_int min2_int max_two min_two max_three min_three max_four min_four   -- for this text's walks alone
set_option linter.unusedVariables false
set_option linter.unusedSimpArgs false
def impl_LeastMovedPeriod.l0 : Nat → List (List (S77)) → Int → List Int → List (S55) → Option (Int × List Int × Bool)
 | 0, _, _, _, _ => none
 | k + 1, x5, x6, x788000, x788001 => (impl_Flow_period.f k x788000 x788001).bind fun t793 => (if x6 ≤ t793 then ((impl_Flow_movesFor.f k x788000 x788001 x6 x5).bind fun bt794 => (if bt794.2 = true then (some (x6, bt794.1, true)) else (impl_LeastMovedPeriod.l0 k x5 (wrap64 (x6 + 1)) x788000 x788001))) else (some (0, ([] : List Int), false)))
def impl_LeastMovedPeriod.f (k : Nat) (l0_0 : List Int) (l0_1 : List (S55)) : Option (Int × List Int × Bool) := (impl_ValidFlow.f k l0_0 l0_1).bind fun t788 => (if t788 = true then ((impl_Flow_allBetween.f k l0_0 l0_1).bind fun t789 => ((slices_Max_int64_int64.f k l0_0).bind fun t792 => (impl_LeastMovedPeriod.l0 k t789 t792 l0_0 l0_1))) else (some (0, ([] : List Int), false)))
theorem impl_LeastMovedPeriod.mono_l : ∀ k, (∀ y0 y1 y2 y3, LeO (impl_LeastMovedPeriod.l0 k y0 y1 y2 y3) (impl_LeastMovedPeriod.l0 (k + 1) y0 y1 y2 y3))
 | 0 => fun _ _ _ _ r h => by simp [impl_LeastMovedPeriod.l0] at h
 | k + 1 => by
  have ih0 := impl_LeastMovedPeriod.mono_l k
  ·intro y0 y1 y2 y3
   unfold impl_LeastMovedPeriod.l0
   repeat' first
   | (with_reducible exact ih0 _ _ _ _)
   | (with_reducible exact impl_Flow_allBetween.mono _ _ _)
   | (with_reducible exact impl_Flow_movesFor.mono _ _ _ _ _)
   | (with_reducible exact impl_Flow_period.mono _ _ _)
   | (with_reducible exact impl_ValidFlow.mono _ _ _)
   | (with_reducible exact slices_Max_int64_int64.mono _ _)
   | (with_reducible exact LeO.refl _)
   | (with_reducible exact LeO.none _)
   | (with_reducible refine LeO.ite ?_ ?_)
   | (with_reducible refine LeO.bind ?_ (fun _ => ?_))
   | exact ih0 _ _ _ _
   | exact impl_Flow_allBetween.mono _ _ _
   | exact impl_Flow_movesFor.mono _ _ _ _ _
   | exact impl_Flow_period.mono _ _ _
   | exact impl_ValidFlow.mono _ _ _
   | exact slices_Max_int64_int64.mono _ _
   | exact LeO.none _
   | refine LeO.ite ?_ ?_
   | refine LeO.bind ?_ (fun _ => ?_)
theorem impl_LeastMovedPeriod.mono : ∀ a0 a1 k, LeO (impl_LeastMovedPeriod.f k a0 a1) (impl_LeastMovedPeriod.f (k + 1) a0 a1) := by
 intro a0 a1 k
 have ih0 := impl_LeastMovedPeriod.mono_l k
 unfold impl_LeastMovedPeriod.f
 repeat' first
   | (with_reducible exact ih0 _ _ _ _)
   | (with_reducible exact impl_Flow_allBetween.mono _ _ _)
   | (with_reducible exact impl_Flow_movesFor.mono _ _ _ _ _)
   | (with_reducible exact impl_Flow_period.mono _ _ _)
   | (with_reducible exact impl_ValidFlow.mono _ _ _)
   | (with_reducible exact slices_Max_int64_int64.mono _ _)
   | (with_reducible exact LeO.refl _)
   | (with_reducible exact LeO.none _)
   | (with_reducible refine LeO.ite ?_ ?_)
   | (with_reducible refine LeO.bind ?_ (fun _ => ?_))
   | exact ih0 _ _ _ _
   | exact impl_Flow_allBetween.mono _ _ _
   | exact impl_Flow_movesFor.mono _ _ _ _ _
   | exact impl_Flow_period.mono _ _ _
   | exact impl_ValidFlow.mono _ _ _
   | exact slices_Max_int64_int64.mono _ _
   | exact LeO.none _
   | refine LeO.ite ?_ ?_
   | refine LeO.bind ?_ (fun _ => ?_)
set_option maxHeartbeats 8000000 in
set_option maxRecDepth 100000 in
theorem impl_LeastMovedPeriod.calls (k : Nat) (A0_0 : Option Addr) (c0_0 : Nat) (l0_0 : List Int) (A0_1 : Option Addr) (c0_1 : Nat) (l0_1 : List (S55)) (r1 : Int) (r2 : List Int) (r3 : Bool) (w : World) (hr0_0 : Kd.C (Kd.int .i64) w A0_0 l0_0.length l0_0) (hc0_0 : l0_0.length ≤ c0_0) (hr0_1 : Kd.C k55 w A0_1 l0_1.length l0_1) (hc0_1 : l0_1.length ≤ c0_1) (h : impl_LeastMovedPeriod.f k l0_0 l0_1 = some (r1, r2, r3)) :
  Calls Try.prog 44 #[.agg #[.slice A0_0 l0_0.length c0_0, .slice A0_1 l0_1.length c0_1]] w fun e w' => ∃ v1_ : Value, e = .returned (.tuple #[.int .i64 r1, v1_, .bool r3]) ∧ Kd.R (Kd.int .i64) 2 w' w.heap.size (fun _ => True) v1_ r2 ∧ Below w.heap.size w w' := by
 have hu36 := Try.underlying36
 have HR0_0 := Aside0.mk hr0_0
 have HC0_0 := Aside0.mk hc0_0
 clear hr0_0 hc0_0
 have HR0_1 := Aside0.mk hr0_1
 have HC0_1 := Aside0.mk hc0_1
 clear hr0_1 hc0_1
 have HB := Aside0.mk (Below.refl w.heap.size w)
 have H : ((impl_ValidFlow.f k l0_0 l0_1).bind fun t788 => (if t788 = true then ((impl_Flow_allBetween.f k l0_0 l0_1).bind fun t789 => ((slices_Max_int64_int64.f k l0_0).bind fun t792 => (impl_LeastMovedPeriod.l0 k t789 t792 l0_0 l0_1))) else (some (0, ([] : List Int), false)))) = some (r1, r2, r3) := h
 clear h
 replace H := Option.bind_eq_some_iff.mp H
 obtain ⟨t788, A20, H⟩ := H
 replace H : (if t788 = true then ((impl_Flow_allBetween.f k l0_0 l0_1).bind fun t789 => ((slices_Max_int64_int64.f k l0_0).bind fun t792 => (impl_LeastMovedPeriod.l0 k t789 t792 l0_0 l0_1))) else (some (0, ([] : List Int), false))) = some (r1, r2, r3) := H
 have A2 := Aside0.mk A20
 clear A20
 by_cases c3 : t788 = true
 ·subst c3
  have H1 : ((impl_Flow_allBetween.f k l0_0 l0_1).bind fun t789 => ((slices_Max_int64_int64.f k l0_0).bind fun t792 => (impl_LeastMovedPeriod.l0 k t789 t792 l0_0 l0_1))) = some (r1, r2, r3) := by rw [if_pos rfl] at H; exact H
  clear H
  have H := H1
  clear H1
  replace H := Option.bind_eq_some_iff.mp H
  obtain ⟨t789, A40, H⟩ := H
  replace H : ((slices_Max_int64_int64.f k l0_0).bind fun t792 => (impl_LeastMovedPeriod.l0 k t789 t792 l0_0 l0_1)) = some (r1, r2, r3) := H
  have A4 := Aside0.mk A40
  clear A40
  replace H := Option.bind_eq_some_iff.mp H
  obtain ⟨t792, A50, H⟩ := H
  replace H : (impl_LeastMovedPeriod.l0 k t789 t792 l0_0 l0_1) = some (r1, r2, r3) := H
  have A5 := Aside0.mk A50
  clear A50
  have H' := Aside0.mk H
  clear H
  go_enter Try.func44, Try.ntmps44
  go_wp2_with (first | ((with_reducible refine gate_dst (N := 1) rfl ?_); refine box_event ?hg (N := 1) ?hd (cs := #[.slice A0_0 l0_0.length c0_0, .slice A0_1 l0_1.length c0_1]) (t := 36) ?hr ?_; (case hd => rfl); (case hg => rfl); (case hr => first | (go_simp; done) | (go_simp; rfl)); intro gb787 hg w6 hbox hb; have n0_ := Aside0.mk (below_step (by repeat (first | (with_reducible first | exact HB.out | apply below_alloc | apply pw_below_drewN | apply below_drew1) | exact HB.out)) hb); have n1_ := Aside0.mk (hbox); have n2_ := Aside0.mk ((by rw [hg]; exact (below_size (by repeat (first | (with_reducible first | exact HB.out | apply below_alloc | apply pw_below_drewN | apply below_drew1) | exact HB.out))) : w.heap.size ≤ gb787)); have n3_ := Aside0.mk ((by rw [hg]; exact (below_size (by repeat (first | (with_reducible first | exact HB.out | apply below_alloc | apply pw_below_drewN | apply below_drew1) | exact HB.out))) : w.heap.size ≤ gb787)); clear HB; have HB := n0_; have BK787 := n1_; have GW787 := n2_; have GE787 := n3_; clear n0_ n1_ n2_ n3_; clear hb hbox hg; have hcz7_0 : w6.cell? ⟨gb787, 0, none⟩ = some (.slice A0_0 l0_0.length c0_0) := (blk_cell BK787.out 0).trans rfl; have hcz7_1 : w6.cell? ⟨gb787, 1, none⟩ = some (.slice A0_1 l0_1.length c0_1) := (blk_cell BK787.out 1).trans rfl; have hfz7_0 := blk_frozen BK787.out 0; have hfz7_1 := blk_frozen BK787.out 1) | ((with_reducible refine gate_callee (f := 23) rfl ?_); refine goesL_ (some 10) rfl rfl Try.func23 (by kernel_rfl) rfl #[.agg #[.slice A0_0 l0_0.length c0_0, .slice A0_1 l0_1.length c0_1]] rfl (by (try simp only [List.map_toArray, List.map_cons, List.map_nil]); first | done | rfl | (simp only [List.length_drop, List.length_take]; rfl)) ?_; (with_reducible refine (impl_ValidFlow.calls k _ _ l0_0 _ _ l0_1 true _ ?side1 ?side2 ?side3 ?side4 A2.out).mono ?_); (case side1 => repeat (first | exact (Kd.C_below HR0_0.out HB.out) | (with_reducible refine Kd.C_alloc ?_ _) | (with_reducible refine Kd.C_drewN ?_ _) | (with_reducible refine Kd.C_drew ?_))); (case side2 => first | exact trivial | (exact HC0_0.out)); (case side3 => repeat (first | exact (Kd.C_below HR0_1.out HB.out) | (with_reducible refine Kd.C_alloc ?_ _) | (with_reducible refine Kd.C_drewN ?_ _) | (with_reducible refine Kd.C_drew ?_))); (case side4 => first | exact trivial | (exact HC0_1.out)); rintro e w8 ⟨rfl, hb⟩; refine ⟨_, rfl, ?_⟩; have n0_ := Aside0.mk (blk_below (g := gb787) (o := .cells #[.slice A0_0 l0_0.length c0_0, .slice A0_1 l0_1.length c0_1] 36 (0, 0)) (by (with_reducible repeat (first | refine blk_drewN ?_ _ | refine blk_drew ?_ | refine blk_alloc ?_ _)); exact BK787.out) hb); have n1_ := Aside0.mk (below_step (by repeat (first | (with_reducible first | exact HB.out | apply below_alloc | apply pw_below_drewN | apply below_drew1 | refine below_set ?_ GE787.out) | exact HB.out)) hb); clear BK787; clear HB; have BK787 := n0_; have HB := n1_; clear n0_ n1_; (try clear hb); (try clear hb2); (try clear hk); (try clear hi); have hcz9_0 : w8.cell? ⟨gb787, 0, none⟩ = some (.slice A0_0 l0_0.length c0_0) := (blk_cell BK787.out 0).trans rfl; have hcz9_1 : w8.cell? ⟨gb787, 1, none⟩ = some (.slice A0_1 l0_1.length c0_1) := (blk_cell BK787.out 1).trans rfl; have hfz9_0 := blk_frozen BK787.out 0; have hfz9_1 := blk_frozen BK787.out 1) | ((with_reducible refine gate_callee (f := 62) rfl ?_); refine goesL_ (some 13) rfl rfl Try.func62 (by kernel_rfl) rfl #[.agg #[.slice A0_0 l0_0.length c0_0, .slice A0_1 l0_1.length c0_1]] rfl (by (try simp only [List.map_toArray, List.map_cons, List.map_nil]); first | done | rfl | (simp only [List.length_drop, List.length_take]; rfl)) ?_; (with_reducible refine (impl_Flow_allBetween.calls k _ _ l0_0 _ _ l0_1 t789 _ ?side1 ?side2 ?side3 ?side4 A4.out).mono ?_); (case side1 => repeat (first | exact (Kd.C_below HR0_0.out HB.out) | (with_reducible refine Kd.C_alloc ?_ _) | (with_reducible refine Kd.C_drewN ?_ _) | (with_reducible refine Kd.C_drew ?_))); (case side2 => first | exact trivial | (exact HC0_0.out)); (case side3 => repeat (first | exact (Kd.C_below HR0_1.out HB.out) | (with_reducible refine Kd.C_alloc ?_ _) | (with_reducible refine Kd.C_drewN ?_ _) | (with_reducible refine Kd.C_drew ?_))); (case side4 => first | exact trivial | (exact HC0_1.out)); rintro e w10 ⟨v790, rfl, ho0, hb⟩; refine ⟨_, rfl, ?_⟩; have n0_ := Aside0.mk (Kd.S_lower ho0 (below_size (by repeat (first | (with_reducible first | exact HB.out | apply below_alloc | apply pw_below_drewN | apply below_drew1 | refine below_set ?_ GE787.out) | exact HB.out)))); have n1_ := Aside0.mk (blk_below (g := gb787) (o := .cells #[.slice A0_0 l0_0.length c0_0, .slice A0_1 l0_1.length c0_1] 36 (0, 0)) (by (with_reducible repeat (first | refine blk_drewN ?_ _ | refine blk_drew ?_ | refine blk_alloc ?_ _)); exact BK787.out) hb); have n2_ := Aside0.mk (below_step (by repeat (first | (with_reducible first | exact HB.out | apply below_alloc | apply pw_below_drewN | apply below_drew1 | refine below_set ?_ GE787.out) | exact HB.out)) hb); clear BK787; clear HB; have HO791 := n0_; have BK787 := n1_; have HB := n2_; clear n0_ n1_ n2_; (try clear hb); (try clear hb2); (try clear hk); (try clear hi); (try clear ho0); have hcz11_0 : w10.cell? ⟨gb787, 0, none⟩ = some (.slice A0_0 l0_0.length c0_0) := (blk_cell BK787.out 0).trans rfl; have hcz11_1 : w10.cell? ⟨gb787, 1, none⟩ = some (.slice A0_1 l0_1.length c0_1) := (blk_cell BK787.out 1).trans rfl; have hfz11_0 := blk_frozen BK787.out 0; have hfz11_1 := blk_frozen BK787.out 1) | ((with_reducible refine gate_callee (f := 75) rfl ?_); refine goesL_ (some 16) rfl rfl Try.func75 (by kernel_rfl) rfl #[.slice A0_0 l0_0.length c0_0] rfl (by (try simp only [List.map_toArray, List.map_cons, List.map_nil]); first | done | rfl | (simp only [List.length_drop, List.length_take]; rfl)) ?_; (with_reducible refine (slices_Max_int64_int64.calls k _ _ l0_0 t792 _ ?side1 ?side2 A5.out).mono ?_); (case side1 => repeat (first | exact (Kd.C_below HR0_0.out HB.out) | (with_reducible refine Kd.C_alloc ?_ _) | (with_reducible refine Kd.C_drewN ?_ _) | (with_reducible refine Kd.C_drew ?_))); (case side2 => first | exact trivial | (exact HC0_0.out)); rintro e w12 ⟨rfl, hb⟩; refine ⟨_, rfl, ?_⟩; have n0_ := Aside0.mk (Kd.S_below (by (with_reducible repeat (first | apply Kd.S_alloc | apply Kd.S_drewN | apply Kd.S_drew)); exact HO791.out) hb); have n1_ := Aside0.mk (blk_below (g := gb787) (o := .cells #[.slice A0_0 l0_0.length c0_0, .slice A0_1 l0_1.length c0_1] 36 (0, 0)) (by (with_reducible repeat (first | refine blk_drewN ?_ _ | refine blk_drew ?_ | refine blk_alloc ?_ _)); exact BK787.out) hb); have n2_ := Aside0.mk (below_step (by repeat (first | (with_reducible first | exact HB.out | apply below_alloc | apply pw_below_drewN | apply below_drew1 | refine below_set ?_ GE787.out) | exact HB.out)) hb); clear HO791; clear BK787; clear HB; have HO791 := n0_; have BK787 := n1_; have HB := n2_; clear n0_ n1_ n2_; (try clear hb); (try clear hb2); (try clear hk); (try clear hi)))
  go_loopg [6] k (fun kq v6 w' => ∃ (x6_1 : Int), v6 = .int .i64 x6_1 ∧ Aside0 (impl_LeastMovedPeriod.l0 kq t789 x6_1 l0_0 l0_1 = some (r1, r2, r3)) ∧ Aside0 (kq ≤ k) ∧ Aside0 (Kd.S (Kd.slice 77 k77) 78 w' w.heap.size (fun _ => True) v790 t789) ∧ Aside0 (w'.heap[gb787]? = some (.cells #[(.slice A0_0 l0_0.length c0_0), (.slice A0_1 l0_1.length c0_1)] 36 (0, 0))) ∧ Aside0 (Below w.heap.size w w'))
  case atStart => exact ⟨(t792), (by first | rfl | (simp; done) | (simp [*]; done)), H', ⟨Nat.le_refl _⟩, ⟨by (with_reducible repeat (first | apply Kd.S_alloc | apply Kd.S_drewN | apply Kd.S_drew)); exact HO791.out⟩, ⟨by (with_reducible repeat (first | refine blk_drewN ?_ _ | refine blk_drew ?_ | refine blk_alloc ?_ _)); exact BK787.out⟩, ⟨by repeat (first | (with_reducible first | exact HB.out | apply below_alloc | apply pw_below_drewN | apply below_drew1 | refine below_set ?_ GE787.out) | exact HB.out)⟩⟩
  case round =>
   clear H'
   try clear c2
   try clear p2
   try clear c3
   try clear c4
   try clear c6
   try clear c7
   try clear hcz11_0
   try clear hcz11_1
   try clear hcz7_0
   try clear hcz7_1
   try clear hcz9_0
   try clear hcz9_1
   try clear hfz11_0
   try clear hfz11_1
   try clear hfz7_0
   try clear hfz7_1
   try clear hfz9_0
   try clear hfz9_1
   obtain ⟨x6_1, rfl, HA, HK1, HO_5, BK787, HB⟩ := hrel
   cases gk with
   | zero => exact absurd HA.out (by simp [impl_LeastMovedPeriod.l0])
   | succ k1 =>
    have H := HA.out
    clear HA
    simp only [impl_LeastMovedPeriod.l0] at H
    replace H := Option.bind_eq_some_iff.mp H
    obtain ⟨t793, A130, H⟩ := H
    replace H : (if x6_1 ≤ t793 then ((impl_Flow_movesFor.f k1 l0_0 l0_1 x6_1 t789).bind fun bt794 => (if bt794.2 = true then (some (x6_1, bt794.1, true)) else (impl_LeastMovedPeriod.l0 k1 t789 (wrap64 (x6_1 + 1)) l0_0 l0_1))) else (some (0, ([] : List Int), false))) = some (r1, r2, r3) := H
    have A13 := Aside0.mk A130
    clear A130
    by_cases c14 : x6_1 ≤ t793
    ·rw [if_pos c14] at H
     have c14b0 : decide (x6_1 ≤ t793) = true := decide_eq_true c14
     clear c14
     replace H := Option.bind_eq_some_iff.mp H
     obtain ⟨⟨t794, t797⟩, A150, H⟩ := H
     replace H : (if t797 = true then (some (x6_1, t794, true)) else (impl_LeastMovedPeriod.l0 k1 t789 (wrap64 (x6_1 + 1)) l0_0 l0_1)) = some (r1, r2, r3) := H
     have A15 := Aside0.mk A150
     clear A150
     by_cases c16 : t797 = true
     ·subst c16
      have H1 : (some (x6_1, t794, true)) = some (r1, r2, r3) := by rw [if_pos rfl] at H; exact H
      clear H
      have H := H1
      clear H1
      simp only [Option.some.injEq, Prod.mk.injEq] at H
      obtain ⟨rfl, rfl, rfl⟩ := H
      have hcz17_0 : wr.cell? ⟨gb787, 0, none⟩ = some (.slice A0_0 l0_0.length c0_0) := (blk_cell BK787.out 0).trans rfl
      have hcz17_1 : wr.cell? ⟨gb787, 1, none⟩ = some (.slice A0_1 l0_1.length c0_1) := (blk_cell BK787.out 1).trans rfl
      have hfz17_0 := blk_frozen BK787.out 0
      have hfz17_1 := blk_frozen BK787.out 1
      go_wp2_with (first | ((with_reducible refine gate_callee (f := 59) rfl ?_); refine goesL_ (some 19) rfl rfl Try.func59 (by kernel_rfl) rfl #[.agg #[.slice A0_0 l0_0.length c0_0, .slice A0_1 l0_1.length c0_1]] rfl (by (try simp only [List.map_toArray, List.map_cons, List.map_nil]); first | done | rfl | (simp only [List.length_drop, List.length_take]; rfl)) ?_; (with_reducible refine (impl_Flow_period.calls k1 _ _ l0_0 _ _ l0_1 t793 _ ?side1 ?side2 ?side3 ?side4 A13.out).mono ?_); (case side1 => repeat (first | exact (Kd.C_below HR0_0.out HB.out) | (with_reducible refine Kd.C_alloc ?_ _) | (with_reducible refine Kd.C_drewN ?_ _) | (with_reducible refine Kd.C_drew ?_))); (case side2 => first | exact trivial | (exact HC0_0.out)); (case side3 => repeat (first | exact (Kd.C_below HR0_1.out HB.out) | (with_reducible refine Kd.C_alloc ?_ _) | (with_reducible refine Kd.C_drewN ?_ _) | (with_reducible refine Kd.C_drew ?_))); (case side4 => first | exact trivial | (exact HC0_1.out)); rintro e w18 ⟨rfl, hb⟩; refine ⟨_, rfl, ?_⟩; have n0_ := Aside0.mk (Kd.S_below (by (with_reducible repeat (first | apply Kd.S_alloc | apply Kd.S_drewN | apply Kd.S_drew)); exact HO_5.out) hb); have n1_ := Aside0.mk (blk_below (g := gb787) (o := .cells #[.slice A0_0 l0_0.length c0_0, .slice A0_1 l0_1.length c0_1] 36 (0, 0)) (by (with_reducible repeat (first | refine blk_drewN ?_ _ | refine blk_drew ?_ | refine blk_alloc ?_ _)); exact BK787.out) hb); have n2_ := Aside0.mk (below_step (by repeat (first | (with_reducible first | exact HB.out | apply below_alloc | apply pw_below_drewN | apply below_drew1 | refine below_set ?_ GE787.out) | exact HB.out)) hb); clear HO_5; clear BK787; clear HB; have HO_5 := n0_; have BK787 := n1_; have HB := n2_; clear n0_ n1_ n2_; (try clear hb); (try clear hb2); (try clear hk); (try clear hi); have hcz19_0 : w18.cell? ⟨gb787, 0, none⟩ = some (.slice A0_0 l0_0.length c0_0) := (blk_cell BK787.out 0).trans rfl; have hcz19_1 : w18.cell? ⟨gb787, 1, none⟩ = some (.slice A0_1 l0_1.length c0_1) := (blk_cell BK787.out 1).trans rfl; have hfz19_0 := blk_frozen BK787.out 0; have hfz19_1 := blk_frozen BK787.out 1; obtain ⟨Ao20, co20, eo20⟩ := Kd.S_slice HO_5.out; subst eo20) | ((with_reducible refine gate_callee (f := 74) rfl ?_); refine goesL_ (some 27) rfl rfl Try.func74 (by kernel_rfl) rfl #[.agg #[.slice A0_0 l0_0.length c0_0, .slice A0_1 l0_1.length c0_1], .int .i64 x6_1, .slice Ao20 t789.length co20] rfl (by (try simp only [List.map_toArray, List.map_cons, List.map_nil]); first | done | rfl | (simp only [List.length_drop, List.length_take]; rfl)) ?_; (with_reducible refine (impl_Flow_movesFor.calls k1 _ _ l0_0 _ _ l0_1 x6_1 _ _ t789 t794 true _ ?side1 ?side2 ?side3 ?side4 ?side5 ?side6 A15.out).mono ?_); (case side1 => repeat (first | exact (Kd.C_below HR0_0.out HB.out) | (with_reducible refine Kd.C_alloc ?_ _) | (with_reducible refine Kd.C_drewN ?_ _) | (with_reducible refine Kd.C_drew ?_))); (case side2 => first | exact trivial | (exact HC0_0.out)); (case side3 => repeat (first | exact (Kd.C_below HR0_1.out HB.out) | (with_reducible refine Kd.C_alloc ?_ _) | (with_reducible refine Kd.C_drewN ?_ _) | (with_reducible refine Kd.C_drew ?_))); (case side4 => first | exact trivial | (exact HC0_1.out)); (case side5 => repeat (first | exact (Kd.S_reads' HO_5.out).2.2 | (with_reducible refine Kd.C_alloc ?_ _) | (with_reducible refine Kd.C_drewN ?_ _) | (with_reducible refine Kd.C_drew ?_))); (case side6 => first | exact trivial | (exact (Kd.S_reads' HO_5.out).2.1)); rintro e w21 ⟨v795, rfl, ho0, hb⟩; refine ⟨_, rfl, ?_⟩; have n0_ := Aside0.mk (Kd.S_below (by (with_reducible repeat (first | apply Kd.S_alloc | apply Kd.S_drewN | apply Kd.S_drew)); exact HO_5.out) hb); have n1_ := Aside0.mk (Kd.R_lower ho0 (below_size (by repeat (first | (with_reducible first | exact HB.out | apply below_alloc | apply pw_below_drewN | apply below_drew1 | refine below_set ?_ GE787.out) | exact HB.out)))); have n2_ := Aside0.mk (blk_below (g := gb787) (o := .cells #[.slice A0_0 l0_0.length c0_0, .slice A0_1 l0_1.length c0_1] 36 (0, 0)) (by (with_reducible repeat (first | refine blk_drewN ?_ _ | refine blk_drew ?_ | refine blk_alloc ?_ _)); exact BK787.out) hb); have n3_ := Aside0.mk (below_step (by repeat (first | (with_reducible first | exact HB.out | apply below_alloc | apply pw_below_drewN | apply below_drew1 | refine below_set ?_ GE787.out) | exact HB.out)) hb); clear HO_5; clear BK787; clear HB; have HO_5 := n0_; have HO796 := n1_; have BK787 := n2_; have HB := n3_; clear n0_ n1_ n2_ n3_; (try clear hb); (try clear hb2); (try clear hk); (try clear hi); (try clear ho0)))
      go_ret3
      exact ⟨_, by first | rfl | (simp [errW_none, errW_some] <;> rfl) | (simp [*, errW_none, errW_some] <;> rfl), by (with_reducible repeat (first | apply Kd.R_alloc | apply Kd.R_drewN | apply Kd.R_drew)); exact HO796.out, by repeat (first | (with_reducible first | exact HB.out | apply below_alloc | apply pw_below_drewN | apply below_drew1 | refine below_set ?_ GE787.out) | exact HB.out)⟩
     ·replace c16 := Bool.eq_false_iff.mpr c16
      subst c16
      have H1 : (impl_LeastMovedPeriod.l0 k1 t789 (wrap64 (x6_1 + 1)) l0_0 l0_1) = some (r1, r2, r3) := by rw [if_neg (show ¬ (false = true) by decide)] at H; exact H
      clear H
      have H := H1
      clear H1
      have H' := Aside0.mk H
      clear H
      have hcz22_0 : wr.cell? ⟨gb787, 0, none⟩ = some (.slice A0_0 l0_0.length c0_0) := (blk_cell BK787.out 0).trans rfl
      have hcz22_1 : wr.cell? ⟨gb787, 1, none⟩ = some (.slice A0_1 l0_1.length c0_1) := (blk_cell BK787.out 1).trans rfl
      have hfz22_0 := blk_frozen BK787.out 0
      have hfz22_1 := blk_frozen BK787.out 1
      go_wp2_with (first | ((with_reducible refine gate_callee (f := 59) rfl ?_); refine goesL_ (some 19) rfl rfl Try.func59 (by kernel_rfl) rfl #[.agg #[.slice A0_0 l0_0.length c0_0, .slice A0_1 l0_1.length c0_1]] rfl (by (try simp only [List.map_toArray, List.map_cons, List.map_nil]); first | done | rfl | (simp only [List.length_drop, List.length_take]; rfl)) ?_; (with_reducible refine (impl_Flow_period.calls k1 _ _ l0_0 _ _ l0_1 t793 _ ?side1 ?side2 ?side3 ?side4 A13.out).mono ?_); (case side1 => repeat (first | exact (Kd.C_below HR0_0.out HB.out) | (with_reducible refine Kd.C_alloc ?_ _) | (with_reducible refine Kd.C_drewN ?_ _) | (with_reducible refine Kd.C_drew ?_))); (case side2 => first | exact trivial | (exact HC0_0.out)); (case side3 => repeat (first | exact (Kd.C_below HR0_1.out HB.out) | (with_reducible refine Kd.C_alloc ?_ _) | (with_reducible refine Kd.C_drewN ?_ _) | (with_reducible refine Kd.C_drew ?_))); (case side4 => first | exact trivial | (exact HC0_1.out)); rintro e w23 ⟨rfl, hb⟩; refine ⟨_, rfl, ?_⟩; have n0_ := Aside0.mk (Kd.S_below (by (with_reducible repeat (first | apply Kd.S_alloc | apply Kd.S_drewN | apply Kd.S_drew)); exact HO_5.out) hb); have n1_ := Aside0.mk (blk_below (g := gb787) (o := .cells #[.slice A0_0 l0_0.length c0_0, .slice A0_1 l0_1.length c0_1] 36 (0, 0)) (by (with_reducible repeat (first | refine blk_drewN ?_ _ | refine blk_drew ?_ | refine blk_alloc ?_ _)); exact BK787.out) hb); have n2_ := Aside0.mk (below_step (by repeat (first | (with_reducible first | exact HB.out | apply below_alloc | apply pw_below_drewN | apply below_drew1 | refine below_set ?_ GE787.out) | exact HB.out)) hb); clear HO_5; clear BK787; clear HB; have HO_5 := n0_; have BK787 := n1_; have HB := n2_; clear n0_ n1_ n2_; (try clear hb); (try clear hb2); (try clear hk); (try clear hi); have hcz24_0 : w23.cell? ⟨gb787, 0, none⟩ = some (.slice A0_0 l0_0.length c0_0) := (blk_cell BK787.out 0).trans rfl; have hcz24_1 : w23.cell? ⟨gb787, 1, none⟩ = some (.slice A0_1 l0_1.length c0_1) := (blk_cell BK787.out 1).trans rfl; have hfz24_0 := blk_frozen BK787.out 0; have hfz24_1 := blk_frozen BK787.out 1; obtain ⟨Ao25, co25, eo25⟩ := Kd.S_slice HO_5.out; subst eo25) | ((with_reducible refine gate_callee (f := 74) rfl ?_); refine goesL_ (some 27) rfl rfl Try.func74 (by kernel_rfl) rfl #[.agg #[.slice A0_0 l0_0.length c0_0, .slice A0_1 l0_1.length c0_1], .int .i64 x6_1, .slice Ao25 t789.length co25] rfl (by (try simp only [List.map_toArray, List.map_cons, List.map_nil]); first | done | rfl | (simp only [List.length_drop, List.length_take]; rfl)) ?_; (with_reducible refine (impl_Flow_movesFor.calls k1 _ _ l0_0 _ _ l0_1 x6_1 _ _ t789 t794 false _ ?side1 ?side2 ?side3 ?side4 ?side5 ?side6 A15.out).mono ?_); (case side1 => repeat (first | exact (Kd.C_below HR0_0.out HB.out) | (with_reducible refine Kd.C_alloc ?_ _) | (with_reducible refine Kd.C_drewN ?_ _) | (with_reducible refine Kd.C_drew ?_))); (case side2 => first | exact trivial | (exact HC0_0.out)); (case side3 => repeat (first | exact (Kd.C_below HR0_1.out HB.out) | (with_reducible refine Kd.C_alloc ?_ _) | (with_reducible refine Kd.C_drewN ?_ _) | (with_reducible refine Kd.C_drew ?_))); (case side4 => first | exact trivial | (exact HC0_1.out)); (case side5 => repeat (first | exact (Kd.S_reads' HO_5.out).2.2 | (with_reducible refine Kd.C_alloc ?_ _) | (with_reducible refine Kd.C_drewN ?_ _) | (with_reducible refine Kd.C_drew ?_))); (case side6 => first | exact trivial | (exact (Kd.S_reads' HO_5.out).2.1)); rintro e w26 ⟨v795, rfl, ho0, hb⟩; refine ⟨_, rfl, ?_⟩; have n0_ := Aside0.mk (Kd.S_below (by (with_reducible repeat (first | apply Kd.S_alloc | apply Kd.S_drewN | apply Kd.S_drew)); exact HO_5.out) hb); have n1_ := Aside0.mk (Kd.R_lower ho0 (below_size (by repeat (first | (with_reducible first | exact HB.out | apply below_alloc | apply pw_below_drewN | apply below_drew1 | refine below_set ?_ GE787.out) | exact HB.out)))); have n2_ := Aside0.mk (blk_below (g := gb787) (o := .cells #[.slice A0_0 l0_0.length c0_0, .slice A0_1 l0_1.length c0_1] 36 (0, 0)) (by (with_reducible repeat (first | refine blk_drewN ?_ _ | refine blk_drew ?_ | refine blk_alloc ?_ _)); exact BK787.out) hb); have n3_ := Aside0.mk (below_step (by repeat (first | (with_reducible first | exact HB.out | apply below_alloc | apply pw_below_drewN | apply below_drew1 | refine below_set ?_ GE787.out) | exact HB.out)) hb); clear HO_5; clear BK787; clear HB; have HO_5 := n0_; have HO796 := n1_; have BK787 := n2_; have HB := n3_; clear n0_ n1_ n2_ n3_; (try clear hb); (try clear hb2); (try clear hk); (try clear hi); (try clear ho0)))
      go_roundg k1
      case measure => have := HK1.out; omega
      case rel => exact ⟨(wrap64 (x6_1 + 1)), (by first | rfl | (simp; done) | (simp [*]; done)), H', ⟨by have := HK1.out; omega⟩, ⟨by (with_reducible repeat (first | apply Kd.S_alloc | apply Kd.S_drewN | apply Kd.S_drew)); exact HO_5.out⟩, ⟨by (with_reducible repeat (first | refine blk_drewN ?_ _ | refine blk_drew ?_ | refine blk_alloc ?_ _)); exact BK787.out⟩, ⟨by repeat (first | (with_reducible first | exact HB.out | apply below_alloc | apply pw_below_drewN | apply below_drew1 | refine below_set ?_ GE787.out) | exact HB.out)⟩⟩
    ·rw [if_neg c14] at H
     have c14b0 : decide (x6_1 ≤ t793) = false := decide_eq_false c14
     clear c14
     simp only [Option.some.injEq, Prod.mk.injEq] at H
     obtain ⟨rfl, rfl, rfl⟩ := H
     have hcz27_0 : wr.cell? ⟨gb787, 0, none⟩ = some (.slice A0_0 l0_0.length c0_0) := (blk_cell BK787.out 0).trans rfl
     have hcz27_1 : wr.cell? ⟨gb787, 1, none⟩ = some (.slice A0_1 l0_1.length c0_1) := (blk_cell BK787.out 1).trans rfl
     have hfz27_0 := blk_frozen BK787.out 0
     have hfz27_1 := blk_frozen BK787.out 1
     go_wp2_with (first | ((with_reducible refine gate_callee (f := 59) rfl ?_); refine goesL_ (some 19) rfl rfl Try.func59 (by kernel_rfl) rfl #[.agg #[.slice A0_0 l0_0.length c0_0, .slice A0_1 l0_1.length c0_1]] rfl (by (try simp only [List.map_toArray, List.map_cons, List.map_nil]); first | done | rfl | (simp only [List.length_drop, List.length_take]; rfl)) ?_; (with_reducible refine (impl_Flow_period.calls k1 _ _ l0_0 _ _ l0_1 t793 _ ?side1 ?side2 ?side3 ?side4 A13.out).mono ?_); (case side1 => repeat (first | exact (Kd.C_below HR0_0.out HB.out) | (with_reducible refine Kd.C_alloc ?_ _) | (with_reducible refine Kd.C_drewN ?_ _) | (with_reducible refine Kd.C_drew ?_))); (case side2 => first | exact trivial | (exact HC0_0.out)); (case side3 => repeat (first | exact (Kd.C_below HR0_1.out HB.out) | (with_reducible refine Kd.C_alloc ?_ _) | (with_reducible refine Kd.C_drewN ?_ _) | (with_reducible refine Kd.C_drew ?_))); (case side4 => first | exact trivial | (exact HC0_1.out)); rintro e w28 ⟨rfl, hb⟩; refine ⟨_, rfl, ?_⟩; have n0_ := Aside0.mk (Kd.S_below (by (with_reducible repeat (first | apply Kd.S_alloc | apply Kd.S_drewN | apply Kd.S_drew)); exact HO_5.out) hb); have n1_ := Aside0.mk (blk_below (g := gb787) (o := .cells #[.slice A0_0 l0_0.length c0_0, .slice A0_1 l0_1.length c0_1] 36 (0, 0)) (by (with_reducible repeat (first | refine blk_drewN ?_ _ | refine blk_drew ?_ | refine blk_alloc ?_ _)); exact BK787.out) hb); have n2_ := Aside0.mk (below_step (by repeat (first | (with_reducible first | exact HB.out | apply below_alloc | apply pw_below_drewN | apply below_drew1 | refine below_set ?_ GE787.out) | exact HB.out)) hb); clear HO_5; clear BK787; clear HB; have HO_5 := n0_; have BK787 := n1_; have HB := n2_; clear n0_ n1_ n2_; (try clear hb); (try clear hb2); (try clear hk); (try clear hi)))
     go_ret3
     exact ⟨_, by first | rfl | (simp [errW_none, errW_some] <;> rfl) | (simp [*, errW_none, errW_some] <;> rfl), by first | exact Kd.R_nil _ _ _ _ _ | exact Kd.N_nil _ _ _ _ _ | exact Kd.V_nil _ _ _ _ _ | exact Kd.Q_nil _ _ _ _ _ | exact Kd.S_nil _ _ _ _ _, by repeat (first | (with_reducible first | exact HB.out | apply below_alloc | apply pw_below_drewN | apply below_drew1 | refine below_set ?_ GE787.out) | exact HB.out)⟩
 ·replace c3 := Bool.eq_false_iff.mpr c3
  subst c3
  have H1 : (some (0, ([] : List Int), false)) = some (r1, r2, r3) := by rw [if_neg (show ¬ (false = true) by decide)] at H; exact H
  clear H
  have H := H1
  clear H1
  simp only [Option.some.injEq, Prod.mk.injEq] at H
  obtain ⟨rfl, rfl, rfl⟩ := H
  go_enter Try.func44, Try.ntmps44
  go_wp2_with (first | ((with_reducible refine gate_dst (N := 1) rfl ?_); refine box_event ?hg (N := 1) ?hd (cs := #[.slice A0_0 l0_0.length c0_0, .slice A0_1 l0_1.length c0_1]) (t := 36) ?hr ?_; (case hd => rfl); (case hg => rfl); (case hr => first | (go_simp; done) | (go_simp; rfl)); intro gb787 hg w29 hbox hb; have n0_ := Aside0.mk (below_step (by repeat (first | (with_reducible first | exact HB.out | apply below_alloc | apply pw_below_drewN | apply below_drew1) | exact HB.out)) hb); have n1_ := Aside0.mk (hbox); have n2_ := Aside0.mk ((by rw [hg]; exact (below_size (by repeat (first | (with_reducible first | exact HB.out | apply below_alloc | apply pw_below_drewN | apply below_drew1) | exact HB.out))) : w.heap.size ≤ gb787)); have n3_ := Aside0.mk ((by rw [hg]; exact (below_size (by repeat (first | (with_reducible first | exact HB.out | apply below_alloc | apply pw_below_drewN | apply below_drew1) | exact HB.out))) : w.heap.size ≤ gb787)); clear HB; have HB := n0_; have BK787 := n1_; have GW787 := n2_; have GE787 := n3_; clear n0_ n1_ n2_ n3_; clear hb hbox hg; have hcz30_0 : w29.cell? ⟨gb787, 0, none⟩ = some (.slice A0_0 l0_0.length c0_0) := (blk_cell BK787.out 0).trans rfl; have hcz30_1 : w29.cell? ⟨gb787, 1, none⟩ = some (.slice A0_1 l0_1.length c0_1) := (blk_cell BK787.out 1).trans rfl; have hfz30_0 := blk_frozen BK787.out 0; have hfz30_1 := blk_frozen BK787.out 1) | ((with_reducible refine gate_callee (f := 23) rfl ?_); refine goesL_ (some 10) rfl rfl Try.func23 (by kernel_rfl) rfl #[.agg #[.slice A0_0 l0_0.length c0_0, .slice A0_1 l0_1.length c0_1]] rfl (by (try simp only [List.map_toArray, List.map_cons, List.map_nil]); first | done | rfl | (simp only [List.length_drop, List.length_take]; rfl)) ?_; (with_reducible refine (impl_ValidFlow.calls k _ _ l0_0 _ _ l0_1 false _ ?side1 ?side2 ?side3 ?side4 A2.out).mono ?_); (case side1 => repeat (first | exact (Kd.C_below HR0_0.out HB.out) | (with_reducible refine Kd.C_alloc ?_ _) | (with_reducible refine Kd.C_drewN ?_ _) | (with_reducible refine Kd.C_drew ?_))); (case side2 => first | exact trivial | (exact HC0_0.out)); (case side3 => repeat (first | exact (Kd.C_below HR0_1.out HB.out) | (with_reducible refine Kd.C_alloc ?_ _) | (with_reducible refine Kd.C_drewN ?_ _) | (with_reducible refine Kd.C_drew ?_))); (case side4 => first | exact trivial | (exact HC0_1.out)); rintro e w31 ⟨rfl, hb⟩; refine ⟨_, rfl, ?_⟩; have n0_ := Aside0.mk (blk_below (g := gb787) (o := .cells #[.slice A0_0 l0_0.length c0_0, .slice A0_1 l0_1.length c0_1] 36 (0, 0)) (by (with_reducible repeat (first | refine blk_drewN ?_ _ | refine blk_drew ?_ | refine blk_alloc ?_ _)); exact BK787.out) hb); have n1_ := Aside0.mk (below_step (by repeat (first | (with_reducible first | exact HB.out | apply below_alloc | apply pw_below_drewN | apply below_drew1 | refine below_set ?_ GE787.out) | exact HB.out)) hb); clear BK787; clear HB; have BK787 := n0_; have HB := n1_; clear n0_ n1_; (try clear hb); (try clear hb2); (try clear hk); (try clear hi)))
  go_ret3
  exact ⟨_, by first | rfl | (simp [errW_none, errW_some] <;> rfl) | (simp [*, errW_none, errW_some] <;> rfl), by first | exact Kd.R_nil _ _ _ _ _ | exact Kd.N_nil _ _ _ _ _ | exact Kd.V_nil _ _ _ _ _ | exact Kd.Q_nil _ _ _ _ _ | exact Kd.S_nil _ _ _ _ _, by repeat (first | (with_reducible first | exact HB.out | apply below_alloc | apply pw_below_drewN | apply below_drew1 | refine below_set ?_ GE787.out) | exact HB.out)⟩
end Go.Proofs.Ytojpibpjieanhaa.X
end
section
namespace Go.Proofs.Ytojpibpjieanhaa.X
open Go.RowKit Go.Proofs.YtojpibpjieanhaaW.PrintWords Go.Proofs.YtojpibpjieanhaaW.PrintLast Go.Proofs.YtojpibpjieanhaaW.PrintMore
set_option linter.unusedVariables false
set_option linter.unusedSimpArgs false
def leastF (K : Nat) (d : List Int) (ws : List S55) : Nat → Nat → Option (Int × List Int)
  | 0, _ => none
  | e + 1, p => if p < 1000000 then (spec_l08For.f K d ws (p : Int)).bind fun q => (if q.2 = true then some ((p : Int), q.1) else leastF K d ws e (p + 1)) else none
theorem leastF_mono (K : Nat) (d : List Int) (ws : List S55) : ∀ (e p : Nat), LeO (leastF K d ws e p) (leastF (K + 1) d ws (e + 1) p)
  | 0, p => fun r h => by simp [leastF] at h
  | e + 1, p => by
    have hr : leastF (K + 1) d ws (e + 1 + 1) p = if p < 1000000 then (spec_l08For.f (K + 1) d ws (p : Int)).bind fun q => (if q.2 = true then some ((p : Int), q.1) else leastF (K + 1) d ws (e + 1) (p + 1)) else none := rfl
    rw [leastF, hr]
    split
    · refine LeO.bind (spec_l08For.mono _ _ _ _) (fun q => ?_)
      split
      · exact LeO.refl _
      · exact leastF_mono K d ws e (p + 1)
    · exact LeO.refl _
set_option maxHeartbeats 4000000 in
set_option maxRecDepth 100000 in
theorem sLeast_1 (k : Nat) (A0 : Option Addr) (c0 : Nat) (l0 : List Int) (A1 : Option Addr) (c1 : Nat) (l1 : List S55) (w : World) (hr0 : Kd.C (Kd.int .i64) w A0 l0.length l0) (hr1 : Kd.C k55 w A1 l1.length l1) (h1 : spec_l08Is.f k l0 l1 = some false) :
    Calls Try.prog 43 #[.agg #[.slice A0 l0.length c0, .slice A1 l1.length c1]] w fun e w' => ∃ v : Value, e = .returned (.tuple #[.int .i64 0, v, .bool false]) ∧ Kd.R (Kd.int .i64) 2 w' w.heap.size (fun _ => True) v ([] : List Int) ∧ Below w.heap.size w w' := by
  have Hhr0 := Aside0.mk hr0
  have Hhr1 := Aside0.mk hr1
  have Hh1 := Aside0.mk h1
  clear hr0 hr1 h1
  have HB := Aside0.mk (Below.refl w.heap.size w)
  go_enter Try.func43, Try.ntmps43
  go_wp2_with (first
    | ((with_reducible refine gate_dst (N := 1) rfl ?_); refine box_event ?hg (N := 1) ?hd (cs := #[.slice A0 l0.length c0, .slice A1 l1.length c1]) (t := 36) ?hr ?_; (case hd => rfl); (case hg => rfl); (case hr => first | (go_simp; done) | (go_simp; rfl)); intro g1 hg wn hbox hb; have GE1 := Aside0.mk (by rw [hg]; exact below_size HB.out : w.heap.size ≤ g1); clear hg; have HI : Aside0 (IsS36 w wn g1 l0 l1) := ⟨⟨_, _, _, _, hbox, GE1.out, Hhr0.out, Hhr1.out⟩⟩; clear hbox; have n0_ := Aside0.mk (below_step HB.out hb); clear HB hb; have HB := n0_; clear n0_)
    | (go_at_call 51; (with_reducible refine (spec_l08Is.calls k g1 l0 l1 false w _ HI.out HB.out Hh1.out).mono ?_); rintro e wn ⟨rfl, hi, hb, hk⟩; clear HI HB hk; have HI := Aside0.mk hi; have HB := Aside0.mk hb; clear hi hb))
  go_ret3
  exact ⟨_, rfl, Kd.R_nil _ _ _ _ _, HB.out⟩
set_option maxHeartbeats 4000000 in
set_option maxRecDepth 100000 in
theorem sLeast_2 (k : Nat) (A0 : Option Addr) (c0 : Nat) (l0 : List Int) (A1 : Option Addr) (c1 : Nat) (l1 : List S55) (rp : Int) (rm : List Int) (w : World) (hr0 : Kd.C (Kd.int .i64) w A0 l0.length l0) (hr1 : Kd.C k55 w A1 l1.length l1) (h1 : spec_l08Is.f k l0 l1 = some true) (h2 : leastF k l0 l1 k 0 = some (rp, rm)) :
    Calls Try.prog 43 #[.agg #[.slice A0 l0.length c0, .slice A1 l1.length c1]] w fun e w' => ∃ v : Value, e = .returned (.tuple #[.int .i64 rp, v, .bool true]) ∧ Kd.R (Kd.int .i64) 2 w' w.heap.size (fun _ => True) v rm ∧ Below w.heap.size w w' := by
  have Hhr0 := Aside0.mk hr0
  have Hhr1 := Aside0.mk hr1
  have Hh1 := Aside0.mk h1
  have HF0 := Aside0.mk h2
  clear hr0 hr1 h1 h2
  have HB := Aside0.mk (Below.refl w.heap.size w)
  go_enter Try.func43, Try.ntmps43
  go_wp2_with (first
    | ((with_reducible refine gate_dst (N := 1) rfl ?_); refine box_event ?hg (N := 1) ?hd (cs := #[.slice A0 l0.length c0, .slice A1 l1.length c1]) (t := 36) ?hr ?_; (case hd => rfl); (case hg => rfl); (case hr => first | (go_simp; done) | (go_simp; rfl)); intro g1 hg wn hbox hb; have GE1 := Aside0.mk (by rw [hg]; exact below_size HB.out : w.heap.size ≤ g1); clear hg; have HI : Aside0 (IsS36 w wn g1 l0 l1) := ⟨⟨_, _, _, _, hbox, GE1.out, Hhr0.out, Hhr1.out⟩⟩; clear hbox; have n0_ := Aside0.mk (below_step HB.out hb); clear HB hb; have HB := n0_; clear n0_)
    | (go_at_call 51; (with_reducible refine (spec_l08Is.calls k g1 l0 l1 true w _ HI.out HB.out Hh1.out).mono ?_); rintro e wn ⟨rfl, hi, hb, hk⟩; clear HI HB hk; have HI := Aside0.mk hi; have HB := Aside0.mk hb; clear hi hb))
  go_loopg [5] k (fun kq v5 w' => ∃ p : Nat, v5 = .int .i64 p ∧ Aside0 (leastF k l0 l1 kq p = some (rp, rm)) ∧ Aside0 (IsS36 w w' g1 l0 l1) ∧ Aside0 (Below w.heap.size w w'))
  case atStart => exact ⟨0, by first | rfl | simp, HF0, HI, HB⟩
  case round =>
    clear HF0 HI HB
    obtain ⟨p, rfl, HF, HI, HB⟩ := hrel
    cases gk with
    | zero => exact absurd HF.out (by simp [leastF])
    | succ gq =>
    have h := HF.out
    rw [leastF] at h
    by_cases hp : p < 1000000
    · rw [if_pos hp] at h
      obtain ⟨⟨m, b⟩, h3, h⟩ := Option.bind_eq_some_iff.mp h
      have Hh3 := Aside0.mk h3
      have wp : IntKind.i64.wrap ((p : Int) + 1) = (p : Int) + 1 := IntWalk.i64_in _ ⟨by omega, by omega⟩
      clear h3 HF
      cases b with
      | true =>
        have HE : Aside0 ((p : Int) = rp ∧ m = rm) := ⟨by rw [if_pos rfl] at h; injection h with h; injection h with h3 h4; exact ⟨h3, h4⟩⟩
        clear h
        go_wp2_with (go_at_call 73; (with_reducible refine (spec_l08For.calls k g1 l0 l1 (p : Int) m true w _ HI.out HB.out Hh3.out).mono ?_); rintro e wn2 ⟨v, rfl, hR, hi, hb, hk⟩; have HR := Aside0.mk (Kd.R_lower hR (below_size HB.out)); clear HI HB hk hi hR; have HB := Aside0.mk hb; clear hb)
        go_ret3
        obtain ⟨e1, e2⟩ := HE.out
        subst e1 e2
        exact ⟨_, rfl, HR.out, HB.out⟩
      | false =>
        have HF := Aside0.mk (show leastF k l0 l1 gq (p + 1) = some (rp, rm) by rw [if_neg (by simp)] at h; exact h)
        clear h
        go_wp2_with (go_at_call 73; (with_reducible refine (spec_l08For.calls k g1 l0 l1 (p : Int) m false w _ HI.out HB.out Hh3.out).mono ?_); rintro e wn2 ⟨v, rfl, hR, hi, hb, hk⟩; clear HI HB hk hR; have HI := Aside0.mk hi; have HB := Aside0.mk hb; clear hb hi)
        go_roundg gq
        case measure => omega
        case rel => exact ⟨p + 1, by go_num, HF, HI, HB⟩
    · rw [if_neg hp] at h
      cases h
def spec_LeastMovedPeriod.f (k : Nat) (l0 : List Int) (l1 : List S55) : Option (Int × List Int × Bool) :=
  (spec_l08Is.f k l0 l1).bind fun b1 => if b1 = true then (leastF k l0 l1 k 0).bind fun p => some (p.1, p.2, true) else some (0, [], false)
theorem spec_LeastMovedPeriod.mono : ∀ a0 a1 k, LeO (spec_LeastMovedPeriod.f k a0 a1) (spec_LeastMovedPeriod.f (k + 1) a0 a1) := by
  intro a0 a1 k
  unfold spec_LeastMovedPeriod.f
  refine LeO.bind (spec_l08Is.mono a0 a1 k) (fun b1 => ?_)
  split
  · exact LeO.bind (leastF_mono k a0 a1 k 0) (fun _ => LeO.refl _)
  · exact LeO.refl _
theorem spec_LeastMovedPeriod.calls (k : Nat) (A0_0 : Option Addr) (c0_0 : Nat) (l0_0 : List Int) (A0_1 : Option Addr) (c0_1 : Nat) (l0_1 : List (S55)) (r1 : Int) (r2 : List Int) (r3 : Bool) (w : World) (hr0_0 : Kd.C (Kd.int .i64) w A0_0 l0_0.length l0_0) (hc0_0 : l0_0.length ≤ c0_0) (hr0_1 : Kd.C k55 w A0_1 l0_1.length l0_1) (hc0_1 : l0_1.length ≤ c0_1) (h : spec_LeastMovedPeriod.f k l0_0 l0_1 = some (r1, r2, r3)) :
    Calls Try.prog 43 #[.agg #[.slice A0_0 l0_0.length c0_0, .slice A0_1 l0_1.length c0_1]] w fun e w' => ∃ v : Value, e = .returned (.tuple #[.int .i64 r1, v, .bool r3]) ∧ Kd.R (Kd.int .i64) 2 w' w.heap.size (fun _ => True) v r2 ∧ Below w.heap.size w w' := by
  unfold spec_LeastMovedPeriod.f at h
  obtain ⟨b1, h1, h⟩ := Option.bind_eq_some_iff.mp h
  cases b1 with
  | false =>
    rw [if_neg (by simp)] at h
    simp only [Option.some.injEq, Prod.mk.injEq] at h
    obtain ⟨rfl, rfl, rfl⟩ := h
    exact sLeast_1 k A0_0 c0_0 l0_0 A0_1 c0_1 l0_1 w hr0_0 hr0_1 h1
  | true =>
    rw [if_pos rfl] at h
    obtain ⟨⟨p, m⟩, h2, h⟩ := Option.bind_eq_some_iff.mp h
    simp only [Option.some.injEq, Prod.mk.injEq] at h
    obtain ⟨rfl, rfl, rfl⟩ := h
    exact sLeast_2 k A0_0 c0_0 l0_0 A0_1 c0_1 l0_1 p m w hr0_0 hr0_1 h1 h2
end Go.Proofs.Ytojpibpjieanhaa.X
end
