/- My own texts of this seat and its words, merged: Xp57, Xp28, Xp75, XMvFor, XMovesFor. Conditions: as each lemma says. -/
import Derived.Test.YtojpibpjieanhaaM21
import Derived.Test.YtojpibpjieanhaaM24
import Derived.Test.YtojpibpjieanhaaM23
import Derived.Deep.RegionHeld3
import Derived.Test.YtojpibpjieanhaaM22
section
-- Written by a program of this session out of the kit's print of the loaded functions: a plain function of a Go function, and its contract.
namespace Go.Proofs.Ytojpibpjieanhaa.X
open Go.RowKit Go.Proofs.YtojpibpjieanhaaW.PrintWords Go.Proofs.YtojpibpjieanhaaW.PrintLast Go.Proofs.YtojpibpjieanhaaW.PrintMore
attribute [local go_sem] max2_int min2_int max_two min_two max_three min_three max_four min_four   -- for this text's walks alone
set_option linter.unusedVariables false
set_option linter.unusedSimpArgs false
def impl_Flow_moved.l0 : Nat → List Int → List (S55) → Int → Int → List Int → List (S55) → Option (List Int × (List (S55)))
 | 0, _, _, _, _, _, _ => none
 | k + 1, x1, x13, x14, x15, x340000, x340001 => if x15 < x14 then (if 0 ≤ x15 then (if x15 < (x13.length : Int) then (if 0 ≤ ((rd_T55 x13 x15).f1) then (if ((rd_T55 x13 x15).f1) < (x1.length : Int) then (if 0 ≤ ((rd_T55 x13 x15).f0) then (if ((rd_T55 x13 x15).f0) < (x1.length : Int) then (if x340001.length < 5864062014805 then (impl_Flow_moved.l0 k x1 x13 x14 (wrap64 (x15 + 1)) x340000 (x340001 ++ [(⟨(rd_T55 x13 x15).f0, (rd_T55 x13 x15).f1, wrap64 ((wrap64 (((rd_T55 x13 x15).f2) + (rd x1 ((rd_T55 x13 x15).f1)))) - (rd x1 ((rd_T55 x13 x15).f0)))⟩ : S55)])) else (none)) else (none)) else (none)) else (none)) else (none)) else (none)) else (none)) else (some (x340000, x340001))
def impl_Flow_moved.f (k : Nat) (l0_0 : List Int) (l0_1 : List (S55)) (l1 : List Int) : Option (List Int × (List (S55))) := (slices_Clone_int64_int64.f l0_0).bind fun t336 => (impl_Flow_moved.l0 k l1 l0_1 (l0_1.length : Int) 0 t336 ([] : List (S55)))
theorem impl_Flow_moved.mono_l : ∀ k, (∀ y0 y1 y2 y3 y4 y5, LeO (impl_Flow_moved.l0 k y0 y1 y2 y3 y4 y5) (impl_Flow_moved.l0 (k + 1) y0 y1 y2 y3 y4 y5))
 | 0 => fun _ _ _ _ _ _ r h => by simp [impl_Flow_moved.l0] at h
 | k + 1 => by
  have ih0 := impl_Flow_moved.mono_l k
  ·intro y0 y1 y2 y3 y4 y5
   unfold impl_Flow_moved.l0
   repeat' first
   | (with_reducible exact ih0 _ _ _ _ _ _)
   | (with_reducible exact LeO.refl _)
   | (with_reducible exact LeO.none _)
   | (with_reducible refine LeO.ite ?_ ?_)
   | (with_reducible refine LeO.bind ?_ (fun _ => ?_))
   | exact ih0 _ _ _ _ _ _
   | exact LeO.none _
   | refine LeO.ite ?_ ?_
   | refine LeO.bind ?_ (fun _ => ?_)
theorem impl_Flow_moved.mono : ∀ a0 a1 a2 k, LeO (impl_Flow_moved.f k a0 a1 a2) (impl_Flow_moved.f (k + 1) a0 a1 a2) := by
 intro a0 a1 a2 k
 have ih0 := impl_Flow_moved.mono_l k
 unfold impl_Flow_moved.f
 repeat' first
   | (with_reducible exact ih0 _ _ _ _ _ _)
   | (with_reducible exact LeO.refl _)
   | (with_reducible exact LeO.none _)
   | (with_reducible refine LeO.ite ?_ ?_)
   | (with_reducible refine LeO.bind ?_ (fun _ => ?_))
   | exact ih0 _ _ _ _ _ _
   | exact LeO.none _
   | refine LeO.ite ?_ ?_
   | refine LeO.bind ?_ (fun _ => ?_)
def impl_Flow_moved.T5 : Bool × List (List Nat × List Nat) := (true, [([], []), ([0], [0]), ([], []), ([2], [2]), ([], []), ([4], [4]), ([], []), ([6], [6]), ([], []), ([], []), ([9], [9]), ([8, 10], [8, 10]), ([11], [11]), ([7, 12], [7, 12]), ([], []), ([], []), ([15], [15]), ([14, 16], [14, 16]), ([17], [17]), ([13, 18], [13, 18]), ([3, 5, 19], [3, 5, 19]), ([20], [20]), ([1, 21], [1, 21]), ([0, 1, 2, 3, 4, 5, 6, 7, 8, 9, 10, 11, 12, 13, 14, 15, 16, 17, 18, 19, 20, 21, 22], []), ([23, 22, 22, 0, 1, 2, 3, 4, 5, 6, 7, 8, 9, 10, 11, 12, 13, 14, 15, 16, 17, 18, 19, 20, 21, 22], [22, 23])])
def impl_Flow_moved.B5 : List Nat := [0, 1, 0, 4, 0, 16, 0, 64, 0, 0, 512, 1792, 3840, 8128, 0, 0, 32768, 114688, 245760, 524224, 1048572, 2097148, 4194303, 8388607, 16777215]
theorem impl_Flow_moved.tab5 : rtab .any (opsOf Try.f57 5) = impl_Flow_moved.T5 := by kernel_rfl
theorem impl_Flow_moved.bits5 : waitsOk impl_Flow_moved.T5.2 impl_Flow_moved.B5 = true := by kernel_rfl
set_option maxHeartbeats 8000000 in
set_option maxRecDepth 100000 in
theorem impl_Flow_moved.calls (k : Nat) (A0_0 : Option Addr) (c0_0 : Nat) (l0_0 : List Int) (A0_1 : Option Addr) (c0_1 : Nat) (l0_1 : List (S55)) (A1 : Option Addr) (c1 : Nat) (l1 : List Int) (r1 : List Int) (r2 : List (S55)) (w : World) (hr0_0 : Kd.C (Kd.int .i64) w A0_0 l0_0.length l0_0) (hc0_0 : l0_0.length ≤ c0_0) (hr0_1 : Kd.C k55 w A0_1 l0_1.length l0_1) (hc0_1 : l0_1.length ≤ c0_1) (hr1 : Kd.C (Kd.int .i64) w A1 l1.length l1) (hc1 : l1.length ≤ c1) (h : impl_Flow_moved.f k l0_0 l0_1 l1 = some (r1, r2)) :
  Calls Try.prog 57 #[.agg #[.slice A0_0 l0_0.length c0_0, .slice A0_1 l0_1.length c0_1], .slice A1 l1.length c1] w fun e w' => ∃ v0_ v1_ : Value, e = .returned (.agg #[v0_, v1_]) ∧ Kd.R (Kd.int .i64) 2 w' w.heap.size (fun _ => True) v0_ r1 ∧ Kd.R k55 55 w' w.heap.size (fun _ => True) v1_ r2 ∧ Below w.heap.size w w' := by
 have hu36 := Try.underlying36
 have hu55 := Try.underlying55
 have HR0_0 := Aside0.mk hr0_0
 have HC0_0 := Aside0.mk hc0_0
 clear hr0_0 hc0_0
 have HR0_1 := Aside0.mk hr0_1
 have HC0_1 := Aside0.mk hc0_1
 clear hr0_1 hc0_1
 have HR1 := Aside0.mk hr1
 have HC1 := Aside0.mk hc1
 clear hr1 hc1
 have HB := Aside0.mk (Below.refl w.heap.size w)
 have H : ((slices_Clone_int64_int64.f l0_0).bind fun t336 => (impl_Flow_moved.l0 k l1 l0_1 (l0_1.length : Int) 0 t336 ([] : List (S55)))) = some (r1, r2) := h
 clear h
 replace H := Option.bind_eq_some_iff.mp H
 obtain ⟨t336, A30, H⟩ := H
 replace H : (impl_Flow_moved.l0 k l1 l0_1 (l0_1.length : Int) 0 t336 ([] : List (S55))) = some (r1, r2) := H
 have A3 := Aside0.mk A30
 clear A30
 have H' := Aside0.mk H
 clear H
 go_enter Try.func57, Try.ntmps57
 go_wp2_with (first | ((with_reducible refine gate_dst (N := 2) rfl ?_); refine box_event ?hg (N := 2) ?hd (cs := #[.slice A0_0 l0_0.length c0_0, .slice A0_1 l0_1.length c0_1]) (t := 36) ?hr ?_; (case hd => rfl); (case hg => rfl); (case hr => first | (go_simp; done) | (go_simp; rfl)); intro gb334 hg w4 hbox hb; have n0_ := Aside0.mk (below_step (by repeat (first | (with_reducible first | exact HB.out | apply below_alloc | apply pw_below_drewN | apply below_drew1) | exact HB.out)) hb); have n1_ := Aside0.mk (hbox); have n2_ := Aside0.mk ((by rw [hg]; exact (below_size (by repeat (first | (with_reducible first | exact HB.out | apply below_alloc | apply pw_below_drewN | apply below_drew1) | exact HB.out))) : w.heap.size ≤ gb334)); have n3_ := Aside0.mk ((by rw [hg]; exact (below_size (by repeat (first | (with_reducible first | exact HB.out | apply below_alloc | apply pw_below_drewN | apply below_drew1) | exact HB.out))) : w.heap.size ≤ gb334)); clear HB; have HB := n0_; have BK334 := n1_; have GW334 := n2_; have GE334 := n3_; clear n0_ n1_ n2_ n3_; clear hb hbox hg) | ((with_reducible refine gate_dst (N := 4) rfl ?_); refine box_event ?hg (N := 4) ?hd (cs := #[.slice none 0 0, .slice none 0 0]) (t := 36) ?hr ?_; (case hd => rfl); (case hg => rfl); (case hr => first | (go_simp; done) | (go_simp; rfl)); intro gb335 hg w5 hbox hb; have n0_ := Aside0.mk (blk_below (g := gb334) (o := .cells #[.slice A0_0 l0_0.length c0_0, .slice A0_1 l0_1.length c0_1] 36 (0, 0)) (by (with_reducible repeat (first | refine blk_drewN ?_ _ | refine blk_drew ?_ | refine blk_alloc ?_ _)); exact BK334.out) hb); have n1_ := Aside0.mk (below_step (by repeat (first | (with_reducible first | exact HB.out | apply below_alloc | apply pw_below_drewN | apply below_drew1 | refine below_set ?_ GE334.out) | exact HB.out)) hb); have n2_ := Aside0.mk (hbox); have n3_ := Aside0.mk ((by rw [hg]; exact (below_size (by repeat (first | (with_reducible first | exact HB.out | apply below_alloc | apply pw_below_drewN | apply below_drew1 | refine below_set ?_ GE334.out) | exact HB.out))) : w.heap.size ≤ gb335)); have n4_ := Aside0.mk ((by rw [hg]; exact (below_size (by repeat (first | (with_reducible first | exact HB.out | apply below_alloc | apply pw_below_drewN | apply below_drew1 | refine below_set ?_ GE334.out) | exact HB.out))) : w.heap.size ≤ gb335)); have n5_ := Aside0.mk ((by rw [hg]; exact Nat.ne_of_lt (blk_lt (g := gb334) (o := .cells #[.slice A0_0 l0_0.length c0_0, .slice A0_1 l0_1.length c0_1] 36 (0, 0)) (by (with_reducible repeat (first | refine blk_drewN ?_ _ | refine blk_drew ?_ | refine blk_alloc ?_ _)); exact BK334.out)) : gb334 ≠ gb335)); have n6_ := Aside0.mk ((by rw [hg]; exact Nat.ne_of_gt (blk_lt (g := gb334) (o := .cells #[.slice A0_0 l0_0.length c0_0, .slice A0_1 l0_1.length c0_1] 36 (0, 0)) (by (with_reducible repeat (first | refine blk_drewN ?_ _ | refine blk_drew ?_ | refine blk_alloc ?_ _)); exact BK334.out)) : gb335 ≠ gb334)); clear BK334; clear HB; have BK334 := n0_; have HB := n1_; have BK335 := n2_; have GW335 := n3_; have GE335 := n4_; have NB334_335 := n5_; have NB335_334 := n6_; clear n0_ n1_ n2_ n3_ n4_ n5_ n6_; clear hb hbox hg; have hnb6 := NB334_335.out; have hnc6 := NB335_334.out; have hcz7_0 : w5.cell? ⟨gb334, 0, none⟩ = some (.slice A0_0 l0_0.length c0_0) := (blk_cell BK334.out 0).trans rfl; have hcz7_1 : w5.cell? ⟨gb334, 1, none⟩ = some (.slice A0_1 l0_1.length c0_1) := (blk_cell BK334.out 1).trans rfl; have hfz7_0 := blk_frozen BK334.out 0; have hfz7_1 := blk_frozen BK334.out 1) | ((with_reducible refine gate_callee (f := 69) rfl ?_); refine goesL_ (some 10) rfl rfl Try.func69 (by kernel_rfl) rfl #[.slice A0_0 l0_0.length c0_0] rfl (by (try simp only [List.map_toArray, List.map_cons, List.map_nil]); first | done | rfl | (simp only [List.length_drop, List.length_take]; rfl)) ?_; (with_reducible refine (slices_Clone_int64_int64.calls _ _ l0_0 t336 _ ?side1 ?side2 A3.out).mono ?_); (case side1 => repeat (first | exact (Kd.C_below HR0_0.out HB.out) | (with_reducible refine Kd.C_alloc ?_ _) | (with_reducible refine Kd.C_drewN ?_ _) | (with_reducible refine Kd.C_drew ?_))); (case side2 => first | exact trivial | (exact HC0_0.out)); rintro e w8 ⟨v337, rfl, ho0, hb⟩; refine ⟨_, rfl, ?_⟩; have n0_ := Aside0.mk (Kd.R_lower ho0 (below_size (by repeat (first | (with_reducible first | exact HB.out | apply below_alloc | apply pw_below_drewN | apply below_drew1 | refine below_set ?_ GE334.out | refine below_set ?_ GE335.out) | exact HB.out)))); have n1_ := Aside0.mk (blk_below (g := gb334) (o := .cells #[.slice A0_0 l0_0.length c0_0, .slice A0_1 l0_1.length c0_1] 36 (0, 0)) (by (with_reducible repeat (first | refine blk_drewN ?_ _ | refine blk_drew ?_ | refine blk_alloc ?_ _)); exact BK334.out) hb); have n2_ := Aside0.mk (blk_below (g := gb335) (o := .cells #[.slice none 0 0, .slice none 0 0] 36 (0, 0)) (by (with_reducible repeat (first | refine blk_drewN ?_ _ | refine blk_drew ?_ | refine blk_alloc ?_ _)); exact BK335.out) hb); have n3_ := Aside0.mk (below_step (by repeat (first | (with_reducible first | exact HB.out | apply below_alloc | apply pw_below_drewN | apply below_drew1 | refine below_set ?_ GE334.out | refine below_set ?_ GE335.out) | exact HB.out)) hb); clear BK334; clear BK335; clear HB; have HO338 := n0_; have BK334 := n1_; have BK335 := n2_; have HB := n3_; clear n0_ n1_ n2_ n3_; (try clear hb); (try clear hb2); (try clear hk); (try clear hi); (try clear ho0); obtain ⟨Ao9, co9, eo9⟩ := Kd.R_slice HO338.out; subst eo9) | ((with_reducible refine gate_dst (N := 5) rfl ?_); refine box_event ?hg (N := 5) ?hd (cs := #[.slice none 0 0, .slice none 0 0]) (t := 36) ?hr ?_; (case hd => rfl); (case hg => rfl); (case hr => first | (go_simp; done) | (go_simp; rfl)); intro gb339 hg w10 hbox hb; have n0_ := Aside0.mk (Kd.R_below (by (with_reducible repeat (first | apply Kd.R_alloc | apply Kd.R_drewN | apply Kd.R_drew)); exact HO338.out) hb); have n1_ := Aside0.mk (blk_below (g := gb334) (o := .cells #[.slice A0_0 l0_0.length c0_0, .slice A0_1 l0_1.length c0_1] 36 (0, 0)) (by (with_reducible repeat (first | refine blk_drewN ?_ _ | refine blk_drew ?_ | refine blk_alloc ?_ _)); exact BK334.out) hb); have n2_ := Aside0.mk (blk_below (g := gb335) (o := .cells #[.slice none 0 0, .slice none 0 0] 36 (0, 0)) (by (with_reducible repeat (first | refine blk_drewN ?_ _ | refine blk_drew ?_ | refine blk_alloc ?_ _)); exact BK335.out) hb); have n3_ := Aside0.mk (below_step (by repeat (first | (with_reducible first | exact HB.out | apply below_alloc | apply pw_below_drewN | apply below_drew1 | refine below_set ?_ GE334.out | refine below_set ?_ GE335.out) | exact HB.out)) hb); have n4_ := Aside0.mk (hbox); have n5_ := Aside0.mk ((by rw [hg]; exact (below_size (by repeat (first | (with_reducible first | exact HB.out | apply below_alloc | apply pw_below_drewN | apply below_drew1 | refine below_set ?_ GE334.out | refine below_set ?_ GE335.out) | exact HB.out))) : w.heap.size ≤ gb339)); have n6_ := Aside0.mk ((by rw [hg]; exact (below_size (by repeat (first | (with_reducible first | exact HB.out | apply below_alloc | apply pw_below_drewN | apply below_drew1 | refine below_set ?_ GE334.out | refine below_set ?_ GE335.out) | exact HB.out))) : w.heap.size ≤ gb339)); have n7_ := Aside0.mk ((by rw [hg]; exact Nat.ne_of_lt (blk_lt (g := gb334) (o := .cells #[.slice A0_0 l0_0.length c0_0, .slice A0_1 l0_1.length c0_1] 36 (0, 0)) (by (with_reducible repeat (first | refine blk_drewN ?_ _ | refine blk_drew ?_ | refine blk_alloc ?_ _)); exact BK334.out)) : gb334 ≠ gb339)); have n8_ := Aside0.mk ((by rw [hg]; exact Nat.ne_of_gt (blk_lt (g := gb334) (o := .cells #[.slice A0_0 l0_0.length c0_0, .slice A0_1 l0_1.length c0_1] 36 (0, 0)) (by (with_reducible repeat (first | refine blk_drewN ?_ _ | refine blk_drew ?_ | refine blk_alloc ?_ _)); exact BK334.out)) : gb339 ≠ gb334)); have n9_ := Aside0.mk ((by rw [hg]; exact Nat.ne_of_lt (blk_lt (g := gb335) (o := .cells #[.slice none 0 0, .slice none 0 0] 36 (0, 0)) (by (with_reducible repeat (first | refine blk_drewN ?_ _ | refine blk_drew ?_ | refine blk_alloc ?_ _)); exact BK335.out)) : gb335 ≠ gb339)); have n10_ := Aside0.mk ((by rw [hg]; exact Nat.ne_of_gt (blk_lt (g := gb335) (o := .cells #[.slice none 0 0, .slice none 0 0] 36 (0, 0)) (by (with_reducible repeat (first | refine blk_drewN ?_ _ | refine blk_drew ?_ | refine blk_alloc ?_ _)); exact BK335.out)) : gb339 ≠ gb335)); clear HO338; clear BK334; clear BK335; clear HB; have HO338 := n0_; have BK334 := n1_; have BK335 := n2_; have HB := n3_; have BK339 := n4_; have GW339 := n5_; have GE339 := n6_; have NB334_339 := n7_; have NB339_334 := n8_; have NB335_339 := n9_; have NB339_335 := n10_; clear n0_ n1_ n2_ n3_ n4_ n5_ n6_ n7_ n8_ n9_ n10_; clear hb hbox hg; have hnb11 := NB339_334.out; have hnc11 := NB334_339.out; have hnb12 := NB339_335.out; have hnc12 := NB335_339.out; have hcz13_0 : w10.cell? ⟨gb339, 0, none⟩ = some (.slice none 0 0) := (blk_cell BK339.out 0).trans rfl; have hcz13_1 : w10.cell? ⟨gb339, 1, none⟩ = some (.slice none 0 0) := (blk_cell BK339.out 1).trans rfl; have hfz13_0 := blk_frozen BK339.out 0; have hfz13_1 := blk_frozen BK339.out 1; have hcz14_0 : w10.cell? ⟨gb334, 0, none⟩ = some (.slice A0_0 l0_0.length c0_0) := (blk_cell BK334.out 0).trans rfl; have hcz14_1 : w10.cell? ⟨gb334, 1, none⟩ = some (.slice A0_1 l0_1.length c0_1) := (blk_cell BK334.out 1).trans rfl; have hfz14_0 := blk_frozen BK334.out 0; have hfz14_1 := blk_frozen BK334.out 1))
 go_loopg [15] k (fun kq v15 w' => ∃ (x15_1 : Int) (x340001_1 : List (S55)) (u340001 : Value), v15 = .int .i64 x15_1 ∧ Aside0 (impl_Flow_moved.l0 kq l1 l0_1 (l0_1.length : Int) x15_1 t336 x340001_1 = some (r1, r2)) ∧ Aside0 (kq ≤ k) ∧ Aside0 (Kd.R (Kd.int .i64) 2 w' w.heap.size (fun _ => True) (.slice Ao9 t336.length co9) t336) ∧ Aside0 (Kd.R k55 55 w' w.heap.size (fun _ => True) u340001 x340001_1) ∧ Aside0 (w'.heap[gb334]? = some (.cells #[(.slice A0_0 l0_0.length c0_0), (.slice A0_1 l0_1.length c0_1)] 36 (0, 0))) ∧ Aside0 (w'.heap[gb335]? = some (.cells #[(.slice none 0 0), (.slice none 0 0)] 36 (0, 0))) ∧ Aside0 (w'.heap[gb339]? = some (.cells #[(.slice Ao9 t336.length co9), u340001] 36 (0, 0))) ∧ Aside0 (Below w.heap.size w w'))
 case atStart => exact ⟨(0), (([] : List (S55))), (.slice none 0 0), (by first | rfl | (simp; done) | (simp [*]; done)), H', ⟨Nat.le_refl _⟩, ⟨by (with_reducible repeat (first | apply Kd.R_alloc | apply Kd.R_drewN | apply Kd.R_drew)); exact Kd.R_mono (Kd.R_far (p := ⟨gb339, 1, none⟩) (Kd.R_far (p := ⟨gb339, 0, none⟩) (Kd.R_types HO338.out BK339.out (by decide)) (fun _ hk => hk.2) (.slice Ao9 t336.length co9)) (fun _ hk => hk.2) (.slice none 0 0)) (fun _ hk => trivial)⟩, ⟨by first | exact Kd.R_nil _ _ _ _ _ | exact Kd.N_nil _ _ _ _ _ | exact Kd.V_nil _ _ _ _ _ | exact Kd.Q_nil _ _ _ _ _ | exact Kd.S_nil _ _ _ _ _⟩, ⟨by (with_reducible repeat (first | refine blk_drewN ?_ _ | refine blk_drew ?_ | refine blk_alloc ?_ _)); refine blk_far ?_ NB334_339.out _; (with_reducible repeat (first | refine blk_drewN ?_ _ | refine blk_drew ?_ | refine blk_alloc ?_ _)); refine blk_far ?_ NB334_339.out _; (with_reducible repeat (first | refine blk_drewN ?_ _ | refine blk_drew ?_ | refine blk_alloc ?_ _)); exact BK334.out⟩, ⟨by (with_reducible repeat (first | refine blk_drewN ?_ _ | refine blk_drew ?_ | refine blk_alloc ?_ _)); refine blk_far ?_ NB335_339.out _; (with_reducible repeat (first | refine blk_drewN ?_ _ | refine blk_drew ?_ | refine blk_alloc ?_ _)); refine blk_far ?_ NB335_339.out _; (with_reducible repeat (first | refine blk_drewN ?_ _ | refine blk_drew ?_ | refine blk_alloc ?_ _)); exact BK335.out⟩, ⟨by (with_reducible repeat (first | refine blk_drewN ?_ _ | refine blk_drew ?_ | refine blk_alloc ?_ _)); refine blk_put (cs := #[.slice Ao9 t336.length co9, .slice none 0 0]) ?_ 1 _ rfl; (with_reducible repeat (first | refine blk_drewN ?_ _ | refine blk_drew ?_ | refine blk_alloc ?_ _)); refine blk_put (cs := #[.slice none 0 0, .slice none 0 0]) ?_ 0 _ rfl; (with_reducible repeat (first | refine blk_drewN ?_ _ | refine blk_drew ?_ | refine blk_alloc ?_ _)); exact BK339.out⟩, ⟨by repeat (first | (with_reducible first | exact HB.out | apply below_alloc | apply pw_below_drewN | apply below_drew1 | refine below_set ?_ GE334.out | refine below_set ?_ GE335.out | refine below_set ?_ GE339.out) | exact HB.out)⟩⟩
 case round =>
  clear H'
  try clear c1
  try clear p2
  try clear c5
  try clear c6
  try clear c11
  try clear c12
  try clear hcz13_0
  try clear hcz13_1
  try clear hcz14_0
  try clear hcz14_1
  try clear hcz7_0
  try clear hcz7_1
  try clear hfz13_0
  try clear hfz13_1
  try clear hfz14_0
  try clear hfz14_1
  try clear hfz7_0
  try clear hfz7_1
  obtain ⟨x15_1, x340001_1, u340001, rfl, HA, HK1, HO_340000, HO_340001, BK334, BK335, BK339, HB⟩ := hrel
  cases gk with
  | zero => exact absurd HA.out (by simp [impl_Flow_moved.l0])
  | succ k1 =>
   have H := HA.out
   clear HA
   simp only [impl_Flow_moved.l0] at H
   by_cases c15 : x15_1 < (l0_1.length : Int)
   ·rw [if_pos c15] at H
    have c15b0 : decide (x15_1 < (l0_1.length : Int)) = true := decide_eq_true c15
    clear c15
    by_cases c16 : 0 ≤ x15_1
    ·rw [if_pos c16] at H
     have c16b0 : decide (0 ≤ x15_1) = true := decide_eq_true c16
     clear c16
     by_cases c17 : x15_1 < (l0_1.length : Int)
     ·rw [if_pos c17] at H
      have c17b0 : decide (x15_1 < (l0_1.length : Int)) = true := decide_eq_true c17
      clear c17
      by_cases c18 : 0 ≤ ((rd_T55 l0_1 x15_1).f1)
      ·rw [if_pos c18] at H
       have c18b0 : decide (0 ≤ ((rd_T55 l0_1 x15_1).f1)) = true := decide_eq_true c18
       clear c18
       by_cases c19 : ((rd_T55 l0_1 x15_1).f1) < (l1.length : Int)
       ·rw [if_pos c19] at H
        have c19b0 : decide (((rd_T55 l0_1 x15_1).f1) < (l1.length : Int)) = true := decide_eq_true c19
        clear c19
        by_cases c20 : 0 ≤ ((rd_T55 l0_1 x15_1).f0)
        ·rw [if_pos c20] at H
         have c20b0 : decide (0 ≤ ((rd_T55 l0_1 x15_1).f0)) = true := decide_eq_true c20
         clear c20
         by_cases c21 : ((rd_T55 l0_1 x15_1).f0) < (l1.length : Int)
         ·rw [if_pos c21] at H
          have c21b0 : decide (((rd_T55 l0_1 x15_1).f0) < (l1.length : Int)) = true := decide_eq_true c21
          clear c21
          by_cases c22 : x340001_1.length < 5864062014805
          ·rw [if_pos c22] at H
           have LMc22 := Aside0.mk c22
           clear c22
           obtain ⟨y344, hy344⟩ : ∃ y_ : List (S55), y_ = (x340001_1 ++ [(⟨(rd_T55 l0_1 x15_1).f0, (rd_T55 l0_1 x15_1).f1, wrap64 ((wrap64 (((rd_T55 l0_1 x15_1).f2) + (rd l1 ((rd_T55 l0_1 x15_1).f1)))) - (rd l1 ((rd_T55 l0_1 x15_1).f0)))⟩ : S55)]) := ⟨_, rfl⟩
           replace H : (impl_Flow_moved.l0 k1 l1 l0_1 (l0_1.length : Int) (wrap64 (x15_1 + 1)) t336 y344) = some (r1, r2) := by first | (rw [hy344]; with_reducible exact H) | (have H2_ := (Option.bind_some _ _).symm.trans H; rw [hy344]; with_reducible exact H2_) | (have H2_ := (Option.bind_some _ _).symm.trans H; with_reducible exact H2_) | with_reducible exact H | (rw [hy344]; exact H) | exact H
           have Ny344 := Aside0.mk hy344
           clear hy344
           have H' := Aside0.mk H
           clear H
           have p340 : 0 ≤ (x15_1 : Int) := of_decide_eq_true (by first | (with_reducible assumption) | assumption)
           have q340 : x15_1 < (l0_1.length : Int) := of_decide_eq_true (by first | (with_reducible assumption) | assumption)
           obtain ⟨ad340, e340, hx340_0, hx340_1, hx340_2⟩ := at_T55 HR0_1.out x15_1 p340 q340
           cases e340
           replace hx340_0 := (HB.out.cell (World.block_lt_of_cell? w _ hx340_0)).trans hx340_0
           replace hx340_1 := (HB.out.cell (World.block_lt_of_cell? w _ hx340_1)).trans hx340_1
           replace hx340_2 := (HB.out.cell (World.block_lt_of_cell? w _ hx340_2)).trans hx340_2
           replace p340 := eq_true p340
           replace q340 := eq_true q340
           try go_wp2_with (first | ((with_reducible refine gate_dst (N := 7) rfl ?_); refine box_event ?hg (N := 7) ?hd (cs := #[.int .i64 0, .int .i64 0, .int .i64 0]) (t := 55) ?hr ?_; (case hd => rfl); (case hg => rfl); (case hr => first | (go_simp; done) | (go_simp; rfl)); intro gb341 hg w23 hbox hb; have n0_ := Aside0.mk (Kd.R_below (by (with_reducible repeat (first | apply Kd.R_alloc | apply Kd.R_drewN | apply Kd.R_drew)); exact HO_340000.out) hb); have n1_ := Aside0.mk (Kd.R_below (Kd.R_elderB (by (with_reducible repeat (first | apply Kd.R_alloc | apply Kd.R_drewN | apply Kd.R_drew)); exact HO_340001.out) gb341 (Nat.le_of_eq hg.symm)) hb); have n2_ := Aside0.mk (blk_below (g := gb334) (o := .cells #[.slice A0_0 l0_0.length c0_0, .slice (some ad340) l0_1.length c0_1] 36 (0, 0)) (by (with_reducible repeat (first | refine blk_drewN ?_ _ | refine blk_drew ?_ | refine blk_alloc ?_ _)); exact BK334.out) hb); have n3_ := Aside0.mk (blk_below (g := gb335) (o := .cells #[.slice none 0 0, .slice none 0 0] 36 (0, 0)) (by (with_reducible repeat (first | refine blk_drewN ?_ _ | refine blk_drew ?_ | refine blk_alloc ?_ _)); exact BK335.out) hb); have n4_ := Aside0.mk (blk_below (g := gb339) (o := .cells #[.slice Ao9 t336.length co9, u340001] 36 (0, 0)) (by (with_reducible repeat (first | refine blk_drewN ?_ _ | refine blk_drew ?_ | refine blk_alloc ?_ _)); exact BK339.out) hb); have n5_ := Aside0.mk (below_step (by repeat (first | (with_reducible first | exact HB.out | apply below_alloc | apply pw_below_drewN | apply below_drew1 | refine below_set ?_ GE334.out | refine below_set ?_ GE335.out | refine below_set ?_ GE339.out) | exact HB.out)) hb); have n6_ := Aside0.mk (hbox); have n7_ := Aside0.mk ((by rw [hg]; exact (below_size (by repeat (first | (with_reducible first | exact HB.out | apply below_alloc | apply pw_below_drewN | apply below_drew1 | refine below_set ?_ GE334.out | refine below_set ?_ GE335.out | refine below_set ?_ GE339.out) | exact HB.out))) : w.heap.size ≤ gb341)); have n8_ := Aside0.mk ((by rw [hg]; exact (below_size (by repeat (first | (with_reducible first | exact HB.out | apply below_alloc | apply pw_below_drewN | apply below_drew1 | refine below_set ?_ GE334.out | refine below_set ?_ GE335.out | refine below_set ?_ GE339.out) | exact HB.out))) : w.heap.size ≤ gb341)); have n9_ := Aside0.mk ((by rw [hg]; exact Nat.ne_of_lt (blk_lt (g := gb334) (o := .cells #[.slice A0_0 l0_0.length c0_0, .slice (some ad340) l0_1.length c0_1] 36 (0, 0)) (by (with_reducible repeat (first | refine blk_drewN ?_ _ | refine blk_drew ?_ | refine blk_alloc ?_ _)); exact BK334.out)) : gb334 ≠ gb341)); have n10_ := Aside0.mk ((by rw [hg]; exact Nat.ne_of_gt (blk_lt (g := gb334) (o := .cells #[.slice A0_0 l0_0.length c0_0, .slice (some ad340) l0_1.length c0_1] 36 (0, 0)) (by (with_reducible repeat (first | refine blk_drewN ?_ _ | refine blk_drew ?_ | refine blk_alloc ?_ _)); exact BK334.out)) : gb341 ≠ gb334)); have n11_ := Aside0.mk ((by rw [hg]; exact Nat.ne_of_lt (blk_lt (g := gb335) (o := .cells #[.slice none 0 0, .slice none 0 0] 36 (0, 0)) (by (with_reducible repeat (first | refine blk_drewN ?_ _ | refine blk_drew ?_ | refine blk_alloc ?_ _)); exact BK335.out)) : gb335 ≠ gb341)); have n12_ := Aside0.mk ((by rw [hg]; exact Nat.ne_of_gt (blk_lt (g := gb335) (o := .cells #[.slice none 0 0, .slice none 0 0] 36 (0, 0)) (by (with_reducible repeat (first | refine blk_drewN ?_ _ | refine blk_drew ?_ | refine blk_alloc ?_ _)); exact BK335.out)) : gb341 ≠ gb335)); have n13_ := Aside0.mk ((by rw [hg]; exact Nat.ne_of_lt (blk_lt (g := gb339) (o := .cells #[.slice Ao9 t336.length co9, u340001] 36 (0, 0)) (by (with_reducible repeat (first | refine blk_drewN ?_ _ | refine blk_drew ?_ | refine blk_alloc ?_ _)); exact BK339.out)) : gb339 ≠ gb341)); have n14_ := Aside0.mk ((by rw [hg]; exact Nat.ne_of_gt (blk_lt (g := gb339) (o := .cells #[.slice Ao9 t336.length co9, u340001] 36 (0, 0)) (by (with_reducible repeat (first | refine blk_drewN ?_ _ | refine blk_drew ?_ | refine blk_alloc ?_ _)); exact BK339.out)) : gb341 ≠ gb339)); clear HO_340000; clear HO_340001; clear BK334; clear BK335; clear BK339; clear HB; have HO_340000 := n0_; have HO_340001 := n1_; have BK334 := n2_; have BK335 := n3_; have BK339 := n4_; have HB := n5_; have BK341 := n6_; have GW341 := n7_; have GE341 := n8_; have NB334_341 := n9_; have NB341_334 := n10_; have NB335_341 := n11_; have NB341_335 := n12_; have NB339_341 := n13_; have NB341_339 := n14_; clear n0_ n1_ n2_ n3_ n4_ n5_ n6_ n7_ n8_ n9_ n10_ n11_ n12_ n13_ n14_; clear hb hbox hg; have hnb24 := NB341_334.out; have hnc24 := NB334_341.out; have hnb25 := NB341_335.out; have hnc25 := NB335_341.out; have hnb26 := NB341_339.out; have hnc26 := NB339_341.out; have hcz27_0 : w23.cell? ⟨gb341, 0, none⟩ = some (.int .i64 0) := (blk_cell BK341.out 0).trans rfl; have hcz27_1 : w23.cell? ⟨gb341, 1, none⟩ = some (.int .i64 0) := (blk_cell BK341.out 1).trans rfl; have hcz27_2 : w23.cell? ⟨gb341, 2, none⟩ = some (.int .i64 0) := (blk_cell BK341.out 2).trans rfl; have hfz27_0 := blk_frozen BK341.out 0; have hfz27_1 := blk_frozen BK341.out 1; have hfz27_2 := blk_frozen BK341.out 2))
           have n0_ : Aside0 (Kd.R (Kd.int .i64) 2 (((w23.setCell ⟨gb341, 0, none⟩ (.int .i64 ((rd_T55 l0_1 x15_1).f0))).setCell ⟨gb341, 1, none⟩ (.int .i64 ((rd_T55 l0_1 x15_1).f1))).setCell ⟨gb341, 2, none⟩ (.int .i64 ((rd_T55 l0_1 x15_1).f2))) w.heap.size (fun _ => True) (.slice Ao9 t336.length co9) t336) := ⟨by (with_reducible repeat (first | apply Kd.R_alloc | apply Kd.R_drewN | apply Kd.R_drew)); exact Kd.R_mono (Kd.R_far (p := ⟨gb341, 2, none⟩) (Kd.R_far (p := ⟨gb341, 1, none⟩) (Kd.R_far (p := ⟨gb341, 0, none⟩) (Kd.R_types HO_340000.out BK341.out (by decide)) (fun _ hk => hk.2) (.int .i64 ((rd_T55 l0_1 x15_1).f0))) (fun _ hk => hk.2) (.int .i64 ((rd_T55 l0_1 x15_1).f1))) (fun _ hk => hk.2) (.int .i64 ((rd_T55 l0_1 x15_1).f2))) (fun _ hk => trivial)⟩
           have n1_ : Aside0 (Kd.R k55 55 (((w23.setCell ⟨gb341, 0, none⟩ (.int .i64 ((rd_T55 l0_1 x15_1).f0))).setCell ⟨gb341, 1, none⟩ (.int .i64 ((rd_T55 l0_1 x15_1).f1))).setCell ⟨gb341, 2, none⟩ (.int .i64 ((rd_T55 l0_1 x15_1).f2))) w.heap.size (fun k_ => k_ ≠ gb341) u340001 x340001_1) := ⟨by (with_reducible repeat (first | apply Kd.R_alloc | apply Kd.R_drewN | apply Kd.R_drew)); exact Kd.R_mono (Kd.R_far (p := ⟨gb341, 2, none⟩) (Kd.R_far (p := ⟨gb341, 1, none⟩) (Kd.R_far (p := ⟨gb341, 0, none⟩) (Kd.R_mono HO_340001.out (fun k_ hk => (⟨hk, hk.2⟩ : _ ∧ k_ ≠ gb341))) (fun _ hk => hk.2) (.int .i64 ((rd_T55 l0_1 x15_1).f0))) (fun _ hk => hk.2) (.int .i64 ((rd_T55 l0_1 x15_1).f1))) (fun _ hk => hk.2) (.int .i64 ((rd_T55 l0_1 x15_1).f2))) (fun _ hk => hk.1.2)⟩
           have n2_ : Aside0 ((((w23.setCell ⟨gb341, 0, none⟩ (.int .i64 ((rd_T55 l0_1 x15_1).f0))).setCell ⟨gb341, 1, none⟩ (.int .i64 ((rd_T55 l0_1 x15_1).f1))).setCell ⟨gb341, 2, none⟩ (.int .i64 ((rd_T55 l0_1 x15_1).f2))).heap[gb334]? = some (.cells #[.slice A0_0 l0_0.length c0_0, .slice (some ad340) l0_1.length c0_1] 36 (0, 0))) := ⟨by (with_reducible repeat (first | refine blk_drewN ?_ _ | refine blk_drew ?_ | refine blk_alloc ?_ _)); refine blk_far ?_ NB334_341.out _; (with_reducible repeat (first | refine blk_drewN ?_ _ | refine blk_drew ?_ | refine blk_alloc ?_ _)); refine blk_far ?_ NB334_341.out _; (with_reducible repeat (first | refine blk_drewN ?_ _ | refine blk_drew ?_ | refine blk_alloc ?_ _)); refine blk_far ?_ NB334_341.out _; (with_reducible repeat (first | refine blk_drewN ?_ _ | refine blk_drew ?_ | refine blk_alloc ?_ _)); exact BK334.out⟩
           have n3_ : Aside0 ((((w23.setCell ⟨gb341, 0, none⟩ (.int .i64 ((rd_T55 l0_1 x15_1).f0))).setCell ⟨gb341, 1, none⟩ (.int .i64 ((rd_T55 l0_1 x15_1).f1))).setCell ⟨gb341, 2, none⟩ (.int .i64 ((rd_T55 l0_1 x15_1).f2))).heap[gb335]? = some (.cells #[.slice none 0 0, .slice none 0 0] 36 (0, 0))) := ⟨by (with_reducible repeat (first | refine blk_drewN ?_ _ | refine blk_drew ?_ | refine blk_alloc ?_ _)); refine blk_far ?_ NB335_341.out _; (with_reducible repeat (first | refine blk_drewN ?_ _ | refine blk_drew ?_ | refine blk_alloc ?_ _)); refine blk_far ?_ NB335_341.out _; (with_reducible repeat (first | refine blk_drewN ?_ _ | refine blk_drew ?_ | refine blk_alloc ?_ _)); refine blk_far ?_ NB335_341.out _; (with_reducible repeat (first | refine blk_drewN ?_ _ | refine blk_drew ?_ | refine blk_alloc ?_ _)); exact BK335.out⟩
           have n4_ : Aside0 ((((w23.setCell ⟨gb341, 0, none⟩ (.int .i64 ((rd_T55 l0_1 x15_1).f0))).setCell ⟨gb341, 1, none⟩ (.int .i64 ((rd_T55 l0_1 x15_1).f1))).setCell ⟨gb341, 2, none⟩ (.int .i64 ((rd_T55 l0_1 x15_1).f2))).heap[gb339]? = some (.cells #[.slice Ao9 t336.length co9, u340001] 36 (0, 0))) := ⟨by (with_reducible repeat (first | refine blk_drewN ?_ _ | refine blk_drew ?_ | refine blk_alloc ?_ _)); refine blk_far ?_ NB339_341.out _; (with_reducible repeat (first | refine blk_drewN ?_ _ | refine blk_drew ?_ | refine blk_alloc ?_ _)); refine blk_far ?_ NB339_341.out _; (with_reducible repeat (first | refine blk_drewN ?_ _ | refine blk_drew ?_ | refine blk_alloc ?_ _)); refine blk_far ?_ NB339_341.out _; (with_reducible repeat (first | refine blk_drewN ?_ _ | refine blk_drew ?_ | refine blk_alloc ?_ _)); exact BK339.out⟩
           have n5_ : Aside0 ((((w23.setCell ⟨gb341, 0, none⟩ (.int .i64 ((rd_T55 l0_1 x15_1).f0))).setCell ⟨gb341, 1, none⟩ (.int .i64 ((rd_T55 l0_1 x15_1).f1))).setCell ⟨gb341, 2, none⟩ (.int .i64 ((rd_T55 l0_1 x15_1).f2))).heap[gb341]? = some (.cells #[.int .i64 ((rd_T55 l0_1 x15_1).f0), .int .i64 ((rd_T55 l0_1 x15_1).f1), .int .i64 ((rd_T55 l0_1 x15_1).f2)] 55 (0, 0))) := ⟨by (with_reducible repeat (first | refine blk_drewN ?_ _ | refine blk_drew ?_ | refine blk_alloc ?_ _)); refine blk_put (cs := #[.int .i64 ((rd_T55 l0_1 x15_1).f0), .int .i64 ((rd_T55 l0_1 x15_1).f1), .int .i64 0]) ?_ 2 _ rfl; (with_reducible repeat (first | refine blk_drewN ?_ _ | refine blk_drew ?_ | refine blk_alloc ?_ _)); refine blk_put (cs := #[.int .i64 ((rd_T55 l0_1 x15_1).f0), .int .i64 0, .int .i64 0]) ?_ 1 _ rfl; (with_reducible repeat (first | refine blk_drewN ?_ _ | refine blk_drew ?_ | refine blk_alloc ?_ _)); refine blk_put (cs := #[.int .i64 0, .int .i64 0, .int .i64 0]) ?_ 0 _ rfl; (with_reducible repeat (first | refine blk_drewN ?_ _ | refine blk_drew ?_ | refine blk_alloc ?_ _)); exact BK341.out⟩
           have n6_ : Aside0 (Below w.heap.size w (((w23.setCell ⟨gb341, 0, none⟩ (.int .i64 ((rd_T55 l0_1 x15_1).f0))).setCell ⟨gb341, 1, none⟩ (.int .i64 ((rd_T55 l0_1 x15_1).f1))).setCell ⟨gb341, 2, none⟩ (.int .i64 ((rd_T55 l0_1 x15_1).f2)))) := ⟨by repeat (first | (with_reducible first | exact HB.out | apply below_alloc | apply pw_below_drewN | apply below_drew1 | refine below_set ?_ GE334.out | refine below_set ?_ GE335.out | refine below_set ?_ GE339.out | refine below_set ?_ GE341.out) | exact HB.out)⟩
           (try clear HO_340000)
           (try clear HO_340001)
           (try clear BK334)
           (try clear BK335)
           (try clear BK339)
           (try clear BK341)
           (try clear HB)
           generalize (((w23.setCell ⟨gb341, 0, none⟩ (.int .i64 ((rd_T55 l0_1 x15_1).f0))).setCell ⟨gb341, 1, none⟩ (.int .i64 ((rd_T55 l0_1 x15_1).f1))).setCell ⟨gb341, 2, none⟩ (.int .i64 ((rd_T55 l0_1 x15_1).f2))) = w28 at n0_ n1_ n2_ n3_ n4_ n5_ n6_ ⊢
           have HO_340000 := n0_
           have HO_340001 := n1_
           have BK334 := n2_
           have BK335 := n3_
           have BK339 := n4_
           have BK341 := n5_
           have HB := n6_
           clear n0_ n1_ n2_ n3_ n4_ n5_ n6_
           have n0_ := Aside0.mk (Kd.R_drew HO_340000.out)
           have n1_ := Aside0.mk (Kd.R_drew HO_340001.out)
           have n2_ := Aside0.mk (blk_drew BK334.out)
           have n3_ := Aside0.mk (blk_drew BK335.out)
           have n4_ := Aside0.mk (blk_drew BK339.out)
           have n5_ := Aside0.mk (blk_drew BK341.out)
           have n6_ := Aside0.mk (below_drew1 HB.out)
           clear HO_340000
           clear HO_340001
           clear BK334
           clear BK335
           clear BK339
           clear BK341
           clear HB
           have HO_340000 := n0_
           have HO_340001 := n1_
           have BK334 := n2_
           have BK335 := n3_
           have BK339 := n4_
           have BK341 := n5_
           have HB := n6_
           clear n0_ n1_ n2_ n3_ n4_ n5_ n6_
           have p342 : 0 ≤ (((rd_T55 l0_1 x15_1).f1) : Int) := of_decide_eq_true (by first | (with_reducible assumption) | assumption)
           have q342 : ((rd_T55 l0_1 x15_1).f1) < (l1.length : Int) := of_decide_eq_true (by first | (with_reducible assumption) | assumption)
           obtain ⟨ad342, e342, hx342_0⟩ := Kd.at_int HR1.out ((rd_T55 l0_1 x15_1).f1) p342 q342
           have hw342_0 := hx342_0
           cases e342
           replace hx342_0 := (HB.out.cell (World.block_lt_of_cell? w _ hx342_0)).trans hx342_0
           replace p342 := eq_true p342
           replace q342 := eq_true q342
           have p343 : 0 ≤ (((rd_T55 l0_1 x15_1).f0) : Int) := of_decide_eq_true (by first | (with_reducible assumption) | assumption)
           have q343 : ((rd_T55 l0_1 x15_1).f0) < (l1.length : Int) := of_decide_eq_true (by first | (with_reducible assumption) | assumption)
           obtain ⟨ad343, e343, hx343_0⟩ := Kd.at_int HR1.out ((rd_T55 l0_1 x15_1).f0) p343 q343
           have hw343_0 := hx343_0
           obtain rfl : ad342 = ad343 := (by injection e343)
           replace hx343_0 := (HB.out.cell (World.block_lt_of_cell? w _ hx343_0)).trans hx343_0
           replace p343 := eq_true p343
           replace q343 := eq_true q343
           refine start_ (n := 25) (S := fun w' => w'.cell? ⟨gb339, 0, none⟩ = some (.slice Ao9 t336.length co9) ∧ w'.cell? ⟨gb339, 1, none⟩ = some (u340001) ∧ w'.cell? ⟨gb341, 0, none⟩ = some (.int .i64 ((rd_T55 l0_1 x15_1).f0)) ∧ w'.cell? ⟨gb341, 1, none⟩ = some (.int .i64 ((rd_T55 l0_1 x15_1).f1)) ∧ w'.cell? ⟨gb341, 2, none⟩ = some (.int .i64 ((rd_T55 l0_1 x15_1).f2)) ∧ w'.cell? (ad342.add (((rd_T55 l0_1 x15_1).f1)).toNat) = some (.int .i64 (rd l1 ((rd_T55 l0_1 x15_1).f1))) ∧ w'.cell? (ad342.add (((rd_T55 l0_1 x15_1).f0)).toNat) = some (.int .i64 (rd l1 ((rd_T55 l0_1 x15_1).f0)))) (ds := [24]) #[false, false, false, false, false, false, false, false, false, false, false, false, false, false, false, false, false, false, false, false, false, false, false, false, false] (by kernel_rfl) rfl rfl ⟨(blk_cell BK339.out 0).trans rfl, (blk_cell BK339.out 1).trans rfl, (blk_cell BK341.out 0).trans rfl, (blk_cell BK341.out 1).trans rfl, (blk_cell BK341.out 2).trans rfl, ((HB.out.cell (World.block_lt_of_cell? w _ hw342_0)).trans hw342_0), ((HB.out.cell (World.block_lt_of_cell? w _ hw343_0)).trans hw343_0)⟩ (fun hHeld => ?_); refine with_tabW impl_Flow_moved.tab5 impl_Flow_moved.bits5 (fun HT_ HW_ => ?_)
           generalize w28.drew = w29 at HO_340000 HO_340001 BK334 BK335 BK339 BK341 HB hx342_0 hx343_0 hHeld ⊢
           refine pure_ (i := 0) (N := some 19) (v := ?_) (a' := ?_) #[true, false, false, false, false, false, false, false, false, false, false, false, false, false, false, false, false, false, false, false, false, false, false, false, false] rfl rfl (any_of HT_.out (by kernel_rfl)) (fun _ _ _ h => h) (Or.inl ⟨by rfl, ?_⟩) ?_ ?_
           rotate_left
           ·intro w'
            go_simp
            with_reducible rfl
           rotate_left
           ·simp only [Act.put, List.setIfInBounds_toArray, List.set_cons_zero, List.set_cons_succ, i64_w, i32_w]
            rfl
           refine pure_ (i := 2) (N := some 21) (v := ?_) (a' := ?_) #[true, false, true, false, false, false, false, false, false, false, false, false, false, false, false, false, false, false, false, false, false, false, false, false, false] rfl rfl (any_of HT_.out (by kernel_rfl)) (fun _ _ _ h => h) (Or.inl ⟨by rfl, ?_⟩) ?_ ?_
           rotate_left
           ·intro w'
            go_simp
            with_reducible rfl
           rotate_left
           ·simp only [Act.put, List.setIfInBounds_toArray, List.set_cons_zero, List.set_cons_succ, i64_w, i32_w]
            rfl
           refine pure_ (i := 4) (N := some 23) (v := ?_) (a' := ?_) #[true, false, true, false, true, false, false, false, false, false, false, false, false, false, false, false, false, false, false, false, false, false, false, false, false] rfl rfl (any_of HT_.out (by kernel_rfl)) (fun _ _ _ h => h) (Or.inl ⟨by rfl, ?_⟩) ?_ ?_
           rotate_left
           ·intro w'
            go_simp
            with_reducible rfl
           rotate_left
           ·simp only [Act.put, List.setIfInBounds_toArray, List.set_cons_zero, List.set_cons_succ, i64_w, i32_w]
            rfl
           refine pure_ (i := 6) (N := some 25) (v := ?_) (a' := ?_) #[true, false, true, false, true, false, true, false, false, false, false, false, false, false, false, false, false, false, false, false, false, false, false, false, false] rfl rfl (any_of HT_.out (by kernel_rfl)) (fun _ _ _ h => h) (Or.inl ⟨by rfl, ?_⟩) ?_ ?_
           rotate_left
           ·intro w'
            go_simp
            with_reducible rfl
           rotate_left
           ·simp only [Act.put, List.setIfInBounds_toArray, List.set_cons_zero, List.set_cons_succ, i64_w, i32_w]
            rfl
           refine pure_ (i := 8) (N := some 27) (v := ?_) (a' := ?_) #[true, false, true, false, true, false, true, false, true, false, false, false, false, false, false, false, false, false, false, false, false, false, false, false, false] rfl rfl (any_of HT_.out (by kernel_rfl)) (fun _ _ _ h => h) (Or.inl ⟨by rfl, ?_⟩) ?_ ?_
           rotate_left
           ·intro w'
            go_simp
            with_reducible rfl
           rotate_left
           ·simp only [Act.put, List.setIfInBounds_toArray, List.set_cons_zero, List.set_cons_succ, i64_w, i32_w]
            rfl
           refine pure_ (i := 9) (N := some 28) (v := ?_) (a' := ?_) #[true, false, true, false, true, false, true, false, true, true, false, false, false, false, false, false, false, false, false, false, false, false, false, false, false] rfl rfl (any_of HT_.out (by kernel_rfl)) (fun _ _ _ h => h) (Or.inl ⟨by rfl, ?_⟩) ?_ ?_
           rotate_left
           ·intro w'
            go_simp
            with_reducible rfl
           rotate_left
           ·simp only [Act.put, List.setIfInBounds_toArray, List.set_cons_zero, List.set_cons_succ, i64_w, i32_w]
            rfl
           refine pure_ (i := 14) (N := some 33) (v := ?_) (a' := ?_) #[true, false, true, false, true, false, true, false, true, true, false, false, false, false, true, false, false, false, false, false, false, false, false, false, false] rfl rfl (any_of HT_.out (by kernel_rfl)) (fun _ _ _ h => h) (Or.inl ⟨by rfl, ?_⟩) ?_ ?_
           rotate_left
           ·intro w'
            go_simp
            with_reducible rfl
           rotate_left
           ·simp only [Act.put, List.setIfInBounds_toArray, List.set_cons_zero, List.set_cons_succ, i64_w, i32_w]
            rfl
           refine pure_ (i := 15) (N := some 34) (v := ?_) (a' := ?_) #[true, false, true, false, true, false, true, false, true, true, false, false, false, false, true, true, false, false, false, false, false, false, false, false, false] rfl rfl (any_of HT_.out (by kernel_rfl)) (fun _ _ _ h => h) (Or.inl ⟨by rfl, ?_⟩) ?_ ?_
           rotate_left
           ·intro w'
            go_simp
            with_reducible rfl
           rotate_left
           ·simp only [Act.put, List.setIfInBounds_toArray, List.set_cons_zero, List.set_cons_succ, i64_w, i32_w]
            rfl
           refine take_ (i := 1) (N := some 20) (v := ?_) (a' := ?_) #[true, true, true, false, true, false, true, false, true, true, false, false, false, false, true, true, false, false, false, false, false, false, false, false, false] rfl rfl (take_ofW HT_.out HW_.out (by kernel_rfl)) (fun _ _ _ h => h) (Or.inl ⟨by rfl, ?_⟩) hHeld ?_ ?_
           rotate_left
           ·rintro w' ⟨s0, s1, s2, s3, s4, s5, s6⟩
            go_simp
            with_reducible rfl
           rotate_left
           ·simp only [Act.put, List.setIfInBounds_toArray, List.set_cons_zero, List.set_cons_succ, i64_w, i32_w]
            rfl
           refine take_ (i := 3) (N := some 22) (v := ?_) (a' := ?_) #[true, true, true, true, true, false, true, false, true, true, false, false, false, false, true, true, false, false, false, false, false, false, false, false, false] rfl rfl (take_ofW HT_.out HW_.out (by kernel_rfl)) (fun _ _ _ h => h) (Or.inl ⟨by rfl, ?_⟩) hHeld ?_ ?_
           rotate_left
           ·rintro w' ⟨s0, s1, s2, s3, s4, s5, s6⟩
            go_simp
            with_reducible rfl
           rotate_left
           ·simp only [Act.put, List.setIfInBounds_toArray, List.set_cons_zero, List.set_cons_succ, i64_w, i32_w]
            rfl
           refine take_ (i := 5) (N := some 24) (v := ?_) (a' := ?_) #[true, true, true, true, true, true, true, false, true, true, false, false, false, false, true, true, false, false, false, false, false, false, false, false, false] rfl rfl (take_ofW HT_.out HW_.out (by kernel_rfl)) (fun _ _ _ h => h) (Or.inl ⟨by rfl, ?_⟩) hHeld ?_ ?_
           rotate_left
           ·rintro w' ⟨s0, s1, s2, s3, s4, s5, s6⟩
            go_simp
            with_reducible rfl
           rotate_left
           ·simp only [Act.put, List.setIfInBounds_toArray, List.set_cons_zero, List.set_cons_succ, i64_w, i32_w]
            rfl
           refine take_ (i := 7) (N := some 26) (v := ?_) (a' := ?_) #[true, true, true, true, true, true, true, true, true, true, false, false, false, false, true, true, false, false, false, false, false, false, false, false, false] rfl rfl (take_ofW HT_.out HW_.out (by kernel_rfl)) (fun _ _ _ h => h) (Or.inl ⟨by rfl, ?_⟩) hHeld ?_ ?_
           rotate_left
           ·rintro w' ⟨s0, s1, s2, s3, s4, s5, s6⟩
            go_simp
            with_reducible rfl
           rotate_left
           ·simp only [Act.put, List.setIfInBounds_toArray, List.set_cons_zero, List.set_cons_succ, i64_w, i32_w]
            rfl
           refine take_ (i := 10) (N := some 29) (v := ?_) (a' := ?_) #[true, true, true, true, true, true, true, true, true, true, true, false, false, false, true, true, false, false, false, false, false, false, false, false, false] rfl rfl (take_ofW HT_.out HW_.out (by kernel_rfl)) (fun _ _ _ h => h) (Or.inl ⟨by rfl, ?_⟩) hHeld ?_ ?_
           rotate_left
           ·rintro w' ⟨s0, s1, s2, s3, s4, s5, s6⟩
            go_simp
            with_reducible rfl
           rotate_left
           ·simp only [Act.put, List.setIfInBounds_toArray, List.set_cons_zero, List.set_cons_succ, i64_w, i32_w]
            rfl
           refine pure_ (i := 11) (N := some 30) (v := ?_) (a' := ?_) #[true, true, true, true, true, true, true, true, true, true, true, true, false, false, true, true, false, false, false, false, false, false, false, false, false] rfl rfl (any_of HT_.out (by kernel_rfl)) (fun _ _ _ h => h) (Or.inl ⟨by rfl, ?_⟩) ?_ ?_
           rotate_left
           ·intro w'
            go_simp
            with_reducible rfl
           rotate_left
           ·simp only [Act.put, List.setIfInBounds_toArray, List.set_cons_zero, List.set_cons_succ, i64_w, i32_w]
            rfl
           refine take_ (i := 12) (N := some 31) (v := ?_) (a' := ?_) #[true, true, true, true, true, true, true, true, true, true, true, true, true, false, true, true, false, false, false, false, false, false, false, false, false] rfl rfl (take_ofW HT_.out HW_.out (by kernel_rfl)) (fun _ _ _ h => h) (Or.inl ⟨by rfl, ?_⟩) hHeld ?_ ?_
           rotate_left
           ·rintro w' ⟨s0, s1, s2, s3, s4, s5, s6⟩
            go_simp
            with_reducible rfl
           rotate_left
           ·simp only [Act.put, List.setIfInBounds_toArray, List.set_cons_zero, List.set_cons_succ, i64_w, i32_w]
            rfl
           refine pure_ (i := 13) (N := some 32) (v := ?_) (a' := ?_) #[true, true, true, true, true, true, true, true, true, true, true, true, true, true, true, true, false, false, false, false, false, false, false, false, false] rfl rfl (any_of HT_.out (by kernel_rfl)) (fun _ _ _ h => h) (Or.inl ⟨by rfl, ?_⟩) ?_ ?_
           rotate_left
           ·intro w'
            go_simp
            with_reducible rfl
           rotate_left
           ·simp only [Act.put, List.setIfInBounds_toArray, List.set_cons_zero, List.set_cons_succ, i64_w, i32_w]
            rfl
           refine take_ (i := 16) (N := some 35) (v := ?_) (a' := ?_) #[true, true, true, true, true, true, true, true, true, true, true, true, true, true, true, true, true, false, false, false, false, false, false, false, false] rfl rfl (take_ofW HT_.out HW_.out (by kernel_rfl)) (fun _ _ _ h => h) (Or.inl ⟨by rfl, ?_⟩) hHeld ?_ ?_
           rotate_left
           ·rintro w' ⟨s0, s1, s2, s3, s4, s5, s6⟩
            go_simp
            with_reducible rfl
           rotate_left
           ·simp only [Act.put, List.setIfInBounds_toArray, List.set_cons_zero, List.set_cons_succ, i64_w, i32_w]
            rfl
           refine pure_ (i := 17) (N := some 36) (v := ?_) (a' := ?_) #[true, true, true, true, true, true, true, true, true, true, true, true, true, true, true, true, true, true, false, false, false, false, false, false, false] rfl rfl (any_of HT_.out (by kernel_rfl)) (fun _ _ _ h => h) (Or.inl ⟨by rfl, ?_⟩) ?_ ?_
           rotate_left
           ·intro w'
            go_simp
            with_reducible rfl
           rotate_left
           ·simp only [Act.put, List.setIfInBounds_toArray, List.set_cons_zero, List.set_cons_succ, i64_w, i32_w]
            rfl
           refine take_ (i := 18) (N := some 37) (v := ?_) (a' := ?_) #[true, true, true, true, true, true, true, true, true, true, true, true, true, true, true, true, true, true, true, false, false, false, false, false, false] rfl rfl (take_ofW HT_.out HW_.out (by kernel_rfl)) (fun _ _ _ h => h) (Or.inl ⟨by rfl, ?_⟩) hHeld ?_ ?_
           rotate_left
           ·rintro w' ⟨s0, s1, s2, s3, s4, s5, s6⟩
            go_simp
            with_reducible rfl
           rotate_left
           ·simp only [Act.put, List.setIfInBounds_toArray, List.set_cons_zero, List.set_cons_succ, i64_w, i32_w]
            rfl
           refine pure_ (i := 19) (N := some 38) (v := ?_) (a' := ?_) #[true, true, true, true, true, true, true, true, true, true, true, true, true, true, true, true, true, true, true, true, false, false, false, false, false] rfl rfl (any_of HT_.out (by kernel_rfl)) (fun _ _ _ h => h) (Or.inl ⟨by rfl, ?_⟩) ?_ ?_
           rotate_left
           ·intro w'
            go_simp
            with_reducible rfl
           rotate_left
           ·simp only [Act.put, List.setIfInBounds_toArray, List.set_cons_zero, List.set_cons_succ, i64_w, i32_w]
            rfl
           refine pure_ (i := 20) (N := some 39) (v := ?_) (a' := ?_) #[true, true, true, true, true, true, true, true, true, true, true, true, true, true, true, true, true, true, true, true, true, false, false, false, false] rfl rfl (any_of HT_.out (by kernel_rfl)) (fun _ _ _ h => h) (Or.inl ⟨by rfl, ?_⟩) ?_ ?_
           rotate_left
           ·intro w'
            go_simp
            with_reducible rfl
           rotate_left
           ·simp only [Act.put, List.setIfInBounds_toArray, List.set_cons_zero, List.set_cons_succ, i64_w, i32_w]
            rfl
           refine one_ (i := 21) (N := some 40) #[true, true, true, true, true, true, true, true, true, true, true, true, true, true, true, true, true, true, true, true, true, true, false, false, false] rfl rfl (one_of HT_.out (by kernel_rfl)) (by decide) (fun K hK => ?_)
           refine value_ (w1 := ?_) (v := ?_) (by rfl) rfl ?_ ?_
           rotate_left 2
           ·go_simp
            constructor
            ·rfl
            ·rfl
           refine hK.out _ _ ⟨(blk_cell (blk_alloc BK339.out _) 0).trans rfl, (blk_cell (blk_alloc BK339.out _) 1).trans rfl, (blk_cell (blk_alloc BK341.out _) 0).trans rfl, (blk_cell (blk_alloc BK341.out _) 1).trans rfl, (blk_cell (blk_alloc BK341.out _) 2).trans rfl, (World.cell?_alloc_lt _ _ _ (World.block_lt_of_cell? _ _ (((HB.out.cell (World.block_lt_of_cell? w _ hw342_0)).trans hw342_0)))).trans (((HB.out.cell (World.block_lt_of_cell? w _ hw342_0)).trans hw342_0)), (World.cell?_alloc_lt _ _ _ (World.block_lt_of_cell? _ _ (((HB.out.cell (World.block_lt_of_cell? w _ hw343_0)).trans hw343_0)))).trans (((HB.out.cell (World.block_lt_of_cell? w _ hw343_0)).trans hw343_0))⟩ (fun hHeld => ?_)
           clear hK K
           refine norm_ (a' := ?_) ?_ ?_
           rotate_left
           ·show Act.put _ (some 40) _ = _
            simp only [Act.put, List.setIfInBounds_toArray, List.set_cons_zero, List.set_cons_succ, i64_w, i32_w]
            rfl
           refine one_ (i := 22) (N := some 41) #[true, true, true, true, true, true, true, true, true, true, true, true, true, true, true, true, true, true, true, true, true, true, true, false, false] rfl rfl (one_of HT_.out (by kernel_rfl)) (by decide) (fun K hK => ?_)
           refine Kd.R_append_step k55 (w0 := w) w.heap.size (by rfl) (.tmp 20) (.tmp 40) 34 55 (.agg #[(.int .i64 0), (.int .i64 0), (.int .i64 0)]) 24 rfl Try.underlying34 info55 rfl (by decide) (by omega) u340001 x340001_1 (⟨(rd_T55 l0_1 x15_1).f0, (rd_T55 l0_1 x15_1).f1, wrap64 ((wrap64 (((rd_T55 l0_1 x15_1).f2) + (rd l1 ((rd_T55 l0_1 x15_1).f1)))) - (rd l1 ((rd_T55 l0_1 x15_1).f0)))⟩ : S55) [.int .i64 ((rd_T55 l0_1 x15_1).f0), .int .i64 ((rd_T55 l0_1 x15_1).f1), .int .i64 (wrap64 ((wrap64 (((rd_T55 l0_1 x15_1).f2) + (rd l1 ((rd_T55 l0_1 x15_1).f1)))) - (rd l1 ((rd_T55 l0_1 x15_1).f0))))] (fun k_ => k_ ≠ gb341) (fun _ => False) rfl rfl ?aP (fun _ hk => hk.elim) ?aF ?aO ?aB ?aS ?aL ?_
           (case aP => exact k55_mkM _ _ _ (⟨(rd_T55 l0_1 x15_1).f0, (rd_T55 l0_1 x15_1).f1, wrap64 ((wrap64 (((rd_T55 l0_1 x15_1).f2) + (rd l1 ((rd_T55 l0_1 x15_1).f1)))) - (rd l1 ((rd_T55 l0_1 x15_1).f0)))⟩ : S55))
           (case aB => exact (by repeat (first | (with_reducible first | exact HB.out | apply below_alloc | apply pw_below_drewN | apply below_drew1 | refine below_set ?_ GE334.out | refine below_set ?_ GE335.out | refine below_set ?_ GE339.out | refine below_set ?_ GE341.out) | exact HB.out)))
           (case aF => exact (fun k_ hk => Kd.freshB (g := gb341) (o := .cells #[.int .i64 ((rd_T55 l0_1 x15_1).f0), .int .i64 ((rd_T55 l0_1 x15_1).f1), .int .i64 ((rd_T55 l0_1 x15_1).f2)] 55 (0, 0)) (by (with_reducible repeat (first | refine blk_drewN ?_ _ | refine blk_drew ?_ | refine blk_alloc ?_ _)); exact BK341.out) k_ hk))
           (case aO => exact (by (with_reducible repeat (first | apply Kd.R_alloc | apply Kd.R_drewN | apply Kd.R_drew)); exact HO_340001.out))
           (case aS => exact (below_size (by repeat (first | (with_reducible first | exact HB.out | apply below_alloc | apply pw_below_drewN | apply below_drew1 | refine below_set ?_ GE334.out | refine below_set ?_ GE335.out | refine below_set ?_ GE339.out | refine below_set ?_ GE341.out) | exact HB.out))))
           (case aL => have := LMc22.out; omega)
           intro v345 w30 ho hb hg hat
           rw [← Ny344.out] at ho
           have n0_ := Aside0.mk (Kd.R_over' (by (with_reducible repeat (first | apply Kd.R_alloc | apply Kd.R_drewN | apply Kd.R_drew)); exact HO_340000.out) (Kd.R_typed (by (with_reducible repeat (first | apply Kd.R_alloc | apply Kd.R_drewN | apply Kd.R_drew)); exact HO_340001.out)) (by decide) hg)
           have n1_ := Aside0.mk (blk_grown (g := gb334) (o := .cells #[.slice A0_0 l0_0.length c0_0, .slice (some ad340) l0_1.length c0_1] 36 (0, 0)) (by (with_reducible repeat (first | refine blk_drewN ?_ _ | refine blk_drew ?_ | refine blk_alloc ?_ _)); exact BK334.out) hg (Kd.R_ne HO_340001.out BK334.out (by decide)))
           have n2_ := Aside0.mk (blk_grown (g := gb335) (o := .cells #[.slice none 0 0, .slice none 0 0] 36 (0, 0)) (by (with_reducible repeat (first | refine blk_drewN ?_ _ | refine blk_drew ?_ | refine blk_alloc ?_ _)); exact BK335.out) hg (Kd.R_ne HO_340001.out BK335.out (by decide)))
           have n3_ := Aside0.mk (blk_grown (g := gb339) (o := .cells #[.slice Ao9 t336.length co9, u340001] 36 (0, 0)) (by (with_reducible repeat (first | refine blk_drewN ?_ _ | refine blk_drew ?_ | refine blk_alloc ?_ _)); exact BK339.out) hg (Kd.R_ne HO_340001.out BK339.out (by decide)))
           have n4_ := Aside0.mk (blk_grown (g := gb341) (o := .cells #[.int .i64 ((rd_T55 l0_1 x15_1).f0), .int .i64 ((rd_T55 l0_1 x15_1).f1), .int .i64 ((rd_T55 l0_1 x15_1).f2)] 55 (0, 0)) (by (with_reducible repeat (first | refine blk_drewN ?_ _ | refine blk_drew ?_ | refine blk_alloc ?_ _)); exact BK341.out) hg (Kd.R_away HO_340001.out (fun _ hk => hk)))
           have n5_ := Aside0.mk (hb)
           have n6_ := Aside0.mk (ho)
           clear HO_340000
           clear BK334
           clear BK335
           clear BK339
           clear BK341
           clear HB
           clear HO_340001
           have HO_340000 := n0_
           have BK334 := n1_
           have BK335 := n2_
           have BK339 := n3_
           have BK341 := n4_
           have HB := n5_
           have HO346 := n6_
           clear n0_ n1_ n2_ n3_ n4_ n5_ n6_
           clear ho hb hg hat
           obtain ⟨Ao31, co31, eo31⟩ := Kd.R_slice HO346.out
           (first | subst eo31 | (injection eo31 with f1_ f2_ f3_; have f4_ := f1_.symm; have f5_ := f3_.symm; clear f1_ f2_ f3_; subst f4_; subst f5_))
           refine hK.out _ _ ⟨(blk_cell BK339.out 0).trans rfl, (blk_cell BK339.out 1).trans rfl, (blk_cell BK341.out 0).trans rfl, (blk_cell BK341.out 1).trans rfl, (blk_cell BK341.out 2).trans rfl, ((HB.out.cell (World.block_lt_of_cell? w _ hw342_0)).trans hw342_0), ((HB.out.cell (World.block_lt_of_cell? w _ hw343_0)).trans hw343_0)⟩ (fun hHeld => ?_)
           clear hK K
           refine norm_ (a' := ?_) ?_ ?_
           rotate_left
           ·show Act.put _ (some 41) _ = _
            simp only [Act.put, List.setIfInBounds_toArray, List.set_cons_zero, List.set_cons_succ, i64_w, i32_w]
            rfl
           refine pure_ (i := 23) (N := some 42) (v := ?_) (a' := ?_) #[true, true, true, true, true, true, true, true, true, true, true, true, true, true, true, true, true, true, true, true, true, true, true, true, false] rfl rfl (any_of HT_.out (by kernel_rfl)) (fun _ _ _ h => h) (Or.inl ⟨by rfl, ?_⟩) ?_ ?_
           rotate_left
           ·intro w'
            go_simp
            with_reducible rfl
           rotate_left
           ·simp only [Act.put, List.setIfInBounds_toArray, List.set_cons_zero, List.set_cons_succ, i64_w, i32_w]
            rfl
           refine last_ (i := 24) (N := none) #[true, true, true, true, true, true, true, true, true, true, true, true, true, true, true, true, true, true, true, true, true, true, true, true, true] rfl rfl (one_of HT_.out (by kernel_rfl)) (by decide) (fun K hK => ?_)
           have hs32 : w30.cell? ⟨gb339, 1, none⟩ = some (u340001) := (blk_cell BK339.out 1).trans rfl
           have hfs32 := blk_frozen BK339.out 1
           have hns32_0 := NB334_339.out
           have hns32_1 := NB335_339.out
           have hns32_3 := NB341_339.out
           have hms32_0 := NB339_334.out
           have hms32_1 := NB339_335.out
           have hms32_3 := NB339_341.out
           refine skip_ (w1 := ?_) (by rfl) rfl ?_ ?_
           rotate_left
           ·go_simp
            rfl
           refine hK.out _ _ ?_
           clear hK K
           refine done_ (done_of HT_.out (by kernel_rfl)) ?_
           try go_wp2
           go_roundg k1
           case measure => have := HK1.out; omega
           case rel => exact ⟨(wrap64 (x15_1 + 1)), (y344), (.slice Ao31 y344.length co31), (by first | rfl | (simp; done) | (simp [*]; done)), H', ⟨by have := HK1.out; omega⟩, ⟨by (with_reducible repeat (first | apply Kd.R_alloc | apply Kd.R_drewN | apply Kd.R_drew)); exact Kd.R_mono (Kd.R_far (p := ⟨gb339, 1, none⟩) (Kd.R_types HO_340000.out BK339.out (by decide)) (fun _ hk => hk.2) (.slice Ao31 y344.length co31)) (fun _ hk => trivial)⟩, ⟨by (with_reducible repeat (first | apply Kd.R_alloc | apply Kd.R_drewN | apply Kd.R_drew)); exact Kd.R_mono (Kd.R_far (p := ⟨gb339, 1, none⟩) (Kd.R_types HO346.out BK339.out (by decide)) (fun _ hk => hk.2) (.slice Ao31 y344.length co31)) (fun _ hk => trivial)⟩, ⟨by (with_reducible repeat (first | refine blk_drewN ?_ _ | refine blk_drew ?_ | refine blk_alloc ?_ _)); refine blk_far ?_ NB334_339.out _; (with_reducible repeat (first | refine blk_drewN ?_ _ | refine blk_drew ?_ | refine blk_alloc ?_ _)); exact BK334.out⟩, ⟨by (with_reducible repeat (first | refine blk_drewN ?_ _ | refine blk_drew ?_ | refine blk_alloc ?_ _)); refine blk_far ?_ NB335_339.out _; (with_reducible repeat (first | refine blk_drewN ?_ _ | refine blk_drew ?_ | refine blk_alloc ?_ _)); exact BK335.out⟩, ⟨by (with_reducible repeat (first | refine blk_drewN ?_ _ | refine blk_drew ?_ | refine blk_alloc ?_ _)); refine blk_put (cs := #[.slice Ao9 t336.length co9, u340001]) ?_ 1 _ rfl; (with_reducible repeat (first | refine blk_drewN ?_ _ | refine blk_drew ?_ | refine blk_alloc ?_ _)); exact BK339.out⟩, ⟨by repeat (first | (with_reducible first | exact HB.out | apply below_alloc | apply pw_below_drewN | apply below_drew1 | refine below_set ?_ GE334.out | refine below_set ?_ GE335.out | refine below_set ?_ GE339.out | refine below_set ?_ GE341.out) | exact HB.out)⟩⟩
          ·rw [if_neg c22] at H
           exact absurd H (by simp)
         ·rw [if_neg c21] at H
          exact absurd H (by simp)
        ·rw [if_neg c20] at H
         exact absurd H (by simp)
       ·rw [if_neg c19] at H
        exact absurd H (by simp)
      ·rw [if_neg c18] at H
       exact absurd H (by simp)
     ·rw [if_neg c17] at H
      exact absurd H (by simp)
    ·rw [if_neg c16] at H
     exact absurd H (by simp)
   ·rw [if_neg c15] at H
    have c15b0 : decide (x15_1 < (l0_1.length : Int)) = false := decide_eq_false c15
    clear c15
    simp only [Option.some.injEq, Prod.mk.injEq] at H
    obtain ⟨rfl, rfl⟩ := H
    have hnb33 := NB339_334.out
    have hnc33 := NB334_339.out
    have hnb34 := NB339_335.out
    have hnc34 := NB335_339.out
    have hcz35_0 : wr.cell? ⟨gb339, 0, none⟩ = some (.slice Ao9 t336.length co9) := (blk_cell BK339.out 0).trans rfl
    have hcz35_1 : wr.cell? ⟨gb339, 1, none⟩ = some (u340001) := (blk_cell BK339.out 1).trans rfl
    have hfz35_0 := blk_frozen BK339.out 0
    have hfz35_1 := blk_frozen BK339.out 1
    have hnb36 := NB335_334.out
    have hnc36 := NB334_335.out
    have hcz37_0 : wr.cell? ⟨gb335, 0, none⟩ = some (.slice none 0 0) := (blk_cell BK335.out 0).trans rfl
    have hcz37_1 : wr.cell? ⟨gb335, 1, none⟩ = some (.slice none 0 0) := (blk_cell BK335.out 1).trans rfl
    have hfz37_0 := blk_frozen BK335.out 0
    have hfz37_1 := blk_frozen BK335.out 1
    obtain ⟨Ao38, co38, eo38⟩ := Kd.R_slice HO_340001.out
    subst eo38
    go_wp2
    refine bodyPost_ret (results_cell_row rfl _ _ gb335 36 #[.slice Ao9 t336.length co9, .slice Ao38 x340001_1.length co38] (0, 0) _ rfl (by (with_reducible repeat (first | refine blk_drewN ?_ _ | refine blk_drew ?_ | refine blk_alloc ?_ _)); refine blk_put (cs := #[.slice Ao9 t336.length co9, .slice none 0 0]) ?_ 1 _ rfl; (with_reducible repeat (first | refine blk_drewN ?_ _ | refine blk_drew ?_ | refine blk_alloc ?_ _)); refine blk_put (cs := #[.slice none 0 0, .slice none 0 0]) ?_ 0 _ rfl; (with_reducible repeat (first | refine blk_drewN ?_ _ | refine blk_drew ?_ | refine blk_alloc ?_ _)); exact BK335.out) Try.underlying36 rfl (by kernel_rfl)) rfl ?_
    exact ⟨_, _, by first | rfl | (simp [errW_none, errW_some] <;> rfl) | (simp [*, errW_none, errW_some] <;> rfl), by (with_reducible repeat (first | apply Kd.R_alloc | apply Kd.R_drewN | apply Kd.R_drew)); exact Kd.R_mono (Kd.R_far (p := ⟨gb335, 1, none⟩) (Kd.R_far (p := ⟨gb335, 0, none⟩) (Kd.R_types HO_340000.out BK335.out (by decide)) (fun _ hk => hk.2) (.slice Ao9 t336.length co9)) (fun _ hk => hk.2) (.slice Ao38 x340001_1.length co38)) (fun _ hk => trivial), by (with_reducible repeat (first | apply Kd.R_alloc | apply Kd.R_drewN | apply Kd.R_drew)); exact Kd.R_mono (Kd.R_far (p := ⟨gb335, 1, none⟩) (Kd.R_far (p := ⟨gb335, 0, none⟩) (Kd.R_types HO_340001.out BK335.out (by decide)) (fun _ hk => hk.2) (.slice Ao9 t336.length co9)) (fun _ hk => hk.2) (.slice Ao38 x340001_1.length co38)) (fun _ hk => trivial), by repeat (first | (with_reducible first | exact HB.out | apply below_alloc | apply pw_below_drewN | apply below_drew1 | refine below_set ?_ GE334.out | refine below_set ?_ GE335.out | refine below_set ?_ GE339.out) | exact HB.out)⟩
end Go.Proofs.Ytojpibpjieanhaa.X
end
section
-- Written by a program of this session out of the kit's print of the loaded functions: a plain function of a Go function, and its contract.
namespace Go.Proofs.Ytojpibpjieanhaa.X
open Go.RowKit Go.Proofs.YtojpibpjieanhaaW.PrintWords Go.Proofs.YtojpibpjieanhaaW.PrintLast Go.Proofs.YtojpibpjieanhaaW.PrintMore
attribute [local go_sem] max2_int min2_int max_two min_two max_three min_three max_four min_four   -- for this text's walks alone
set_option linter.unusedVariables false
set_option linter.unusedSimpArgs false
def impl_IsMove.f (k : Nat) (l0_0 : List Int) (l0_1 : List (S55)) (l1 : List Int) : Option (Bool) := (impl_ValidFlow.f k l0_0 l0_1).bind fun t348 => (if t348 = true then (if (l1.length : Int) = (l0_0.length : Int) then ((impl_areMoves.f k l1).bind fun t349 => (if t349 = true then ((impl_Flow_moved.f k l0_0 l0_1 l1).bind fun bt350 => ((impl_isFlow.f k bt350.1 bt350.2).bind fun t356 => (some t356))) else (some false))) else (some false)) else (some false))
theorem impl_IsMove.mono : ∀ a0 a1 a2 k, LeO (impl_IsMove.f k a0 a1 a2) (impl_IsMove.f (k + 1) a0 a1 a2) := by
 intro a0 a1 a2 k
 unfold impl_IsMove.f
 repeat' first
   | (with_reducible exact impl_Flow_moved.mono _ _ _ _)
   | (with_reducible exact impl_ValidFlow.mono _ _ _)
   | (with_reducible exact impl_areMoves.mono _ _)
   | (with_reducible exact impl_isFlow.mono _ _ _)
   | (with_reducible exact LeO.refl _)
   | (with_reducible exact LeO.none _)
   | (with_reducible refine LeO.ite ?_ ?_)
   | (with_reducible refine LeO.bind ?_ (fun _ => ?_))
   | exact impl_Flow_moved.mono _ _ _ _
   | exact impl_ValidFlow.mono _ _ _
   | exact impl_areMoves.mono _ _
   | exact impl_isFlow.mono _ _ _
   | exact LeO.none _
   | refine LeO.ite ?_ ?_
   | refine LeO.bind ?_ (fun _ => ?_)
set_option maxHeartbeats 8000000 in
set_option maxRecDepth 100000 in
theorem impl_IsMove.calls (k : Nat) (A0_0 : Option Addr) (c0_0 : Nat) (l0_0 : List Int) (A0_1 : Option Addr) (c0_1 : Nat) (l0_1 : List (S55)) (A1 : Option Addr) (c1 : Nat) (l1 : List Int) (r : Bool) (w : World) (hr0_0 : Kd.C (Kd.int .i64) w A0_0 l0_0.length l0_0) (hc0_0 : l0_0.length ≤ c0_0) (hr0_1 : Kd.C k55 w A0_1 l0_1.length l0_1) (hc0_1 : l0_1.length ≤ c0_1) (hr1 : Kd.C (Kd.int .i64) w A1 l1.length l1) (hc1 : l1.length ≤ c1) (h : impl_IsMove.f k l0_0 l0_1 l1 = some r) :
  Calls Try.prog 28 #[.agg #[.slice A0_0 l0_0.length c0_0, .slice A0_1 l0_1.length c0_1], .slice A1 l1.length c1] w fun e w' => e = .returned (.bool r) ∧ Below w.heap.size w w' := by
 have hu36 := Try.underlying36
 have HR0_0 := Aside0.mk hr0_0
 have HC0_0 := Aside0.mk hc0_0
 clear hr0_0 hc0_0
 have HR0_1 := Aside0.mk hr0_1
 have HC0_1 := Aside0.mk hc0_1
 clear hr0_1 hc0_1
 have HR1 := Aside0.mk hr1
 have HC1 := Aside0.mk hc1
 clear hr1 hc1
 have HB := Aside0.mk (Below.refl w.heap.size w)
 have H : ((impl_ValidFlow.f k l0_0 l0_1).bind fun t348 => (if t348 = true then (if (l1.length : Int) = (l0_0.length : Int) then ((impl_areMoves.f k l1).bind fun t349 => (if t349 = true then ((impl_Flow_moved.f k l0_0 l0_1 l1).bind fun bt350 => ((impl_isFlow.f k bt350.1 bt350.2).bind fun t356 => (some t356))) else (some false))) else (some false)) else (some false))) = some r := h
 clear h
 replace H := Option.bind_eq_some_iff.mp H
 obtain ⟨t348, A30, H⟩ := H
 replace H : (if t348 = true then (if (l1.length : Int) = (l0_0.length : Int) then ((impl_areMoves.f k l1).bind fun t349 => (if t349 = true then ((impl_Flow_moved.f k l0_0 l0_1 l1).bind fun bt350 => ((impl_isFlow.f k bt350.1 bt350.2).bind fun t356 => (some t356))) else (some false))) else (some false)) else (some false)) = some r := H
 have A3 := Aside0.mk A30
 clear A30
 by_cases c4 : t348 = true
 ·subst c4
  have H1 : (if (l1.length : Int) = (l0_0.length : Int) then ((impl_areMoves.f k l1).bind fun t349 => (if t349 = true then ((impl_Flow_moved.f k l0_0 l0_1 l1).bind fun bt350 => ((impl_isFlow.f k bt350.1 bt350.2).bind fun t356 => (some t356))) else (some false))) else (some false)) = some r := by rw [if_pos rfl] at H; exact H
  clear H
  have H := H1
  clear H1
  by_cases c5 : (l1.length : Int) = (l0_0.length : Int)
  ·rw [if_pos c5] at H
   have c5b0 : ((l1.length : Int) == (l0_0.length : Int)) = true := beq_iff_eq.mpr c5
   have c5b1 : ((l1.length : Int) != (l0_0.length : Int)) = false := bne_eq_false_iff_eq.mpr c5
   have c5b2 : (l1.length == l0_0.length) = true := by first | simpa using c5 | (simp at c5 ⊢; omega)
   clear c5
   replace H := Option.bind_eq_some_iff.mp H
   obtain ⟨t349, A60, H⟩ := H
   replace H : (if t349 = true then ((impl_Flow_moved.f k l0_0 l0_1 l1).bind fun bt350 => ((impl_isFlow.f k bt350.1 bt350.2).bind fun t356 => (some t356))) else (some false)) = some r := H
   have A6 := Aside0.mk A60
   clear A60
   by_cases c7 : t349 = true
   ·subst c7
    have H1 : ((impl_Flow_moved.f k l0_0 l0_1 l1).bind fun bt350 => ((impl_isFlow.f k bt350.1 bt350.2).bind fun t356 => (some t356))) = some r := by rw [if_pos rfl] at H; exact H
    clear H
    have H := H1
    clear H1
    replace H := Option.bind_eq_some_iff.mp H
    obtain ⟨⟨t350, t353⟩, A80, H⟩ := H
    replace H : ((impl_isFlow.f k t350 t353).bind fun t356 => (some t356)) = some r := H
    have A8 := Aside0.mk A80
    clear A80
    replace H := Option.bind_eq_some_iff.mp H
    obtain ⟨t356, A90, H⟩ := H
    replace H : (some t356) = some r := H
    have A9 := Aside0.mk A90
    clear A90
    obtain rfl := Option.some.inj H
    go_enter Try.func28, Try.ntmps28
    go_wp2_with (first | ((with_reducible refine gate_dst (N := 2) rfl ?_); (try (refine gate_guard (by rfl) ?_; dsimp only)); refine box_event ?hg (N := 2) ?hd (cs := #[.slice A0_0 l0_0.length c0_0, .slice A0_1 l0_1.length c0_1]) (t := 36) ?hr ?_; (case hd => rfl); (case hg => rfl); (case hr => first | (go_simp; done) | (go_simp; rfl)); intro gb347 hg w10 hbox hb; have n0_ := Aside0.mk (below_step (by repeat (first | (with_reducible first | exact HB.out | apply below_alloc | apply pw_below_drewN | apply below_drew1) | exact HB.out)) hb); have n1_ := Aside0.mk (hbox); have n2_ := Aside0.mk ((by rw [hg]; exact (below_size (by repeat (first | (with_reducible first | exact HB.out | apply below_alloc | apply pw_below_drewN | apply below_drew1) | exact HB.out))) : w.heap.size ≤ gb347)); have n3_ := Aside0.mk ((by rw [hg]; exact (below_size (by repeat (first | (with_reducible first | exact HB.out | apply below_alloc | apply pw_below_drewN | apply below_drew1) | exact HB.out))) : w.heap.size ≤ gb347)); clear HB; have HB := n0_; have BK347 := n1_; have GW347 := n2_; have GE347 := n3_; clear n0_ n1_ n2_ n3_; clear hb hbox hg; have hcz11_0 : w10.cell? ⟨gb347, 0, none⟩ = some (.slice A0_0 l0_0.length c0_0) := (blk_cell BK347.out 0).trans rfl; have hcz11_1 : w10.cell? ⟨gb347, 1, none⟩ = some (.slice A0_1 l0_1.length c0_1) := (blk_cell BK347.out 1).trans rfl; have hfz11_0 := blk_frozen BK347.out 0; have hfz11_1 := blk_frozen BK347.out 1) | ((with_reducible refine gate_callee (f := 23) rfl ?_); refine goesL_ (some 6) rfl rfl Try.func23 (by kernel_rfl) rfl #[.agg #[.slice A0_0 l0_0.length c0_0, .slice A0_1 l0_1.length c0_1]] rfl (by (try simp only [List.map_toArray, List.map_cons, List.map_nil]); first | done | rfl | (simp only [List.length_drop, List.length_take]; rfl)) ?_; (with_reducible refine (impl_ValidFlow.calls k _ _ l0_0 _ _ l0_1 true _ ?side1 ?side2 ?side3 ?side4 A3.out).mono ?_); (case side1 => repeat (first | exact (Kd.C_below HR0_0.out HB.out) | (with_reducible refine Kd.C_alloc ?_ _) | (with_reducible refine Kd.C_drewN ?_ _) | (with_reducible refine Kd.C_drew ?_))); (case side2 => first | exact trivial | (exact HC0_0.out)); (case side3 => repeat (first | exact (Kd.C_below HR0_1.out HB.out) | (with_reducible refine Kd.C_alloc ?_ _) | (with_reducible refine Kd.C_drewN ?_ _) | (with_reducible refine Kd.C_drew ?_))); (case side4 => first | exact trivial | (exact HC0_1.out)); rintro e w12 ⟨rfl, hb⟩; refine ⟨_, rfl, ?_⟩; have n0_ := Aside0.mk (blk_below (g := gb347) (o := .cells #[.slice A0_0 l0_0.length c0_0, .slice A0_1 l0_1.length c0_1] 36 (0, 0)) (by (with_reducible repeat (first | refine blk_drewN ?_ _ | refine blk_drew ?_ | refine blk_alloc ?_ _)); exact BK347.out) hb); have n1_ := Aside0.mk (below_step (by repeat (first | (with_reducible first | exact HB.out | apply below_alloc | apply pw_below_drewN | apply below_drew1 | refine below_set ?_ GE347.out) | exact HB.out)) hb); clear BK347; clear HB; have BK347 := n0_; have HB := n1_; clear n0_ n1_; (try clear hb); (try clear hb2); (try clear hk); (try clear hi); have hcz13_0 : w12.cell? ⟨gb347, 0, none⟩ = some (.slice A0_0 l0_0.length c0_0) := (blk_cell BK347.out 0).trans rfl; have hcz13_1 : w12.cell? ⟨gb347, 1, none⟩ = some (.slice A0_1 l0_1.length c0_1) := (blk_cell BK347.out 1).trans rfl; have hfz13_0 := blk_frozen BK347.out 0; have hfz13_1 := blk_frozen BK347.out 1) | (go_at_call 48; (with_reducible refine (impl_areMoves.calls k _ _ l1 true _ ?side1 ?side2 A6.out).mono ?_); (case side1 => repeat (first | exact (Kd.C_below HR1.out HB.out) | (with_reducible refine Kd.C_alloc ?_ _) | (with_reducible refine Kd.C_drewN ?_ _) | (with_reducible refine Kd.C_drew ?_))); (case side2 => first | exact trivial | (exact HC1.out)); rintro e w' ⟨rfl, ⟨nd, rfl⟩⟩) | (go_at_call 57; (with_reducible refine (impl_Flow_moved.calls k _ _ l0_0 _ _ l0_1 _ _ l1 t350 t353 _ ?side1 ?side2 ?side3 ?side4 ?side5 ?side6 A8.out).mono ?_); (case side1 => repeat (first | exact (Kd.C_below HR0_0.out (by repeat (first | (with_reducible first | exact HB.out | apply below_alloc | apply pw_below_drewN | apply below_drew1 | refine below_set ?_ GE347.out) | exact HB.out))) | (with_reducible refine Kd.C_alloc ?_ _) | (with_reducible refine Kd.C_drewN ?_ _) | (with_reducible refine Kd.C_drew ?_))); (case side2 => first | exact trivial | (exact HC0_0.out)); (case side3 => repeat (first | exact (Kd.C_below HR0_1.out (by repeat (first | (with_reducible first | exact HB.out | apply below_alloc | apply pw_below_drewN | apply below_drew1 | refine below_set ?_ GE347.out) | exact HB.out))) | (with_reducible refine Kd.C_alloc ?_ _) | (with_reducible refine Kd.C_drewN ?_ _) | (with_reducible refine Kd.C_drew ?_))); (case side4 => first | exact trivial | (exact HC0_1.out)); (case side5 => repeat (first | exact (Kd.C_below HR1.out (by repeat (first | (with_reducible first | exact HB.out | apply below_alloc | apply pw_below_drewN | apply below_drew1 | refine below_set ?_ GE347.out) | exact HB.out))) | (with_reducible refine Kd.C_alloc ?_ _) | (with_reducible refine Kd.C_drewN ?_ _) | (with_reducible refine Kd.C_drew ?_))); (case side6 => first | exact trivial | (exact HC1.out)); rintro e w14 ⟨v351, v354, rfl, ho0, ho1, hb⟩; have n0_ := Aside0.mk (Kd.R_lower ho0 (below_size (by repeat (first | (with_reducible first | exact HB.out | apply below_alloc | apply pw_below_drewN | apply below_drew1 | refine below_set ?_ GE347.out) | exact HB.out)))); have n1_ := Aside0.mk (Kd.R_lower ho1 (below_size (by repeat (first | (with_reducible first | exact HB.out | apply below_alloc | apply pw_below_drewN | apply below_drew1 | refine below_set ?_ GE347.out) | exact HB.out)))); have n2_ := Aside0.mk (blk_below (g := gb347) (o := .cells #[.slice A0_0 l0_0.length c0_0, .slice A0_1 l0_1.length c0_1] 36 (0, 0)) (by (with_reducible repeat (first | refine blk_drewN ?_ _ | refine blk_drew ?_ | refine blk_alloc ?_ _)); exact BK347.out) hb); have n3_ := Aside0.mk (below_step (by repeat (first | (with_reducible first | exact HB.out | apply below_alloc | apply pw_below_drewN | apply below_drew1 | refine below_set ?_ GE347.out) | exact HB.out)) hb); clear BK347; clear HB; have HO352 := n0_; have HO355 := n1_; have BK347 := n2_; have HB := n3_; clear n0_ n1_ n2_ n3_; (try clear hb); (try clear hb2); (try clear hk); (try clear hi); (try clear ho0); (try clear ho1); obtain ⟨Ao15, co15, eo15⟩ := Kd.R_slice HO352.out; subst eo15; obtain ⟨Ao16, co16, eo16⟩ := Kd.R_slice HO355.out; subst eo16) | (go_at_call 53; (with_reducible refine (impl_isFlow.calls k _ _ t350 _ _ t353 t356 _ ?side1 ?side2 ?side3 ?side4 A9.out).mono ?_); (case side1 => repeat (first | exact (Kd.R_reads' HO352.out).2.2 | (with_reducible refine Kd.C_alloc ?_ _) | (with_reducible refine Kd.C_drewN ?_ _) | (with_reducible refine Kd.C_drew ?_))); (case side2 => first | exact trivial | (exact (Kd.R_reads' HO352.out).2.1)); (case side3 => repeat (first | exact (Kd.R_reads' HO355.out).2.2 | (with_reducible refine Kd.C_alloc ?_ _) | (with_reducible refine Kd.C_drewN ?_ _) | (with_reducible refine Kd.C_drew ?_))); (case side4 => first | exact trivial | (exact (Kd.R_reads' HO355.out).2.1)); rintro e w17 ⟨rfl, hb⟩; have n0_ := Aside0.mk (Kd.R_below (by (with_reducible repeat (first | apply Kd.R_alloc | apply Kd.R_drewN | apply Kd.R_drew)); exact HO352.out) hb); have n1_ := Aside0.mk (Kd.R_below (by (with_reducible repeat (first | apply Kd.R_alloc | apply Kd.R_drewN | apply Kd.R_drew)); exact HO355.out) hb); have n2_ := Aside0.mk (blk_below (g := gb347) (o := .cells #[.slice A0_0 l0_0.length c0_0, .slice A0_1 l0_1.length c0_1] 36 (0, 0)) (by (with_reducible repeat (first | refine blk_drewN ?_ _ | refine blk_drew ?_ | refine blk_alloc ?_ _)); exact BK347.out) hb); have n3_ := Aside0.mk (below_step (by repeat (first | (with_reducible first | exact HB.out | apply below_alloc | apply pw_below_drewN | apply below_drew1 | refine below_set ?_ GE347.out) | exact HB.out)) hb); clear HO352; clear HO355; clear BK347; clear HB; have HO352 := n0_; have HO355 := n1_; have BK347 := n2_; have HB := n3_; clear n0_ n1_ n2_ n3_; (try clear hb); (try clear hb2); (try clear hk); (try clear hi)))
    go_ret
    exact ⟨by first | rfl | (simp [errW_none, errW_some] <;> rfl) | (simp [*, errW_none, errW_some] <;> rfl), by repeat (first | (with_reducible first | exact HB.out | apply below_alloc | apply pw_below_drewN | apply below_drew1 | refine below_set ?_ GE347.out) | exact HB.out)⟩
   ·replace c7 := Bool.eq_false_iff.mpr c7
    subst c7
    have H1 : (some false) = some r := by rw [if_neg (show ¬ (false = true) by decide)] at H; exact H
    clear H
    have H := H1
    clear H1
    obtain rfl := Option.some.inj H
    go_enter Try.func28, Try.ntmps28
    go_wp2_with (first | ((with_reducible refine gate_dst (N := 2) rfl ?_); (try (refine gate_guard (by rfl) ?_; dsimp only)); refine box_event ?hg (N := 2) ?hd (cs := #[.slice A0_0 l0_0.length c0_0, .slice A0_1 l0_1.length c0_1]) (t := 36) ?hr ?_; (case hd => rfl); (case hg => rfl); (case hr => first | (go_simp; done) | (go_simp; rfl)); intro gb347 hg w18 hbox hb; have n0_ := Aside0.mk (below_step (by repeat (first | (with_reducible first | exact HB.out | apply below_alloc | apply pw_below_drewN | apply below_drew1) | exact HB.out)) hb); have n1_ := Aside0.mk (hbox); have n2_ := Aside0.mk ((by rw [hg]; exact (below_size (by repeat (first | (with_reducible first | exact HB.out | apply below_alloc | apply pw_below_drewN | apply below_drew1) | exact HB.out))) : w.heap.size ≤ gb347)); have n3_ := Aside0.mk ((by rw [hg]; exact (below_size (by repeat (first | (with_reducible first | exact HB.out | apply below_alloc | apply pw_below_drewN | apply below_drew1) | exact HB.out))) : w.heap.size ≤ gb347)); clear HB; have HB := n0_; have BK347 := n1_; have GW347 := n2_; have GE347 := n3_; clear n0_ n1_ n2_ n3_; clear hb hbox hg; have hcz19_0 : w18.cell? ⟨gb347, 0, none⟩ = some (.slice A0_0 l0_0.length c0_0) := (blk_cell BK347.out 0).trans rfl; have hcz19_1 : w18.cell? ⟨gb347, 1, none⟩ = some (.slice A0_1 l0_1.length c0_1) := (blk_cell BK347.out 1).trans rfl; have hfz19_0 := blk_frozen BK347.out 0; have hfz19_1 := blk_frozen BK347.out 1) | ((with_reducible refine gate_callee (f := 23) rfl ?_); refine goesL_ (some 6) rfl rfl Try.func23 (by kernel_rfl) rfl #[.agg #[.slice A0_0 l0_0.length c0_0, .slice A0_1 l0_1.length c0_1]] rfl (by (try simp only [List.map_toArray, List.map_cons, List.map_nil]); first | done | rfl | (simp only [List.length_drop, List.length_take]; rfl)) ?_; (with_reducible refine (impl_ValidFlow.calls k _ _ l0_0 _ _ l0_1 true _ ?side1 ?side2 ?side3 ?side4 A3.out).mono ?_); (case side1 => repeat (first | exact (Kd.C_below HR0_0.out HB.out) | (with_reducible refine Kd.C_alloc ?_ _) | (with_reducible refine Kd.C_drewN ?_ _) | (with_reducible refine Kd.C_drew ?_))); (case side2 => first | exact trivial | (exact HC0_0.out)); (case side3 => repeat (first | exact (Kd.C_below HR0_1.out HB.out) | (with_reducible refine Kd.C_alloc ?_ _) | (with_reducible refine Kd.C_drewN ?_ _) | (with_reducible refine Kd.C_drew ?_))); (case side4 => first | exact trivial | (exact HC0_1.out)); rintro e w20 ⟨rfl, hb⟩; refine ⟨_, rfl, ?_⟩; have n0_ := Aside0.mk (blk_below (g := gb347) (o := .cells #[.slice A0_0 l0_0.length c0_0, .slice A0_1 l0_1.length c0_1] 36 (0, 0)) (by (with_reducible repeat (first | refine blk_drewN ?_ _ | refine blk_drew ?_ | refine blk_alloc ?_ _)); exact BK347.out) hb); have n1_ := Aside0.mk (below_step (by repeat (first | (with_reducible first | exact HB.out | apply below_alloc | apply pw_below_drewN | apply below_drew1 | refine below_set ?_ GE347.out) | exact HB.out)) hb); clear BK347; clear HB; have BK347 := n0_; have HB := n1_; clear n0_ n1_; (try clear hb); (try clear hb2); (try clear hk); (try clear hi); have hcz21_0 : w20.cell? ⟨gb347, 0, none⟩ = some (.slice A0_0 l0_0.length c0_0) := (blk_cell BK347.out 0).trans rfl; have hcz21_1 : w20.cell? ⟨gb347, 1, none⟩ = some (.slice A0_1 l0_1.length c0_1) := (blk_cell BK347.out 1).trans rfl; have hfz21_0 := blk_frozen BK347.out 0; have hfz21_1 := blk_frozen BK347.out 1) | (go_at_call 48; (with_reducible refine (impl_areMoves.calls k _ _ l1 false _ ?side1 ?side2 A6.out).mono ?_); (case side1 => repeat (first | exact (Kd.C_below HR1.out HB.out) | (with_reducible refine Kd.C_alloc ?_ _) | (with_reducible refine Kd.C_drewN ?_ _) | (with_reducible refine Kd.C_drew ?_))); (case side2 => first | exact trivial | (exact HC1.out)); rintro e w' ⟨rfl, ⟨nd, rfl⟩⟩))
    go_ret
    exact ⟨by first | rfl | (simp [errW_none, errW_some] <;> rfl) | (simp [*, errW_none, errW_some] <;> rfl), by repeat (first | (with_reducible first | exact HB.out | apply below_alloc | apply pw_below_drewN | apply below_drew1 | refine below_set ?_ GE347.out) | exact HB.out)⟩
  ·rw [if_neg c5] at H
   have c5b0 : ((l1.length : Int) == (l0_0.length : Int)) = false := beq_eq_false_iff_ne.mpr c5
   have c5b1 : ((l1.length : Int) != (l0_0.length : Int)) = true := bne_iff_ne.mpr c5
   have c5b2 : (l1.length == l0_0.length) = false := by first | simpa using c5 | (simp at c5 ⊢; omega)
   obtain rfl := Option.some.inj H
   go_enter Try.func28, Try.ntmps28
   go_wp2_with (first | ((with_reducible refine gate_dst (N := 2) rfl ?_); (try (refine gate_guard (by rfl) ?_; dsimp only)); refine box_event ?hg (N := 2) ?hd (cs := #[.slice A0_0 l0_0.length c0_0, .slice A0_1 l0_1.length c0_1]) (t := 36) ?hr ?_; (case hd => rfl); (case hg => rfl); (case hr => first | (go_simp; done) | (go_simp; rfl)); intro gb347 hg w22 hbox hb; have n0_ := Aside0.mk (below_step (by repeat (first | (with_reducible first | exact HB.out | apply below_alloc | apply pw_below_drewN | apply below_drew1) | exact HB.out)) hb); have n1_ := Aside0.mk (hbox); have n2_ := Aside0.mk ((by rw [hg]; exact (below_size (by repeat (first | (with_reducible first | exact HB.out | apply below_alloc | apply pw_below_drewN | apply below_drew1) | exact HB.out))) : w.heap.size ≤ gb347)); have n3_ := Aside0.mk ((by rw [hg]; exact (below_size (by repeat (first | (with_reducible first | exact HB.out | apply below_alloc | apply pw_below_drewN | apply below_drew1) | exact HB.out))) : w.heap.size ≤ gb347)); clear HB; have HB := n0_; have BK347 := n1_; have GW347 := n2_; have GE347 := n3_; clear n0_ n1_ n2_ n3_; clear hb hbox hg; have hcz23_0 : w22.cell? ⟨gb347, 0, none⟩ = some (.slice A0_0 l0_0.length c0_0) := (blk_cell BK347.out 0).trans rfl; have hcz23_1 : w22.cell? ⟨gb347, 1, none⟩ = some (.slice A0_1 l0_1.length c0_1) := (blk_cell BK347.out 1).trans rfl; have hfz23_0 := blk_frozen BK347.out 0; have hfz23_1 := blk_frozen BK347.out 1) | ((with_reducible refine gate_callee (f := 23) rfl ?_); refine goesL_ (some 6) rfl rfl Try.func23 (by kernel_rfl) rfl #[.agg #[.slice A0_0 l0_0.length c0_0, .slice A0_1 l0_1.length c0_1]] rfl (by (try simp only [List.map_toArray, List.map_cons, List.map_nil]); first | done | rfl | (simp only [List.length_drop, List.length_take]; rfl)) ?_; (with_reducible refine (impl_ValidFlow.calls k _ _ l0_0 _ _ l0_1 true _ ?side1 ?side2 ?side3 ?side4 A3.out).mono ?_); (case side1 => repeat (first | exact (Kd.C_below HR0_0.out HB.out) | (with_reducible refine Kd.C_alloc ?_ _) | (with_reducible refine Kd.C_drewN ?_ _) | (with_reducible refine Kd.C_drew ?_))); (case side2 => first | exact trivial | (exact HC0_0.out)); (case side3 => repeat (first | exact (Kd.C_below HR0_1.out HB.out) | (with_reducible refine Kd.C_alloc ?_ _) | (with_reducible refine Kd.C_drewN ?_ _) | (with_reducible refine Kd.C_drew ?_))); (case side4 => first | exact trivial | (exact HC0_1.out)); rintro e w24 ⟨rfl, hb⟩; refine ⟨_, rfl, ?_⟩; have n0_ := Aside0.mk (blk_below (g := gb347) (o := .cells #[.slice A0_0 l0_0.length c0_0, .slice A0_1 l0_1.length c0_1] 36 (0, 0)) (by (with_reducible repeat (first | refine blk_drewN ?_ _ | refine blk_drew ?_ | refine blk_alloc ?_ _)); exact BK347.out) hb); have n1_ := Aside0.mk (below_step (by repeat (first | (with_reducible first | exact HB.out | apply below_alloc | apply pw_below_drewN | apply below_drew1 | refine below_set ?_ GE347.out) | exact HB.out)) hb); clear BK347; clear HB; have BK347 := n0_; have HB := n1_; clear n0_ n1_; (try clear hb); (try clear hb2); (try clear hk); (try clear hi); have hcz25_0 : w24.cell? ⟨gb347, 0, none⟩ = some (.slice A0_0 l0_0.length c0_0) := (blk_cell BK347.out 0).trans rfl; have hcz25_1 : w24.cell? ⟨gb347, 1, none⟩ = some (.slice A0_1 l0_1.length c0_1) := (blk_cell BK347.out 1).trans rfl; have hfz25_0 := blk_frozen BK347.out 0; have hfz25_1 := blk_frozen BK347.out 1))
   go_ret
   exact ⟨by first | rfl | (simp [errW_none, errW_some] <;> rfl) | (simp [*, errW_none, errW_some] <;> rfl), by repeat (first | (with_reducible first | exact HB.out | apply below_alloc | apply pw_below_drewN | apply below_drew1 | refine below_set ?_ GE347.out) | exact HB.out)⟩
 ·replace c4 := Bool.eq_false_iff.mpr c4
  subst c4
  have H1 : (some false) = some r := by rw [if_neg (show ¬ (false = true) by decide)] at H; exact H
  clear H
  have H := H1
  clear H1
  obtain rfl := Option.some.inj H
  go_enter Try.func28, Try.ntmps28
  go_wp2_with (first | ((with_reducible refine gate_dst (N := 2) rfl ?_); (try (refine gate_guard (by rfl) ?_; dsimp only)); refine box_event ?hg (N := 2) ?hd (cs := #[.slice A0_0 l0_0.length c0_0, .slice A0_1 l0_1.length c0_1]) (t := 36) ?hr ?_; (case hd => rfl); (case hg => rfl); (case hr => first | (go_simp; done) | (go_simp; rfl)); intro gb347 hg w26 hbox hb; have n0_ := Aside0.mk (below_step (by repeat (first | (with_reducible first | exact HB.out | apply below_alloc | apply pw_below_drewN | apply below_drew1) | exact HB.out)) hb); have n1_ := Aside0.mk (hbox); have n2_ := Aside0.mk ((by rw [hg]; exact (below_size (by repeat (first | (with_reducible first | exact HB.out | apply below_alloc | apply pw_below_drewN | apply below_drew1) | exact HB.out))) : w.heap.size ≤ gb347)); have n3_ := Aside0.mk ((by rw [hg]; exact (below_size (by repeat (first | (with_reducible first | exact HB.out | apply below_alloc | apply pw_below_drewN | apply below_drew1) | exact HB.out))) : w.heap.size ≤ gb347)); clear HB; have HB := n0_; have BK347 := n1_; have GW347 := n2_; have GE347 := n3_; clear n0_ n1_ n2_ n3_; clear hb hbox hg; have hcz27_0 : w26.cell? ⟨gb347, 0, none⟩ = some (.slice A0_0 l0_0.length c0_0) := (blk_cell BK347.out 0).trans rfl; have hcz27_1 : w26.cell? ⟨gb347, 1, none⟩ = some (.slice A0_1 l0_1.length c0_1) := (blk_cell BK347.out 1).trans rfl; have hfz27_0 := blk_frozen BK347.out 0; have hfz27_1 := blk_frozen BK347.out 1) | ((with_reducible refine gate_callee (f := 23) rfl ?_); refine goesL_ (some 6) rfl rfl Try.func23 (by kernel_rfl) rfl #[.agg #[.slice A0_0 l0_0.length c0_0, .slice A0_1 l0_1.length c0_1]] rfl (by (try simp only [List.map_toArray, List.map_cons, List.map_nil]); first | done | rfl | (simp only [List.length_drop, List.length_take]; rfl)) ?_; (with_reducible refine (impl_ValidFlow.calls k _ _ l0_0 _ _ l0_1 false _ ?side1 ?side2 ?side3 ?side4 A3.out).mono ?_); (case side1 => repeat (first | exact (Kd.C_below HR0_0.out HB.out) | (with_reducible refine Kd.C_alloc ?_ _) | (with_reducible refine Kd.C_drewN ?_ _) | (with_reducible refine Kd.C_drew ?_))); (case side2 => first | exact trivial | (exact HC0_0.out)); (case side3 => repeat (first | exact (Kd.C_below HR0_1.out HB.out) | (with_reducible refine Kd.C_alloc ?_ _) | (with_reducible refine Kd.C_drewN ?_ _) | (with_reducible refine Kd.C_drew ?_))); (case side4 => first | exact trivial | (exact HC0_1.out)); rintro e w28 ⟨rfl, hb⟩; refine ⟨_, rfl, ?_⟩; have n0_ := Aside0.mk (blk_below (g := gb347) (o := .cells #[.slice A0_0 l0_0.length c0_0, .slice A0_1 l0_1.length c0_1] 36 (0, 0)) (by (with_reducible repeat (first | refine blk_drewN ?_ _ | refine blk_drew ?_ | refine blk_alloc ?_ _)); exact BK347.out) hb); have n1_ := Aside0.mk (below_step (by repeat (first | (with_reducible first | exact HB.out | apply below_alloc | apply pw_below_drewN | apply below_drew1 | refine below_set ?_ GE347.out) | exact HB.out)) hb); clear BK347; clear HB; have BK347 := n0_; have HB := n1_; clear n0_ n1_; (try clear hb); (try clear hb2); (try clear hk); (try clear hi)))
  go_ret
  exact ⟨by first | rfl | (simp [errW_none, errW_some] <;> rfl) | (simp [*, errW_none, errW_some] <;> rfl), by repeat (first | (with_reducible first | exact HB.out | apply below_alloc | apply pw_below_drewN | apply below_drew1 | refine below_set ?_ GE347.out) | exact HB.out)⟩
end Go.Proofs.Ytojpibpjieanhaa.X
end
section
-- Written by a program of this session out of the kit's print of the loaded functions: a plain function of a Go function, and its contract.
namespace Go.Proofs.Ytojpibpjieanhaa.X
open Go.RowKit Go.Proofs.YtojpibpjieanhaaW.PrintWords Go.Proofs.YtojpibpjieanhaaW.PrintLast Go.Proofs.YtojpibpjieanhaaW.PrintMore
attribute [local go_sem] max2_int min2_int max_two min_two max_three min_three max_four min_four   -- for this text's walks alone
set_option linter.unusedVariables false
set_option linter.unusedSimpArgs false
def slices_Max_int64_int64.l0 : Nat → List Int → Int → Int → Option (Int)
 | 0, _, _, _ => none
 | k + 1, x0, x3, x4 => if x4 < (x0.length : Int) then (if 0 ≤ x4 then (slices_Max_int64_int64.l0 k x0 (mx x3 (rd x0 x4)) (wrap64 (x4 + 1))) else (none)) else (some x3)
def slices_Max_int64_int64.f (k : Nat) (l0 : List Int) : Option (Int) := if (l0.length : Int) < 1 then (none) else (if 0 < (l0.length : Int) then (slices_Max_int64_int64.l0 k l0 (rd l0 0) 1) else (none))
theorem slices_Max_int64_int64.mono_l : ∀ k, (∀ y0 y1 y2, LeO (slices_Max_int64_int64.l0 k y0 y1 y2) (slices_Max_int64_int64.l0 (k + 1) y0 y1 y2))
 | 0 => fun _ _ _ r h => by simp [slices_Max_int64_int64.l0] at h
 | k + 1 => by
  have ih0 := slices_Max_int64_int64.mono_l k
  ·intro y0 y1 y2
   unfold slices_Max_int64_int64.l0
   repeat' first
   | (with_reducible exact ih0 _ _ _)
   | (with_reducible exact LeO.refl _)
   | (with_reducible exact LeO.none _)
   | (with_reducible refine LeO.ite ?_ ?_)
   | (with_reducible refine LeO.bind ?_ (fun _ => ?_))
   | exact ih0 _ _ _
   | exact LeO.none _
   | refine LeO.ite ?_ ?_
   | refine LeO.bind ?_ (fun _ => ?_)
theorem slices_Max_int64_int64.mono : ∀ a0 k, LeO (slices_Max_int64_int64.f k a0) (slices_Max_int64_int64.f (k + 1) a0) := by
 intro a0 k
 have ih0 := slices_Max_int64_int64.mono_l k
 unfold slices_Max_int64_int64.f
 repeat' first
   | (with_reducible exact ih0 _ _ _)
   | (with_reducible exact LeO.refl _)
   | (with_reducible exact LeO.none _)
   | (with_reducible refine LeO.ite ?_ ?_)
   | (with_reducible refine LeO.bind ?_ (fun _ => ?_))
   | exact ih0 _ _ _
   | exact LeO.none _
   | refine LeO.ite ?_ ?_
   | refine LeO.bind ?_ (fun _ => ?_)
set_option maxHeartbeats 8000000 in
set_option maxRecDepth 100000 in
theorem slices_Max_int64_int64.calls (k : Nat) (A0 : Option Addr) (c0 : Nat) (l0 : List Int) (r : Int) (w : World) (hr0 : Kd.C (Kd.int .i64) w A0 l0.length l0) (hc0 : l0.length ≤ c0) (h : slices_Max_int64_int64.f k l0 = some r) :
  Calls Try.prog 75 #[.slice A0 l0.length c0] w fun e w' => e = .returned (.int .i64 r) ∧ Below w.heap.size w w' := by
 have HR0 := Aside0.mk hr0
 have HC0 := Aside0.mk hc0
 clear hr0 hc0
 have HB := Aside0.mk (Below.refl w.heap.size w)
 have H : (if (l0.length : Int) < 1 then (none) else (if 0 < (l0.length : Int) then (slices_Max_int64_int64.l0 k l0 (rd l0 0) 1) else (none))) = some r := h
 clear h
 by_cases c2 : (l0.length : Int) < 1
 ·rw [if_pos c2] at H
  exact absurd H (by simp)
 ·rw [if_neg c2] at H
  have c2b0 : decide ((l0.length : Int) < 1) = false := decide_eq_false c2
  have c2b1 : decide (l0.length < 1) = false := decide_eq_false (by omega)
  clear c2
  by_cases c3 : 0 < (l0.length : Int)
  ·rw [if_pos c3] at H
   have c3b0 : decide (0 < (l0.length : Int)) = true := decide_eq_true c3
   have c3b1 : decide (0 < l0.length) = true := decide_eq_true (by omega)
   clear c3
   have H' := Aside0.mk H
   clear H
   have p406 : 0 ≤ (0 : Int) := (by omega)
   have q406 : 0 < (l0.length : Int) := of_decide_eq_true (by first | (with_reducible assumption) | assumption)
   obtain ⟨ad406, e406, hx406_0⟩ := Kd.at_int HR0.out 0 p406 q406
   cases e406
   have qi406 : (0 < l0.length) = True := eq_true (by omega)
   (try rw [show ((0 : Int)).toNat = 0 from rfl] at hx406_0)
   (try rw [Addr.add_zero'] at hx406_0)
   replace p406 := eq_true p406
   replace q406 := eq_true q406
   go_enter Try.func75, Try.ntmps75
   go_wp2
   go_loopg [3, 4] k (fun kq v3 v4 w' => ∃ (x3_1 : Int) (x4_1 : Int), v3 = .int .i64 x3_1 ∧ v4 = .int .i64 x4_1 ∧ Aside0 (slices_Max_int64_int64.l0 kq l0 x3_1 x4_1 = some r) ∧ Aside0 (kq ≤ k) ∧ Aside0 (Below w.heap.size w w'))
   case atStart => exact ⟨(rd l0 0), (1), (by first | rfl | (simp; done) | (simp [*]; done)), (by first | rfl | (simp; done) | (simp [*]; done)), H', ⟨Nat.le_refl _⟩, ⟨by repeat (first | (with_reducible first | exact HB.out | apply below_alloc | apply pw_below_drewN | apply below_drew1) | exact HB.out)⟩⟩
   case round =>
    clear H'
    try clear c2
    try clear c2b0
    try clear c2b1
    try clear p2
    try clear c3
    try clear c3b0
    try clear c3b1
    try clear hx406_0
    try clear p406
    try clear q406
    obtain ⟨x3_1, x4_1, rfl, rfl, HA, HK1, HB⟩ := hrel
    cases gk with
    | zero => exact absurd HA.out (by simp [slices_Max_int64_int64.l0])
    | succ k1 =>
     have H := HA.out
     clear HA
     simp only [slices_Max_int64_int64.l0] at H
     by_cases c4 : x4_1 < (l0.length : Int)
     ·rw [if_pos c4] at H
      have c4b0 : decide (x4_1 < (l0.length : Int)) = true := decide_eq_true c4
      clear c4
      by_cases c5 : 0 ≤ x4_1
      ·rw [if_pos c5] at H
       have c5b0 : decide (0 ≤ x4_1) = true := decide_eq_true c5
       clear c5
       obtain ⟨ji6, hji6⟩ : ∃ j_ : Int, (mx x3_1 (rd l0 x4_1)) = j_ := ⟨_, rfl⟩
       replace H : (slices_Max_int64_int64.l0 k1 l0 ji6 (wrap64 (x4_1 + 1))) = some r := by first | (rw [hji6] at H; exact H) | (simp only [hji6] at H ⊢; exact H)
       have hji6_ : (if x3_1 < (rd l0 x4_1) then (rd l0 x4_1) else x3_1) = ji6 := hji6
       have H' := Aside0.mk H
       clear H
       have p407 : 0 ≤ (x4_1 : Int) := of_decide_eq_true (by first | (with_reducible assumption) | assumption)
       have q407 : x4_1 < (l0.length : Int) := of_decide_eq_true (by first | (with_reducible assumption) | assumption)
       obtain ⟨ad407, e407, hx407_0⟩ := Kd.at_int HR0.out x4_1 p407 q407
       obtain rfl : ad406 = ad407 := (by injection e407)
       replace hx407_0 := (HB.out.cell (World.block_lt_of_cell? w _ hx407_0)).trans hx407_0
       replace p407 := eq_true p407
       replace q407 := eq_true q407
       go_wp2
       go_roundg k1
       case measure => have := HK1.out; omega
       case rel => exact ⟨(ji6), (wrap64 (x4_1 + 1)), (by first | rfl | (simp; done) | (simp only [← hji6] <;> (first | rfl | simp)) | (simp [*]; done)), (by first | rfl | (simp; done) | (simp [*]; done)), H', ⟨by have := HK1.out; omega⟩, ⟨by repeat (first | (with_reducible first | exact HB.out | apply below_alloc | apply pw_below_drewN | apply below_drew1) | exact HB.out)⟩⟩
      ·rw [if_neg c5] at H
       exact absurd H (by simp)
     ·rw [if_neg c4] at H
      have c4b0 : decide (x4_1 < (l0.length : Int)) = false := decide_eq_false c4
      clear c4
      obtain rfl := Option.some.inj H
      go_wp2
      go_ret
      exact ⟨by first | rfl | (simp [errW_none, errW_some] <;> rfl) | (simp [*, errW_none, errW_some] <;> rfl), by repeat (first | (with_reducible first | exact HB.out | apply below_alloc | apply pw_below_drewN | apply below_drew1) | exact HB.out)⟩
  ·rw [if_neg c3] at H
   exact absurd H (by simp)
end Go.Proofs.Ytojpibpjieanhaa.X
end
section
namespace Go.Proofs.Ytojpibpjieanhaa.X
open Go.RowKit Go.Proofs.YtojpibpjieanhaaW.PrintWords Go.Proofs.YtojpibpjieanhaaW.PrintLast Go.Proofs.YtojpibpjieanhaaW.PrintMore
set_option linter.unusedVariables false
set_option linter.unusedSimpArgs false
def mwStep (w : S55) (s : MC) : MC := raiseS s w.f1.toNat (wrap64 (rd s.1 w.f0 - w.f2))
def mwN (ws : List S55) (s : MC) : Nat → MC
  | 0 => s
  | j + 1 => mwStep (rd_T55 ws (j : Int)) (mwN ws s j)
def mpStep (P : Int) (i j : Nat) (x : S77) (s : MC) : MC := if x.f2 = true then (if x.f1 > P then raiseS s j (wrap64 (wrap64 (rd s.1 (i : Int) - x.f0) + 1)) else s) else s
def mpN (P : Int) (i : Nat) (row : List S77) (s : MC) : Nat → MC
  | 0 => s
  | j + 1 => mpStep P i j (rd_T77 row (j : Int)) (mpN P i row s j)
def mrN (P : Int) (n : Nat) (rows : List (List S77)) (s : MC) : Nat → MC
  | 0 => s
  | i + 1 => mpN P i (rd_L5 rows (i : Int)) (mrN P n rows s i) n
def mvRound (P : Int) (n : Nat) (ws : List S55) (rows : List (List S77)) (m : List Int) : MC := mrN P n rows (mwN ws (m, false) ws.length) n
def mvF (K : Nat) (P : Int) (n : Nat) (d : List Int) (ws : List S55) (rows : List (List S77)) : Nat → List Int → Option (List Int × Bool)
  | 0, _ => some ([], false)
  | e + 1, m => if (mvRound P n ws rows m).2 = true then mvF K P n d ws rows e (mvRound P n ws rows m).1 else (impl_IsMove.f K d ws (mvRound P n ws rows m).1).bind fun b => some ((mvRound P n ws rows m).1, b)
theorem raiseS_len (s : MC) (i : Nat) (x : Int) : (raiseS s i x).1.length = s.1.length := by unfold raiseS; split <;> simp
structure MvA (w0 : World) (fl : Array Value) (n g1 g8 g9 gm cm : Nat) (s : MC) (w : World) : Prop where
  b1 : w.heap[g1]? = some (.cells fl 36 (0, 0))
  mv : MvW w0.heap.size n w g8 g9 gm cm s
  bel : Below w0.heap.size w0 w
variable {w0 w w1 : World} {fl : Array Value} {n g1 g8 g9 gm cm : Nat} {s s' : MC}
theorem MvA.move (h : MvA w0 fl n g1 g8 g9 gm cm s w) (hb : Below w.heap.size w w1) : MvA w0 fl n g1 g8 g9 gm cm s w1 :=
  ⟨blk_below h.b1 hb, h.mv.move hb, below_step h.bel hb⟩
theorem MvA.other (h : MvA w0 fl n g1 g8 g9 gm cm s w) (hp : RaiseW w0.heap.size n w g8 g9 gm cm s' w1) {g : Nat} {cs : Array Value} {t : TypeId} (hg : w.heap[g]? = some (.cells cs t (0, 0))) (h1 : t ≠ 4) (h2 : t ≠ 2) : w1.heap[g]? = some (.cells cs t (0, 0)) :=
  blk_kept hg hp.2.2 (by
    rintro (e | e)
    · obtain ⟨cells, q⟩ := h.mv.typ; exact blk_ne hg q h2 e
    · exact blk_ne hg h.mv.b9 h1 e)
theorem MvA.raisew (h : MvA w0 fl n g1 g8 g9 gm cm s w) (hp : RaiseW w0.heap.size n w g8 g9 gm cm s' w1) : MvA w0 fl n g1 g8 g9 gm cm s' w1 :=
  ⟨h.other hp h.b1 (by decide) (by decide), hp.1, h.bel.trans hp.2.1⟩
theorem keepMv {w0 : World} {g8 g1 : Nat} {v1 v2 v3 : Value} (l8 : g8 < w0.heap.size) (l1 : g1 < w0.heap.size) {W W' : World} (h : W.cell? ⟨g8, 0, none⟩ = some v1 ∧ W.cell? ⟨g1, 0, none⟩ = some v2 ∧ W.cell? ⟨g1, 1, none⟩ = some v3 ∧ Below w0.heap.size w0 W) (hb : Below W.heap.size W W') :
    W'.cell? ⟨g8, 0, none⟩ = some v1 ∧ W'.cell? ⟨g1, 0, none⟩ = some v2 ∧ W'.cell? ⟨g1, 1, none⟩ = some v3 ∧ Below w0.heap.size w0 W' :=
  have hsz : w0.heap.size ≤ W.heap.size := below_size h.2.2.2
  ⟨(hb.cell (p := ⟨g8, 0, none⟩) (Nat.lt_of_lt_of_le l8 hsz)).trans h.1, (hb.cell (p := ⟨g1, 0, none⟩) (Nat.lt_of_lt_of_le l1 hsz)).trans h.2.1, (hb.cell (p := ⟨g1, 1, none⟩) (Nat.lt_of_lt_of_le l1 hsz)).trans h.2.2.1, below_step h.2.2.2 hb⟩
set_option maxHeartbeats 16000000 in
set_option maxRecDepth 100000 in
theorem mv_walk (A0 : Option Addr) (c0 : Nat) (d : List Int) (A1 : Option Addr) (c1 : Nat) (ws : List S55) (P : Int) (A2 : Option Addr) (c2 : Nat) (rows : List (List S77)) (n m : Nat) (hn0 : n = d.length) (hm0 : m = ws.length) (hr0n : n = rows.length) (hcols : ∀ i : Nat, i < n → (rd_L5 rows (i : Int)).length = n) (hdc : n ≤ c0) (hmc : m ≤ c1) (h1 : 1 ≤ n) (hn : n ≤ 1000000) (hm : m ≤ 1000000) (hw : ∀ j : Nat, j < m → WireIn n (rd_T55 ws (j : Int))) (w : World)
    (hr0 : Kd.C (Kd.int .i64) w A0 n d) (hr1 : Kd.C k55 w A1 m ws) (hr2 : Kd.C (Kd.slice 77 k77) w A2 n rows) (K : Nat) (mx : Int) (hmx : slices_Max_int64_int64.f K d = some mx) (r1 : List Int) (r2 : Bool)
    (hR : (if mx > P then some (([] : List Int), false) else mvF K P n d ws rows (n + 1) (List.replicate n 0)) = some (r1, r2)) :
    Calls Try.prog 74 #[.agg #[.slice A0 n c0, .slice A1 m c1], .int .i64 P, .slice A2 n c2] w fun e w' => ∃ v : Value, e = .returned (.tuple #[v, .bool r2]) ∧ Kd.R (Kd.int .i64) 2 w' w.heap.size (fun _ => True) v r1 ∧ Below w.heap.size w w' := by
  have HR0 := Aside0.mk hr0
  have HR1 := Aside0.mk hr1
  have HR2 := Aside0.mk hr2
  have HW := Aside0.mk hw
  have HN0 := Aside0.mk hn0
  have HM0 := Aside0.mk hm0
  have HRN := Aside0.mk hr0n
  have HCO := Aside0.mk hcols
  have HRR := Aside0.mk hR
  have HMX := Aside0.mk hmx
  have HDC := Aside0.mk hdc
  have HMC := Aside0.mk hmc
  clear hr0 hr1 hr2 hw hm0 hn0 hR hr0n hcols hmx hdc hmc
  have HB := Aside0.mk (Below.refl w.heap.size w)
  have hmk : decide (0 ≤ (n : Int)) = true := decide_eq_true (by omega)
  have wn1 : IntKind.i64.wrap ((n : Int) + 1) = (n : Int) + 1 := IntWalk.i64_in _ ⟨by omega, by omega⟩
  cases hP : decide (P < mx) with
  | true =>
    have HE : Aside0 (r1 = [] ∧ r2 = false) := ⟨by have h := HRR.out; rw [if_pos (of_decide_eq_true hP)] at h; injection h with h; injection h with h3 h4; exact ⟨h3.symm, h4.symm⟩⟩
    clear HRR
    go_enter Try.func74, Try.ntmps74
    go_wp2_with (first
      | ((with_reducible refine gate_dst (N := 3) rfl ?_); refine box_event ?hg (N := 3) ?hd (cs := #[.slice A0 n c0, .slice A1 m c1]) (t := 36) ?hr ?_; (case hd => rfl); (case hg => rfl); (case hr => first | (go_simp; done) | (go_simp; rfl)); intro g1 hg wn hbox hb; clear hg; have BK1 := Aside0.mk hbox; have n0_ := Aside0.mk (below_step HB.out hb); clear HB hb hbox; have HB := n0_; clear n0_; have c1_0 : wn.cell? ⟨g1, 0, none⟩ = some (.slice A0 n c0) := (blk_cell BK1.out 0).trans rfl)
      | ((with_reducible refine gate_dst (N := 20) rfl ?_); refine Kd.R_make (Kd.int .i64) _ 2 rfl (N := 20) rfl 22 _ _ rfl (n : Int) rfl rfl Try.underlying22 (.int .i64 0) 8 info2 rfl (by decide) (by omega) 0 (ok := fun _ => True) (okp := fun _ => True) rfl (fun _ hk => hk) trivial (by omega) (by omega) (Below.refl _ _) (Nat.le_refl _) ?_; intro v20 w4 ho5 hb hg_ hnew_; clear hg_ hnew_; rw [Int.toNat_natCast] at ho5; obtain ⟨gm, cm, hv, _, _, _⟩ := Kd.R_form ho5 (by rw [List.length_replicate]; omega); rw [List.length_replicate] at hv; subst hv; have HO := Aside0.mk (Kd.R_lower ho5 (below_size HB.out)); have n0_ := Aside0.mk (below_step HB.out hb); have n1_ := Aside0.mk (blk_below BK1.out hb); clear HB BK1 hb ho5 c1_0; have HB := n0_; have BK1 := n1_; clear n0_ n1_)
      | ((with_reducible refine gate_dst (N := 8) rfl ?_); refine box_event ?hg (N := 8) ?hd (cs := #[.slice none 0 0]) (t := 22) ?hr ?_; (case hd => rfl); (case hg => rfl); (case hr => first | (go_simp; done) | (go_simp; rfl)); intro g8 hg wn8 hbox hb; have GE8 := Aside0.mk (by rw [hg]; exact below_size HB.out : w.heap.size ≤ g8); clear hg; have BK8 := Aside0.mk hbox; have n0_ := Aside0.mk (below_step HB.out hb); have n1_ := Aside0.mk (blk_below BK1.out hb); have n2_ := Aside0.mk (Kd.R_below HO.out hb); clear HB BK1 HO hb hbox; have c8_0 : wn8.cell? ⟨g8, 0, none⟩ = some (.slice none 0 0) := (blk_cell BK8.out 0).trans rfl; have z8 := blk_frozen BK8.out 0; have HB := Aside0.mk (n0_.out.setCell (p := ⟨g8, 0, none⟩) GE8.out (.slice (some ⟨gm, 0, none⟩) n cm)); have BK1 := Aside0.mk (blk_far n1_.out (p := ⟨g8, 0, none⟩) (blk_ne n1_.out BK8.out (by decide)) (.slice (some ⟨gm, 0, none⟩) n cm)); have HO := Aside0.mk (Kd.R_mono (Kd.R_far (p := ⟨g8, 0, none⟩) (Kd.R_types n2_.out BK8.out (by decide)) (fun _ hk => hk.2) (.slice (some ⟨gm, 0, none⟩) n cm)) (ok' := fun _ => True) (fun _ _ => trivial)); have P8 := Aside0.mk (blk_put BK8.out 0 (.slice (some ⟨gm, 0, none⟩) n cm) rfl); clear n0_ n1_ n2_ BK8; have c1_0 : (wn8.setCell ⟨g8, 0, none⟩ (.slice (some ⟨gm, 0, none⟩) n cm)).cell? ⟨g1, 0, none⟩ = some (.slice A0 n c0) := (blk_cell BK1.out 0).trans rfl)
      | (go_at_call 75; have T := slices_Max_int64_int64.calls K A0 c0 d mx (wn8.setCell ⟨g8, 0, none⟩ (.slice (some ⟨gm, 0, none⟩) n cm)) (by rw [← HN0.out]; exact Kd.C_below HR0.out HB.out) (by rw [← HN0.out]; exact HDC.out) HMX.out; rw [← HN0.out] at T; refine T.mono ?_; clear T; rintro e wz ⟨rfl, hb⟩; have n0_ := Aside0.mk (below_step HB.out hb); have n1_ := Aside0.mk (blk_below BK1.out hb); have n2_ := Aside0.mk (Kd.R_below HO.out hb); have n3_ := Aside0.mk (blk_below P8.out hb); clear HB BK1 HO P8 hb c1_0 c8_0 z8; have HB := n0_; have BK1 := n1_; have HO := n2_; have P8 := n3_; clear n0_ n1_ n2_ n3_; have c8_0 : wz.cell? ⟨g8, 0, none⟩ = some (.slice (some ⟨gm, 0, none⟩) n cm) := (blk_cell P8.out 0).trans rfl))
    go_ret2
    obtain ⟨e1, e2⟩ := HE.out
    subst e1 e2
    exact ⟨_, rfl, Kd.R_nil _ _ _ _ _, HB.out⟩
  | false =>
    have HRE : Aside0 (mvF K P n d ws rows (n + 1) (List.replicate n 0) = some (r1, r2)) := ⟨by have h := HRR.out; rw [if_neg (of_decide_eq_false hP)] at h; exact h⟩
    clear HRR
    go_enter Try.func74, Try.ntmps74
    go_wp2_with (first
      | ((with_reducible refine gate_dst (N := 3) rfl ?_); refine box_event ?hg (N := 3) ?hd (cs := #[.slice A0 n c0, .slice A1 m c1]) (t := 36) ?hr ?_; (case hd => rfl); (case hg => rfl); (case hr => first | (go_simp; done) | (go_simp; rfl)); intro g1 hg wn hbox hb; clear hg; have BK1 := Aside0.mk hbox; have n0_ := Aside0.mk (below_step HB.out hb); clear HB hb hbox; have HB := n0_; clear n0_; have c1_0 : wn.cell? ⟨g1, 0, none⟩ = some (.slice A0 n c0) := (blk_cell BK1.out 0).trans rfl)
      | ((with_reducible refine gate_dst (N := 20) rfl ?_); refine Kd.R_make (Kd.int .i64) _ 2 rfl (N := 20) rfl 22 _ _ rfl (n : Int) rfl rfl Try.underlying22 (.int .i64 0) 8 info2 rfl (by decide) (by omega) 0 (ok := fun _ => True) (okp := fun _ => True) rfl (fun _ hk => hk) trivial (by omega) (by omega) (Below.refl _ _) (Nat.le_refl _) ?_; intro v20 w4 ho5 hb hg_ hnew_; clear hg_ hnew_; rw [Int.toNat_natCast] at ho5; obtain ⟨gm, cm, hv, _, _, _⟩ := Kd.R_form ho5 (by rw [List.length_replicate]; omega); rw [List.length_replicate] at hv; subst hv; have HO := Aside0.mk (Kd.R_lower ho5 (below_size HB.out)); have n0_ := Aside0.mk (below_step HB.out hb); have n1_ := Aside0.mk (blk_below BK1.out hb); clear HB BK1 hb ho5 c1_0; have HB := n0_; have BK1 := n1_; clear n0_ n1_)
      | ((with_reducible refine gate_dst (N := 8) rfl ?_); refine box_event ?hg (N := 8) ?hd (cs := #[.slice none 0 0]) (t := 22) ?hr ?_; (case hd => rfl); (case hg => rfl); (case hr => first | (go_simp; done) | (go_simp; rfl)); intro g8 hg wn8 hbox hb; have GE8 := Aside0.mk (by rw [hg]; exact below_size HB.out : w.heap.size ≤ g8); clear hg; have BK8 := Aside0.mk hbox; have n0_ := Aside0.mk (below_step HB.out hb); have n1_ := Aside0.mk (blk_below BK1.out hb); have n2_ := Aside0.mk (Kd.R_below HO.out hb); clear HB BK1 HO hb hbox; have c8_0 : wn8.cell? ⟨g8, 0, none⟩ = some (.slice none 0 0) := (blk_cell BK8.out 0).trans rfl; have z8 := blk_frozen BK8.out 0; have HB := Aside0.mk (n0_.out.setCell (p := ⟨g8, 0, none⟩) GE8.out (.slice (some ⟨gm, 0, none⟩) n cm)); have BK1 := Aside0.mk (blk_far n1_.out (p := ⟨g8, 0, none⟩) (blk_ne n1_.out BK8.out (by decide)) (.slice (some ⟨gm, 0, none⟩) n cm)); have HO := Aside0.mk (Kd.R_mono (Kd.R_far (p := ⟨g8, 0, none⟩) (Kd.R_types n2_.out BK8.out (by decide)) (fun _ hk => hk.2) (.slice (some ⟨gm, 0, none⟩) n cm)) (ok' := fun _ => True) (fun _ _ => trivial)); have P8 := Aside0.mk (blk_put BK8.out 0 (.slice (some ⟨gm, 0, none⟩) n cm) rfl); clear n0_ n1_ n2_ BK8; have c1_0 : (wn8.setCell ⟨g8, 0, none⟩ (.slice (some ⟨gm, 0, none⟩) n cm)).cell? ⟨g1, 0, none⟩ = some (.slice A0 n c0) := (blk_cell BK1.out 0).trans rfl)
      | (go_at_call 75; have T := slices_Max_int64_int64.calls K A0 c0 d mx (wn8.setCell ⟨g8, 0, none⟩ (.slice (some ⟨gm, 0, none⟩) n cm)) (by rw [← HN0.out]; exact Kd.C_below HR0.out HB.out) (by rw [← HN0.out]; exact HDC.out) HMX.out; rw [← HN0.out] at T; refine T.mono ?_; clear T; rintro e wz ⟨rfl, hb⟩; have n0_ := Aside0.mk (below_step HB.out hb); have n1_ := Aside0.mk (blk_below BK1.out hb); have n2_ := Aside0.mk (Kd.R_below HO.out hb); have n3_ := Aside0.mk (blk_below P8.out hb); clear HB BK1 HO P8 hb c1_0 c8_0 z8; have HB := n0_; have BK1 := n1_; have HO := n2_; have P8 := n3_; clear n0_ n1_ n2_ n3_; have c8_0 : wz.cell? ⟨g8, 0, none⟩ = some (.slice (some ⟨gm, 0, none⟩) n cm) := (blk_cell P8.out 0).trans rfl))
    go_loopg [29] (n + 1) (fun kq v29 w' => ∃ (i : Nat) (mv : List Int), v29 = .int .i64 i ∧ Aside0 (i + kq = n + 1) ∧ Aside0 (mvF K P n d ws rows kq mv = some (r1, r2)) ∧ Aside0 (w'.heap[g1]? = some (.cells #[.slice A0 n c0, .slice A1 m c1] 36 (0, 0))) ∧ Aside0 (w'.heap[g8]? = some (.cells #[.slice (some ⟨gm, 0, none⟩) n cm] 22 (0, 0))) ∧ Aside0 (Kd.R (Kd.int .i64) 2 w' w.heap.size (fun _ => True) (.slice (some ⟨gm, 0, none⟩) n cm) mv) ∧ Aside0 (Below w.heap.size w w'))
    case atStart => exact ⟨0, _, by first | rfl | simp, ⟨by omega⟩, HRE, BK1, P8, HO, HB⟩
    case round =>
      clear HRE BK1 P8 HO HB c8_0
      obtain ⟨i, mv, rfl, HI, HF, BK1, P8, HO, HB⟩ := hrel
      by_cases hlt : i < n + 1
      · cases gk with
        | zero => have := HI.out; omega
        | succ gq =>
        have f1 : decide ((i : Int) < (n : Int) + 1) = true := decide_eq_true (by omega)
        go_wp2_with (first
          | ((with_reducible refine gate_dst (N := 9) rfl ?_); refine box_event ?hg (N := 9) ?hd (cs := #[.bool false]) (t := 4) ?hr ?_; (case hd => rfl); (case hg => rfl); (case hr => first | (go_simp; done) | (go_simp; rfl)); intro g9 hg wn hbox hb; have GE9 := Aside0.mk (by rw [hg]; exact below_size HB.out : w.heap.size ≤ g9); clear hg; have HS := Aside0.mk (show MvA w #[.slice A0 n c0, .slice A1 m c1] n g1 g8 g9 gm cm (mv, false) wn from ⟨blk_below BK1.out hb, ⟨blk_below P8.out hb, Kd.R_below HO.out hb, hbox, GE8.out, GE9.out⟩, below_step HB.out hb⟩); clear BK1 P8 HO HB hb hbox; have c9 : wn.cell? ⟨g9, 0, none⟩ = some (.bool false) := (blk_cell HS.out.mv.b9 0).trans rfl; have z9 := blk_frozen HS.out.mv.b9 0; have c1_1 : (wn.setCell ⟨g9, 0, none⟩ (.bool false)).cell? ⟨g1, 1, none⟩ = some (.slice A1 m c1) := (blk_cell (blk_far HS.out.b1 (p := ⟨g9, 0, none⟩) (blk_ne HS.out.b1 HS.out.mv.b9 (by decide)) (.bool false)) 1).trans rfl))
        have HS1 := Aside0.mk (show MvA w #[.slice A0 n c0, .slice A1 m c1] n g1 g8 g9 gm cm (mv, false) (wn.setCell ⟨g9, 0, none⟩ (.bool false)) from ⟨blk_far HS.out.b1 (p := ⟨g9, 0, none⟩) (blk_ne HS.out.b1 HS.out.mv.b9 (by decide)) _, HS.out.mv.flag false, HS.out.bel.setCell GE9.out _⟩)
        clear HS c9 z9 c1_1
        generalize wn.setCell ⟨g9, 0, none⟩ (.bool false) = W1 at HS1 ⊢
        go_loopg [35] m (fun kq v35 w' => ∃ j : Nat, v35 = .int .i64 j ∧ Aside0 (j + kq = m) ∧ Aside0 (MvA w #[.slice A0 n c0, .slice A1 m c1] n g1 g8 g9 gm cm (mwN ws (mv, false) j) w'))
        case atStart => exact ⟨0, by first | rfl | simp, ⟨by omega⟩, HS1⟩
        case round =>
          clear HS1
          obtain ⟨j, rfl, HJ, HS⟩ := hrel
          by_cases hlj : j < m
          · cases gk with
            | zero => have := HJ.out; omega
            | succ gq2 =>
            obtain ⟨ad, hA, x0, x1, x2⟩ := at_T55 (Kd.C_below HR1.out HS.out.bel) (j : Int) (by omega) (by omega)
            cases hA
            rw [Int.toNat_natCast] at x0 x1 x2
            obtain ⟨o0, o1, o2, o3⟩ := HW.out j hlj
            have HX : Aside0 (mwN ws (mv, false) (j + 1) = mwStep (rd_T55 ws (j : Int)) (mwN ws (mv, false) j)) := ⟨rfl⟩
            obtain ⟨S, hS⟩ : ∃ S, S = mwN ws (mv, false) j := ⟨_, rfl⟩
            rw [← hS] at HS HX
            clear hS
            obtain ⟨el, hel⟩ : ∃ el, el = rd_T55 ws (j : Int) := ⟨_, rfl⟩
            rw [← hel] at x0 x1 x2 o0 o1 o2 o3 HX
            clear hel
            obtain ⟨a, ha⟩ : ∃ a : Nat, el.f0 = a := ⟨el.f0.toNat, by omega⟩
            obtain ⟨b, hb⟩ : ∃ b : Nat, el.f1 = b := ⟨el.f1.toNat, by omega⟩
            obtain ⟨f0, f1', f2⟩ := el
            simp only at x0 x1 x2 o0 o1 o2 o3 ha hb
            subst ha
            subst hb
            have hi0 : a < n := by omega
            have hi1 : b < n := by omega
            have p0 : (0 ≤ (a : Int)) = True := eq_true (by omega)
            have p1 : ((a : Int) < (n : Int)) = True := eq_true (by omega)
            have p2 : (0 ≤ (j : Int)) = True := eq_true (by omega)
            have p3 : ((j : Int) < (m : Int)) = True := eq_true (by omega)
            have wj : IntKind.i64.wrap ((j : Int) + 1) = (j : Int) + 1 := IntWalk.i64_in _ ⟨by omega, by omega⟩
            go_wp2_with ((with_reducible refine gate_dst (N := 12) rfl ?_); refine box_event ?hg (N := 12) ?hd (cs := #[.int .i64 0, .int .i64 0, .int .i64 0]) (t := 55) ?hr ?_; (case hd => rfl); (case hg => rfl); (case hr => first | (go_simp; done) | (go_simp; rfl)); intro g7 hg wn hbox hb7; have B7 := Aside0.mk hbox; have HB7 := Aside0.mk hb7; have GE7 := Aside0.mk (show wr.heap.size ≤ g7 by rw [hg]; exact Nat.le_refl _); clear hg hb7 hbox; have z7_0 := blk_frozen B7.out 0; have z7_1 := blk_frozen B7.out 1; have z7_2 := blk_frozen B7.out 2; have c7_0 : wn.cell? ⟨g7, 0, none⟩ = some (.int .i64 0) := (blk_cell B7.out 0).trans rfl; have c7_1 : wn.cell? ⟨g7, 1, none⟩ = some (.int .i64 0) := (blk_cell B7.out 1).trans rfl; have c7_2 : wn.cell? ⟨g7, 2, none⟩ = some (.int .i64 0) := (blk_cell B7.out 2).trans rfl)
            have p7 := Aside0.mk (blk_put (cs' := #[.int .i64 (a : Int), .int .i64 (b : Int), .int .i64 f2]) (blk_put (cs' := #[.int .i64 (a : Int), .int .i64 (b : Int), .int .i64 0]) (blk_put (cs' := #[.int .i64 (a : Int), .int .i64 0, .int .i64 0]) B7.out 0 (.int .i64 (a : Int)) rfl) 1 (.int .i64 (b : Int)) rfl) 2 (.int .i64 f2) rfl)
            have HA := Aside0.mk (HS.out.move (below_set (j := 2) (v := .int .i64 f2) (below_set (j := 1) (v := .int .i64 (b : Int)) (below_set (j := 0) (v := .int .i64 (a : Int)) HB7.out GE7.out) GE7.out) GE7.out))
            clear c7_0 c7_1 c7_2 z7_0 z7_1 z7_2 B7 HB7 GE7 HS x0 x1 x2
            generalize ((wn.setCell ⟨g7, 0, none⟩ (.int .i64 (a : Int))).setCell ⟨g7, 1, none⟩ (.int .i64 (b : Int))).setCell ⟨g7, 2, none⟩ (.int .i64 f2) = W5 at p7 HA ⊢
            have k7_0 : W5.cell? ⟨g7, 0, none⟩ = some (.int .i64 (a : Int)) := (blk_cell p7.out 0).trans rfl
            have k7_1 : W5.cell? ⟨g7, 1, none⟩ = some (.int .i64 (b : Int)) := (blk_cell p7.out 1).trans rfl
            have k7_2 : W5.cell? ⟨g7, 2, none⟩ = some (.int .i64 f2) := (blk_cell p7.out 2).trans rfl
            have k8_0 := HA.out.mv.c8
            obtain ⟨km, zm⟩ := HA.out.mv.cel a hi0
            clear zm
            go_still_tail 11, (by kernel_rfl)
            change wpList _ _ _ _ _ W5.drew
            go_wp2_with ((with_reducible refine gate_dst (N := 50) rfl ?_); (refine goesV_ (some 50) rfl rfl Try.func98 rfl (by kernel_rfl) #[.int .i64 (b : Int), .int .i64 (wrap64 (rd S.1 (a : Int) - f2))] rfl rfl (by simp [Act.eval, Act.put, IntWalk.i64_left]) ?_; refine (RaiseClo b (wrap64 (rd S.1 (a : Int) - f2)) hi1 hn HA.out.mv.drew).mono ?_; rintro e w2 ⟨rfl, hp⟩; refine ⟨_, rfl, ?_⟩; have n0_ := Aside0.mk ((HA.out.move (below_drew1 (Below.refl _ _))).raisew hp); clear HA p7 hp k7_0 k7_1 k7_2 k8_0 km; have HA := n0_; clear n0_))
            go_roundg gq2
            case measure => omega
            case rel => exact ⟨j + 1, by go_num, ⟨by have := HJ.out; omega⟩, by rw [HX.out]; unfold mwStep; rw [Int.toNat_natCast]; exact HA⟩
          · have hj : j = m := by have := HJ.out; omega
            have f2 : decide ((j : Int) < (m : Int)) = false := decide_eq_false (by omega)
            have f2' : decide (j < m) = false := decide_eq_false hlj
            obtain ⟨S0, hS0⟩ : ∃ S0, S0 = mwN ws (mv, false) j := ⟨_, rfl⟩
            rw [← hS0] at HS
            have HS0E : Aside0 (mwN ws (mv, false) ws.length = S0) := ⟨by rw [hS0, hj, HM0.out]⟩
            clear hS0 hj hlj
            go_wp2
            go_loopg [54] n (fun kq v54 w' => ∃ p : Nat, v54 = .int .i64 p ∧ Aside0 (p + kq = n) ∧ Aside0 (MvA w #[.slice A0 n c0, .slice A1 m c1] n g1 g8 g9 gm cm (mrN P n rows S0 p) w'))
            case atStart => exact ⟨0, by first | rfl | simp, ⟨by omega⟩, HS⟩
            case round =>
              clear HS f2 f2'
              obtain ⟨p, rfl, HP, HS⟩ := hrel
              by_cases hlp : p < n
              · cases gk with
                | zero => have := HP.out; omega
                | succ gq3 =>
                obtain ⟨ad, AR, cR, hA, y0, hcR, hrow⟩ := at_L5 HR2.out (p : Int) (by omega) (by omega)
                cases hA
                rw [Int.toNat_natCast, HCO.out p hlp] at y0
                rw [HCO.out p hlp] at hrow
                have HROW := Aside0.mk hrow
                have x0 := pw_cell_below HS.out.bel y0
                clear hrow y0 hcR
                obtain ⟨row, hrw⟩ : ∃ row, row = rd_L5 rows (p : Int) := ⟨_, rfl⟩
                rw [← hrw] at HROW
                have HX : Aside0 (mrN P n rows S0 (p + 1) = mpN P p row (mrN P n rows S0 p) n) := ⟨by rw [hrw]; rfl⟩
                clear hrw
                obtain ⟨S, hS⟩ : ∃ S, S = mrN P n rows S0 p := ⟨_, rfl⟩
                rw [← hS] at HS HX
                clear hS
                have p2 : (0 ≤ (p : Int)) = True := eq_true (by omega)
                have p3 : ((p : Int) < (n : Int)) = True := eq_true (by omega)
                go_wp2
                go_loopg [61] n (fun kq v61 w' => ∃ q : Nat, v61 = .int .i64 q ∧ Aside0 (q + kq = n) ∧ Aside0 (MvA w #[.slice A0 n c0, .slice A1 m c1] n g1 g8 g9 gm cm (mpN P p row S q) w'))
                case atStart => exact ⟨0, by first | rfl | simp, ⟨by omega⟩, HS⟩
                case round =>
                  clear HS x0
                  obtain ⟨q, rfl, HQ, HA⟩ := hrel
                  by_cases hlq : q < n
                  · cases gk with
                    | zero => have := HQ.out; omega
                    | succ gq4 =>
                    have q2 : (0 ≤ (q : Int)) = True := eq_true (by omega)
                    have q3 : ((q : Int) < (n : Int)) = True := eq_true (by omega)
                    have wq : IntKind.i64.wrap ((q : Int) + 1) = (q : Int) + 1 := IntWalk.i64_in _ ⟨by omega, by omega⟩
                    obtain ⟨ad2, hA2, cm0, cm1, cm2⟩ := at_T77 (Kd.C_below HROW.out HA.out.bel) (q : Int) (by omega) (by omega)
                    cases hA2
                    rw [Int.toNat_natCast] at cm0 cm1 cm2
                    obtain ⟨Z, hZ⟩ : ∃ Z, Z = mpN P p row S q := ⟨_, rfl⟩
                    obtain ⟨x, hx⟩ : ∃ x, x = rd_T77 row (q : Int) := ⟨_, rfl⟩
                    have HZ : Aside0 (mpN P p row S (q + 1) = mpStep P p q x Z) := ⟨by rw [hZ, hx]; rfl⟩
                    rw [← hZ] at HA
                    rw [← hx] at cm0 cm1 cm2
                    clear hZ hx
                    obtain ⟨xr, xd, xf⟩ := x
                    simp only at cm0 cm1 cm2
                    cases xf with
                    | false =>
                      have HV : Aside0 (mpN P p row S (q + 1) = Z) := ⟨by rw [HZ.out]; unfold mpStep; rw [if_neg (show ¬ (false = true) from Bool.false_ne_true)]⟩
                      clear HZ
                      go_wp2_with ((with_reducible refine gate_dst (N := 16) rfl ?_); refine box_event ?hg (N := 16) ?hd (cs := #[.int .i64 0, .int .i64 0, .bool false]) (t := 77) ?hr ?_; (case hd => rfl); (case hg => rfl); (case hr => first | (go_simp; done) | (go_simp; rfl)); intro g9' hg wn hbox hb9; have B9 := Aside0.mk hbox; have HB9 := Aside0.mk hb9; have GE9' := Aside0.mk (show wr.heap.size ≤ g9' by rw [hg]; exact Nat.le_refl _); clear hg hb9 hbox; have z9_0 := blk_frozen B9.out 0; have z9_1 := blk_frozen B9.out 1; have z9_2 := blk_frozen B9.out 2; have c9_0 : wn.cell? ⟨g9', 0, none⟩ = some (.int .i64 0) := (blk_cell B9.out 0).trans rfl; have c9_1 : wn.cell? ⟨g9', 1, none⟩ = some (.int .i64 0) := (blk_cell B9.out 1).trans rfl; have c9_2 : wn.cell? ⟨g9', 2, none⟩ = some (.bool false) := (blk_cell B9.out 2).trans rfl; have c9_3 : ∀ u v t, (((wn.setCell ⟨g9', 0, none⟩ u).setCell ⟨g9', 1, none⟩ v).setCell ⟨g9', 2, none⟩ t).cell? ⟨g9', 2, none⟩ = some t := fun u v t => (blk_cell (blk_put (blk_put (blk_put B9.out 0 u rfl) 1 v rfl) 2 t rfl) 2).trans rfl; have c9_4 : ∀ u v t, (((wn.setCell ⟨g9', 0, none⟩ u).setCell ⟨g9', 1, none⟩ v).setCell ⟨g9', 2, none⟩ t).cell? ⟨g9', 1, none⟩ = some v := fun u v t => (blk_cell (blk_put (blk_put (blk_put B9.out 0 u rfl) 1 v rfl) 2 t rfl) 1).trans rfl)
                      have HBX := below_set (j := 2) (v := .bool false) (below_set (j := 1) (v := .int .i64 xd) (below_set (j := 0) (v := .int .i64 xr) HB9.out GE9'.out) GE9'.out) GE9'.out
                      have HA2 := Aside0.mk (HA.out.move HBX)
                      clear c9_0 c9_1 c9_2 c9_3 c9_4 z9_0 z9_1 z9_2
                      go_roundg gq4
                      case measure => omega
                      case rel => exact ⟨q + 1, by go_num, ⟨by have := HQ.out; omega⟩, by rw [HV.out]; exact HA2⟩
                    | true =>
                      cases hP2 : decide (P < xd) with
                      | false =>
                        have HV : Aside0 (mpN P p row S (q + 1) = Z) := ⟨by rw [HZ.out]; unfold mpStep; rw [if_pos rfl, if_neg (show ¬ xd > P from of_decide_eq_false hP2)]⟩
                        clear HZ
                        go_wp2_with ((with_reducible refine gate_dst (N := 16) rfl ?_); refine box_event ?hg (N := 16) ?hd (cs := #[.int .i64 0, .int .i64 0, .bool false]) (t := 77) ?hr ?_; (case hd => rfl); (case hg => rfl); (case hr => first | (go_simp; done) | (go_simp; rfl)); intro g9' hg wn hbox hb9; have B9 := Aside0.mk hbox; have HB9 := Aside0.mk hb9; have GE9' := Aside0.mk (show wr.heap.size ≤ g9' by rw [hg]; exact Nat.le_refl _); clear hg hb9 hbox; have z9_0 := blk_frozen B9.out 0; have z9_1 := blk_frozen B9.out 1; have z9_2 := blk_frozen B9.out 2; have c9_0 : wn.cell? ⟨g9', 0, none⟩ = some (.int .i64 0) := (blk_cell B9.out 0).trans rfl; have c9_1 : wn.cell? ⟨g9', 1, none⟩ = some (.int .i64 0) := (blk_cell B9.out 1).trans rfl; have c9_2 : wn.cell? ⟨g9', 2, none⟩ = some (.bool false) := (blk_cell B9.out 2).trans rfl; have c9_3 : ∀ u v t, (((wn.setCell ⟨g9', 0, none⟩ u).setCell ⟨g9', 1, none⟩ v).setCell ⟨g9', 2, none⟩ t).cell? ⟨g9', 2, none⟩ = some t := fun u v t => (blk_cell (blk_put (blk_put (blk_put B9.out 0 u rfl) 1 v rfl) 2 t rfl) 2).trans rfl; have c9_4 : ∀ u v t, (((wn.setCell ⟨g9', 0, none⟩ u).setCell ⟨g9', 1, none⟩ v).setCell ⟨g9', 2, none⟩ t).cell? ⟨g9', 1, none⟩ = some v := fun u v t => (blk_cell (blk_put (blk_put (blk_put B9.out 0 u rfl) 1 v rfl) 2 t rfl) 1).trans rfl)
                        have HBX := below_set (j := 2) (v := .bool true) (below_set (j := 1) (v := .int .i64 xd) (below_set (j := 0) (v := .int .i64 xr) HB9.out GE9'.out) GE9'.out) GE9'.out
                        have HA2 := Aside0.mk (HA.out.move HBX)
                        clear c9_0 c9_1 c9_2 c9_3 c9_4 z9_0 z9_1 z9_2
                        go_roundg gq4
                        case measure => omega
                        case rel => exact ⟨q + 1, by go_num, ⟨by have := HQ.out; omega⟩, by rw [HV.out]; exact HA2⟩
                      | true =>
                        have HV : Aside0 (mpN P p row S (q + 1) = raiseS Z q (wrap64 (wrap64 (rd Z.1 (p : Int) - xr) + 1))) := ⟨by rw [HZ.out]; unfold mpStep; rw [if_pos rfl, if_pos (show xd > P from of_decide_eq_true hP2)]⟩
                        clear HZ
                        go_wp2_with ((with_reducible refine gate_dst (N := 16) rfl ?_); refine box_event ?hg (N := 16) ?hd (cs := #[.int .i64 0, .int .i64 0, .bool false]) (t := 77) ?hr ?_; (case hd => rfl); (case hg => rfl); (case hr => first | (go_simp; done) | (go_simp; rfl)); intro g9' hg wn hbox hb9; have B9 := Aside0.mk hbox; have HB9 := Aside0.mk hb9; have GE9' := Aside0.mk (show wr.heap.size ≤ g9' by rw [hg]; exact Nat.le_refl _); clear hg hb9 hbox; have z9_0 := blk_frozen B9.out 0; have z9_1 := blk_frozen B9.out 1; have z9_2 := blk_frozen B9.out 2; have c9_0 : wn.cell? ⟨g9', 0, none⟩ = some (.int .i64 0) := (blk_cell B9.out 0).trans rfl; have c9_1 : wn.cell? ⟨g9', 1, none⟩ = some (.int .i64 0) := (blk_cell B9.out 1).trans rfl; have c9_2 : wn.cell? ⟨g9', 2, none⟩ = some (.bool false) := (blk_cell B9.out 2).trans rfl; have c9_3 : ∀ u v t, (((wn.setCell ⟨g9', 0, none⟩ u).setCell ⟨g9', 1, none⟩ v).setCell ⟨g9', 2, none⟩ t).cell? ⟨g9', 2, none⟩ = some t := fun u v t => (blk_cell (blk_put (blk_put (blk_put B9.out 0 u rfl) 1 v rfl) 2 t rfl) 2).trans rfl; have c9_4 : ∀ u v t, (((wn.setCell ⟨g9', 0, none⟩ u).setCell ⟨g9', 1, none⟩ v).setCell ⟨g9', 2, none⟩ t).cell? ⟨g9', 1, none⟩ = some v := fun u v t => (blk_cell (blk_put (blk_put (blk_put B9.out 0 u rfl) 1 v rfl) 2 t rfl) 1).trans rfl)
                        have HBX := below_set (j := 2) (v := .bool true) (below_set (j := 1) (v := .int .i64 xd) (below_set (j := 0) (v := .int .i64 xr) HB9.out GE9'.out) GE9'.out) GE9'.out
                        have HA2 := Aside0.mk (HA.out.move HBX)
                        have p92 := Aside0.mk (blk_put (cs' := #[.int .i64 xr, .int .i64 xd, .bool true]) (blk_put (cs' := #[.int .i64 xr, .int .i64 xd, .bool false]) (blk_put (cs' := #[.int .i64 xr, .int .i64 0, .bool false]) B9.out 0 (.int .i64 xr) rfl) 1 (.int .i64 xd) rfl) 2 (.bool true) rfl)
                        clear c9_0 c9_1 c9_2 c9_3 c9_4 z9_0 z9_1 z9_2 B9 HB9 GE9' HBX HA cm0 cm1 cm2
                        generalize ((wn.setCell ⟨g9', 0, none⟩ (.int .i64 xr)).setCell ⟨g9', 1, none⟩ (.int .i64 xd)).setCell ⟨g9', 2, none⟩ (.bool true) = W6 at HA2 p92 ⊢
                        have k9_0 : W6.cell? ⟨g9', 0, none⟩ = some (.int .i64 xr) := (blk_cell p92.out 0).trans rfl
                        have k8_0 := HA2.out.mv.c8
                        obtain ⟨km, zm⟩ := HA2.out.mv.cel p hlp
                        clear zm
                        go_still_tail 10, (by kernel_rfl)
                        change wpList _ _ _ _ _ W6.drew
                        go_wp2_with ((with_reducible refine gate_dst (N := 84) rfl ?_); (refine goesV_ (some 84) rfl rfl Try.func98 rfl (by kernel_rfl) #[.int .i64 (q : Int), .int .i64 (wrap64 (wrap64 (rd Z.1 (p : Int) - xr) + 1))] rfl rfl (by simp [Act.eval, Act.put, IntWalk.i64_left]) ?_; refine (RaiseClo q (wrap64 (wrap64 (rd Z.1 (p : Int) - xr) + 1)) hlq hn HA2.out.mv.drew).mono ?_; rintro e w3 ⟨rfl, hp⟩; refine ⟨_, rfl, ?_⟩; have n0_ := Aside0.mk ((HA2.out.move (below_drew1 (Below.refl _ _))).raisew hp); clear HA2 p92 hp k9_0 k8_0 km; have HA := n0_; clear n0_))
                        go_roundg gq4
                        case measure => omega
                        case rel => exact ⟨q + 1, by go_num, ⟨by have := HQ.out; omega⟩, by rw [HV.out]; exact HA⟩
                  · have hq : q = n := by have := HQ.out; omega
                    have f3 : decide ((q : Int) < (n : Int)) = false := decide_eq_false (by omega)
                    have f3' : decide (q < n) = false := decide_eq_false hlq
                    have wp : IntKind.i64.wrap ((p : Int) + 1) = (p : Int) + 1 := IntWalk.i64_in _ ⟨by omega, by omega⟩
                    have HV : Aside0 (mrN P n rows S0 (p + 1) = mpN P p row S q) := ⟨by rw [HX.out, hq]⟩
                    clear hq
                    go_wp2
                    go_roundg gq3
                    case measure => omega
                    case rel => exact ⟨p + 1, by go_num, ⟨by have := HP.out; omega⟩, by rw [HV.out]; exact HA⟩
              · have hp : p = n := by have := HP.out; omega
                have f4 : decide ((p : Int) < (n : Int)) = false := decide_eq_false (by omega)
                have f4' : decide (p < n) = false := decide_eq_false hlp
                obtain ⟨⟨mv2, ch⟩, hS⟩ : ∃ S : MC, S = mrN P n rows S0 p := ⟨_, rfl⟩
                rw [← hS] at HS
                have HRD : Aside0 (mvRound P n ws rows mv = (mv2, ch)) := ⟨by unfold mvRound; rw [HS0E.out, hS, hp]⟩
                clear hS hp hlp HS0E
                have c9 : wr.cell? ⟨g9, 0, none⟩ = some (.bool ch) := (blk_cell HS.out.mv.b9 0).trans rfl
                cases ch with
                | true =>
                  have HF2 : Aside0 (mvF K P n d ws rows gq mv2 = some (r1, r2)) := ⟨by have h := HF.out; rw [mvF, HRD.out, if_pos rfl] at h; exact h⟩
                  clear HF HRD
                  have wi : IntKind.i64.wrap ((i : Int) + 1) = (i : Int) + 1 := IntWalk.i64_in _ ⟨by omega, by omega⟩
                  go_wp2
                  go_roundg gq
                  case measure => omega
                  case rel => exact ⟨i + 1, mv2, by go_num, ⟨by have := HI.out; omega⟩, HF2, ⟨HS.out.b1⟩, ⟨HS.out.mv.b8⟩, ⟨HS.out.mv.R⟩, ⟨HS.out.bel⟩⟩
                | false =>
                  obtain ⟨hIM, hr1⟩ : impl_IsMove.f K d ws mv2 = some r2 ∧ r1 = mv2 := by
                    have h := HF.out
                    rw [mvF, HRD.out, if_neg (show ¬ (false = true) from Bool.false_ne_true)] at h
                    obtain ⟨b, h3, h4⟩ := Option.bind_eq_some_iff.mp h
                    injection h4 with h4
                    injection h4 with h5 h6
                    subst h5 h6
                    exact ⟨h3, rfl⟩
                  subst hr1
                  have HT : Aside0 (∀ W, Below wr.heap.size wr W → Calls Try.prog 28 #[.agg #[.slice A0 n c0, .slice A1 m c1], .slice (some ⟨gm, 0, none⟩) n cm] W fun e w' => e = .returned (.bool r2) ∧ Below W.heap.size W w') := ⟨fun W hW => by
                    have hbl := below_step HS.out.bel hW
                    have q := Kd.R_reads' (Kd.R_below HS.out.mv.R hW)
                    have hl : n = r1.length := q.1
                    have T := impl_IsMove.calls K A0 c0 d A1 c1 ws (some ⟨gm, 0, none⟩) cm r1 r2 W (by rw [← HN0.out]; exact Kd.C_below HR0.out hbl) (by rw [← HN0.out]; exact HDC.out) (by rw [← HM0.out]; exact Kd.C_below HR1.out hbl) (by rw [← HM0.out]; exact HMC.out) q.2.2 (by rw [← hl]; exact q.2.1) hIM
                    rw [← HN0.out, ← HM0.out, ← hl] at T
                    exact T⟩
                  clear HF HRD hIM
                  have c8 := HS.out.mv.c8
                  have c1_0 : wr.cell? ⟨g1, 0, none⟩ = some (.slice A0 n c0) := (blk_cell HS.out.b1 0).trans rfl
                  have c1_1 : wr.cell? ⟨g1, 1, none⟩ = some (.slice A1 m c1) := (blk_cell HS.out.b1 1).trans rfl
                  have l8 := blk_lt HS.out.mv.b8
                  have l1 := blk_lt HS.out.b1
                  have hd : ∀ x, x = wr.drew → (x.cell? ⟨g8, 0, none⟩ = some (.slice (some ⟨gm, 0, none⟩) n cm) ∧ x.cell? ⟨g1, 0, none⟩ = some (.slice A0 n c0) ∧ x.cell? ⟨g1, 1, none⟩ = some (.slice A1 m c1) ∧ Below wr.heap.size wr x) := by
                    rintro x rfl
                    exact ⟨c8, c1_0, c1_1, below_drew1 (Below.refl _ _)⟩
                  go_wp2
                  go_region_held3 (fun W => W.cell? ⟨g8, 0, none⟩ = some (.slice (some ⟨gm, 0, none⟩) n cm) ∧ W.cell? ⟨g1, 0, none⟩ = some (.slice A0 n c0) ∧ W.cell? ⟨g1, 1, none⟩ = some (.slice A1 m c1) ∧ Below wr.heap.size wr W) (first | exact hd _ rfl | assumption | exact keepMv l8 l1 ‹_› ‹_›) (first | (go_at_call 28; (with_reducible refine (HT.out _ (by first | exact (‹_ ∧ _ ∧ _ ∧ Below wr.heap.size wr _›).2.2.2 | exact below_drew1 (Below.refl _ _))).mono ?_); rintro e wn ⟨rfl, hb⟩))
                  have HSb := (‹_ ∧ _ ∧ _ ∧ Below wr.heap.size wr _›).2.2.2
                  go_wp2
                  go_ret2
                  exact ⟨_, rfl, Kd.R_below HS.out.mv.R HSb, below_step HS.out.bel HSb⟩
      · have hi : i = n + 1 := by have := HI.out; omega
        have hk0 : gk = 0 := by have := HI.out; omega
        subst hk0
        have f1 : decide ((i : Int) < (n : Int) + 1) = false := decide_eq_false (by omega)
        have HE : Aside0 (r1 = [] ∧ r2 = false) := ⟨by have h := HF.out; rw [mvF] at h; injection h with h; injection h with h3 h4; exact ⟨h3.symm, h4.symm⟩⟩
        clear HF hi hlt
        go_wp2
        go_ret2
        obtain ⟨e1, e2⟩ := HE.out
        subst e1 e2
        exact ⟨_, rfl, Kd.R_nil _ _ _ _ _, HB.out⟩
end Go.Proofs.Ytojpibpjieanhaa.X
end
section
namespace Go.Proofs.Ytojpibpjieanhaa.X
open Go.RowKit Go.Proofs.YtojpibpjieanhaaW.PrintWords Go.Proofs.YtojpibpjieanhaaW.PrintLast Go.Proofs.YtojpibpjieanhaaW.PrintMore
set_option linter.unusedVariables false
set_option linter.unusedSimpArgs false
theorem mvF_mono (P : Int) (n : Nat) (d : List Int) (ws : List S55) (rows : List (List S77)) (K : Nat) : ∀ (e : Nat) (m : List Int), LeO (mvF K P n d ws rows e m) (mvF (K + 1) P n d ws rows e m)
  | 0, m => LeO.refl _
  | e + 1, m => by
    rw [mvF, mvF]
    split
    · exact mvF_mono P n d ws rows K e _
    · exact LeO.bind (impl_IsMove.mono _ _ _ _) (fun _ => LeO.refl _)
instance rowsDec (n : Nat) (l2 : List (List S77)) : Decidable (∀ r ∈ l2, r.length = n) := List.decidableBAll _ l2
def impl_Flow_movesFor.f (k : Nat) (l0 : List Int) (l1 : List S55) (a1 : Int) (l2 : List (List S77)) : Option (List Int × Bool) :=
  if 1 ≤ l0.length ∧ l0.length ≤ 1000000 ∧ l1.length ≤ 1000000 ∧ (∀ w ∈ l1, WireIn l0.length w) ∧ l2.length = l0.length ∧ (∀ r ∈ l2, r.length = l0.length) then (slices_Max_int64_int64.f k l0).bind fun mx => if mx > a1 then some ([], false) else mvF k a1 l0.length l0 l1 l2 (l0.length + 1) (List.replicate l0.length 0) else none
theorem impl_Flow_movesFor.mono : ∀ a0 a1 a2 a3 k, LeO (impl_Flow_movesFor.f k a0 a1 a2 a3) (impl_Flow_movesFor.f (k + 1) a0 a1 a2 a3) := by
  intro a0 a1 a2 a3 k
  unfold impl_Flow_movesFor.f
  split
  · refine LeO.bind (slices_Max_int64_int64.mono _ _) (fun mx => ?_)
    split
    · exact LeO.refl _
    · exact mvF_mono _ _ _ _ _ _ _ _
  · exact LeO.refl _
theorem impl_Flow_movesFor.calls (k : Nat) (A0_0 : Option Addr) (c0_0 : Nat) (l0_0 : List Int) (A0_1 : Option Addr) (c0_1 : Nat) (l0_1 : List (S55)) (a1 : Int) (A2 : Option Addr) (c2 : Nat) (l2 : List (List S77)) (r1 : List Int) (r2 : Bool) (w : World) (hr0_0 : Kd.C (Kd.int .i64) w A0_0 l0_0.length l0_0) (hc0_0 : l0_0.length ≤ c0_0) (hr0_1 : Kd.C k55 w A0_1 l0_1.length l0_1) (hc0_1 : l0_1.length ≤ c0_1) (hr2 : Kd.C (Kd.slice 77 k77) w A2 l2.length l2) (hc2 : l2.length ≤ c2) (h : impl_Flow_movesFor.f k l0_0 l0_1 a1 l2 = some (r1, r2)) :
    Calls Try.prog 74 #[.agg #[.slice A0_0 l0_0.length c0_0, .slice A0_1 l0_1.length c0_1], .int .i64 a1, .slice A2 l2.length c2] w fun e w' => ∃ v : Value, e = .returned (.tuple #[v, .bool r2]) ∧ Kd.R (Kd.int .i64) 2 w' w.heap.size (fun _ => True) v r1 ∧ Below w.heap.size w w' := by
  unfold impl_Flow_movesFor.f at h
  by_cases hc : 1 ≤ l0_0.length ∧ l0_0.length ≤ 1000000 ∧ l0_1.length ≤ 1000000 ∧ (∀ w ∈ l0_1, WireIn l0_0.length w) ∧ l2.length = l0_0.length ∧ (∀ r ∈ l2, r.length = l0_0.length)
  · rw [if_pos hc] at h
    obtain ⟨mx, hmx, h⟩ := Option.bind_eq_some_iff.mp h
    obtain ⟨h1, h2, h3, h4, h5, h6⟩ := hc
    have hr2' := hr2
    rw [h5] at hr2'
    have T := mv_walk A0_0 c0_0 l0_0 A0_1 c0_1 l0_1 a1 A2 c2 l2 l0_0.length l0_1.length rfl rfl h5.symm (fun i hi => by
      refine h6 _ ?_
      unfold rd_L5
      rw [Int.toNat_natCast, List.getD_eq_getElem?_getD, List.getElem?_eq_getElem (by omega)]
      exact List.getElem_mem (by omega)) hc0_0 hc0_1 h1 h2 h3 (fun j hj => by
      refine h4 _ ?_
      unfold rd_T55
      rw [Int.toNat_natCast, List.getD_eq_getElem?_getD, List.getElem?_eq_getElem hj]
      exact List.getElem_mem hj) w hr0_0 hr0_1 hr2' k mx hmx r1 r2 h
    rw [h5]
    exact T
  · rw [if_neg hc] at h; cases h
end Go.Proofs.Ytojpibpjieanhaa.X
end
