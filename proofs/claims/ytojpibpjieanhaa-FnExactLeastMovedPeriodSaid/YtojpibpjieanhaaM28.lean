/- My own texts of this seat and its words, merged: Xp63, XSCan, XSMove, CMoves, CMovP, Xp89, XQuietTail, XEnds, XForF, CForR. Conditions: as each lemma says. -/
import Derived.Test.YtojpibpjieanhaaM21
import Derived.Test.YtojpibpjieanhaaM22
import Derived.Test.YtojpibpjieanhaaM27
import Derived.Test.YtojpibpjieanhaaM26
import Derived.Test.YtojpibpjieanhaaM25
import Derived.StillTail
import Derived.Deep.QuietTactic
import Derived.Test.YtojpibpjieanhaaM24
import Derived.StillTailTactics
import Derived.Test.YtojpibpjieanhaaM23
section
-- Written by a program of this session out of the kit's print of the loaded functions: a plain function of a Go function, and its contract.
namespace Go.Proofs.Ytojpibpjieanhaa.X
open Go.RowKit Go.Proofs.YtojpibpjieanhaaW.PrintWords Go.Proofs.YtojpibpjieanhaaW.PrintLast Go.Proofs.YtojpibpjieanhaaW.PrintMore
attribute [local go_sem] max2_int min2_int max_two min_two max_three min_three max_four min_four   -- for this text's walks alone
set_option linter.unusedVariables false
set_option linter.unusedSimpArgs false
def spec_l08Moved.l0 : Nat → List Int → Int → List Int → List (S55) → List Int → List (S55) → Option (List Int × (List (S55)))
 | 0, _, _, _, _, _, _ => none
 | k + 1, x1, x6, x1000, x1001, x327000, x327001 => if x6 < (x1001.length : Int) then (if 0 ≤ x6 then (if 0 ≤ ((rd_T55 x1001 x6).f1) then (if ((rd_T55 x1001 x6).f1) < (x1.length : Int) then (if 0 ≤ ((rd_T55 x1001 x6).f0) then (if ((rd_T55 x1001 x6).f0) < (x1.length : Int) then (if x327001.length < 5864062014805 then (spec_l08Moved.l0 k x1 (wrap64 (x6 + 1)) x1000 x1001 x327000 (x327001 ++ [(⟨(rd_T55 x1001 x6).f0, (rd_T55 x1001 x6).f1, wrap64 ((wrap64 (((rd_T55 x1001 x6).f2) + (rd x1 ((rd_T55 x1001 x6).f1)))) - (rd x1 ((rd_T55 x1001 x6).f0)))⟩ : S55)])) else (none)) else (none)) else (none)) else (none)) else (none)) else (none)) else (some (x327000, x327001))
def spec_l08Moved.f (k : Nat) (s0_0 : List Int) (s0_1 : List (S55)) (l1 : List Int) : Option (List Int × (List (S55))) := (spec_l00Own.f s0_0).bind fun t320 => (spec_l08Moved.l0 k l1 0 s0_0 s0_1 t320 (([] : List (S55))))
theorem spec_l08Moved.mono_l : ∀ k, (∀ y0 y1 y2 y3 y4 y5, LeO (spec_l08Moved.l0 k y0 y1 y2 y3 y4 y5) (spec_l08Moved.l0 (k + 1) y0 y1 y2 y3 y4 y5))
 | 0 => fun _ _ _ _ _ _ r h => by simp [spec_l08Moved.l0] at h
 | k + 1 => by
  have ih0 := spec_l08Moved.mono_l k
  ·intro y0 y1 y2 y3 y4 y5
   unfold spec_l08Moved.l0
   repeat' first
   | (with_reducible exact ih0 _ _ _ _ _ _)
   | (with_reducible exact LeO.refl _)
   | (with_reducible exact LeO.none _)
   | (with_reducible refine LeO.ite ?_ ?_)
   | (with_reducible refine LeO.bind ?_ (fun _ => ?_))
   | exact ih0 _ _ _ _ _ _
   | exact LeO.none _
   | refine LeO.ite ?_ ?_
   | refine LeO.bind ?_ (fun _ => ?_)
theorem spec_l08Moved.mono : ∀ a0 a1 a2 k, LeO (spec_l08Moved.f k a0 a1 a2) (spec_l08Moved.f (k + 1) a0 a1 a2) := by
 intro a0 a1 a2 k
 have ih0 := spec_l08Moved.mono_l k
 unfold spec_l08Moved.f
 repeat' first
   | (with_reducible exact ih0 _ _ _ _ _ _)
   | (with_reducible exact LeO.refl _)
   | (with_reducible exact LeO.none _)
   | (with_reducible refine LeO.ite ?_ ?_)
   | (with_reducible refine LeO.bind ?_ (fun _ => ?_))
   | exact ih0 _ _ _ _ _ _
   | exact LeO.none _
   | refine LeO.ite ?_ ?_
   | refine LeO.bind ?_ (fun _ => ?_)
def spec_l08Moved.T6 : Bool × List (List Nat × List Nat) := (true, [([], []), ([0], [0]), ([], []), ([2], [2]), ([], []), ([4], [4]), ([], []), ([6], [6]), ([], []), ([], []), ([9], [9]), ([8, 10], [8, 10]), ([11], [11]), ([7, 12], [7, 12]), ([], []), ([], []), ([15], [15]), ([14, 16], [14, 16]), ([17], [17]), ([13, 18], [13, 18]), ([3, 5, 19], [3, 5, 19]), ([20], [20]), ([1, 21], [1, 21]), ([0, 1, 2, 3, 4, 5, 6, 7, 8, 9, 10, 11, 12, 13, 14, 15, 16, 17, 18, 19, 20, 21, 22], []), ([23, 22, 22, 0, 1, 2, 3, 4, 5, 6, 7, 8, 9, 10, 11, 12, 13, 14, 15, 16, 17, 18, 19, 20, 21, 22], [22, 23])])
def spec_l08Moved.B6 : List Nat := [0, 1, 0, 4, 0, 16, 0, 64, 0, 0, 512, 1792, 3840, 8128, 0, 0, 32768, 114688, 245760, 524224, 1048572, 2097148, 4194303, 8388607, 16777215]
theorem spec_l08Moved.tab6 : rtab .any (opsOf Try.f63 6) = spec_l08Moved.T6 := by kernel_rfl
theorem spec_l08Moved.bits6 : waitsOk spec_l08Moved.T6.2 spec_l08Moved.B6 = true := by kernel_rfl
set_option maxHeartbeats 8000000 in
set_option maxRecDepth 100000 in
theorem spec_l08Moved.calls (k : Nat) (g : Nat) (s0_0 : List Int) (s0_1 : List (S55)) (A1 : Option Addr) (c1 : Nat) (l1 : List Int) (r1 : List Int) (r2 : List (S55)) (w0 w : World) (hI : IsS36 w0 w g s0_0 s0_1) (hB : Below w0.heap.size w0 w) (hr1 : Kd.C (Kd.int .i64) w A1 l1.length l1) (hc1 : l1.length ≤ c1) (hf1 : ∀ ad, A1 = some ad → 0 < l1.length → ad.block ≠ g) (h : spec_l08Moved.f k s0_0 s0_1 l1 = some (r1, r2)) :
  Calls Try.prog 63 #[.pointer (some ⟨g, 0, none⟩), .slice A1 l1.length c1] w fun e w' => ∃ v0_ v1_ : Value, e = .returned (.agg #[v0_, v1_]) ∧ Kd.R (Kd.int .i64) 2 w' w.heap.size (fun _ => True) v0_ r1 ∧ Kd.R k55 55 w' w.heap.size (fun _ => True) v1_ r2 ∧ IsS36 w0 w' g s0_0 s0_1 ∧ Below w0.heap.size w0 w' ∧ KeepBut w w' g none := by
 have hu36 := Try.underlying36
 have hu55 := Try.underlying55
 have HR1 := Aside0.mk hr1
 have HC1 := Aside0.mk hc1
 clear hr1 hc1
 have HI0 := Aside0.mk hI
 have HK := Aside0.mk (KeepBut.refl w g none)
 have HL := Aside0.mk hB.size
 clear hI
 have HW0 := Aside0.mk hB.size
 have HB := Aside0.mk hB
 clear hB
 have H : ((spec_l00Own.f s0_0).bind fun t320 => (spec_l08Moved.l0 k l1 0 s0_0 s0_1 t320 (([] : List (S55))))) = some (r1, r2) := h
 clear h
 replace H := Option.bind_eq_some_iff.mp H
 obtain ⟨t320, A30, H⟩ := H
 replace H : (spec_l08Moved.l0 k l1 0 s0_0 s0_1 t320 (([] : List (S55)))) = some (r1, r2) := H
 have A3 := Aside0.mk A30
 clear A30
 obtain ⟨y323, hy323⟩ : ∃ y_ : List (S55), y_ = (([] : List (S55))) := ⟨_, rfl⟩
 replace H : (spec_l08Moved.l0 k l1 0 s0_0 s0_1 t320 y323) = some (r1, r2) := by first | (rw [hy323]; with_reducible exact H) | (have H2_ := (Option.bind_some _ _).symm.trans H; rw [hy323]; with_reducible exact H2_) | (have H2_ := (Option.bind_some _ _).symm.trans H; with_reducible exact H2_) | with_reducible exact H | (rw [hy323]; exact H) | exact H
 have Ny323 := Aside0.mk hy323
 clear hy323
 have H' := Aside0.mk H
 clear H
 go_enter Try.func63, Try.ntmps63
 go_wp2_with (first | ((with_reducible refine gate_dst (N := 4) rfl ?_); refine box_event ?hg (N := 4) ?hd (cs := #[.slice none 0 0, .slice none 0 0]) (t := 36) ?hr ?_; (case hd => rfl); (case hg => rfl); (case hr => first | (go_simp; done) | (go_simp; rfl)); intro gb319 hg w4 hbox hb; have n0_ := Aside0.mk (IsS36.below (by repeat (first | (with_reducible first | exact HI0.out | apply IsS36.alloc | apply IsS36.drewN | apply IsS36.drew) | exact HI0.out)) hb); have n1_ := Aside0.mk (KeepBut.trans (by repeat (first | (with_reducible first | exact HK.out | apply KeepBut.set_ | apply keep_drewN | apply keep_drew | apply keep_alloc) | exact HK.out)) (KeepBut.of_below hb g none) (.inl rfl)); have n2_ := Aside0.mk (below_step (by repeat (first | (with_reducible first | exact HB.out | apply below_alloc | apply pw_below_drewN | apply below_drew1 | refine below_set ?_ (IsS36.ge HI0.out)) | exact HB.out)) hb); have n3_ := Aside0.mk (hbox); have n4_ := Aside0.mk ((by rw [hg]; exact (keep_size (w := w) (g := g) (row := none) (by repeat (first | (with_reducible first | exact HK.out | apply KeepBut.set_ | apply keep_drewN | apply keep_drew | apply keep_alloc) | exact HK.out))) : w.heap.size ≤ gb319)); have n5_ := Aside0.mk ((Nat.le_trans HW0.out (by rw [hg]; exact (keep_size (w := w) (g := g) (row := none) (by repeat (first | (with_reducible first | exact HK.out | apply KeepBut.set_ | apply keep_drewN | apply keep_drew | apply keep_alloc) | exact HK.out))) : w.heap.size ≤ gb319) : w0.heap.size ≤ gb319)); have n6_ := Aside0.mk ((by rw [hg]; exact Nat.ne_of_lt (IsS36.lt (show IsS36 w0 _ g s0_0 s0_1 from by repeat (first | (with_reducible first | exact HI0.out | apply IsS36.alloc | apply IsS36.drewN | apply IsS36.drew) | exact HI0.out))) : g ≠ gb319)); have n7_ := Aside0.mk ((by rw [hg]; exact Nat.ne_of_gt (IsS36.lt (show IsS36 w0 _ g s0_0 s0_1 from by repeat (first | (with_reducible first | exact HI0.out | apply IsS36.alloc | apply IsS36.drewN | apply IsS36.drew) | exact HI0.out))) : gb319 ≠ g)); clear HI0; clear HK; clear HB; have HI0 := n0_; have HK := n1_; have HB := n2_; have BK319 := n3_; have GW319 := n4_; have GE319 := n5_; have NB0_319 := n6_; have NB319_0 := n7_; clear n0_ n1_ n2_ n3_ n4_ n5_ n6_ n7_; clear hb hbox hg; obtain ⟨ASz5_0, cSz5_0, ASz5_1, cSz5_1, HGz5, hgz5, HSz5_0, HSz5_1⟩ := HI0.out; have hcz5_0 := cellS36_0 HGz5; have hcz5_1 := cellS36_1 HGz5; clear HGz5 hgz5) | ((with_reducible refine gate_callee (f := 93) rfl ?_); refine goesL_ (some 12) rfl rfl Try.func93 (by kernel_rfl) rfl #[.slice ASz5_0 s0_0.length cSz5_0] rfl (by (try simp only [List.map_toArray, List.map_cons, List.map_nil]); first | done | rfl | (simp only [List.length_drop, List.length_take]; rfl)) ?_; (with_reducible refine (spec_l00Own.calls _ _ s0_0 t320 _ ?side1 ?side2 A3.out).mono ?_); (case side1 => repeat (first | exact Kd.C_below HSz5_0 (by repeat (first | (with_reducible first | exact HB.out | apply below_alloc | apply pw_below_drewN | apply below_drew1 | refine below_set ?_ (IsS36.ge HI0.out) | refine below_set ?_ GE319.out) | exact HB.out)) | (with_reducible refine Kd.C_alloc ?_ _) | (with_reducible refine Kd.C_drewN ?_ _) | (with_reducible refine Kd.C_drew ?_))); (case side2 => first | exact trivial | (fail)); rintro e w6 ⟨v321, rfl, ho0, hb⟩; refine ⟨_, rfl, ?_⟩; have n0_ := Aside0.mk (Kd.R_lower ho0 (keep_size (w := w) (g := g) (row := none) (by repeat (first | (with_reducible first | exact HK.out | apply KeepBut.set_ | apply keep_drewN | apply keep_drew | apply keep_alloc | refine keep_far ?_ GW319.out _) | exact HK.out)))); have n1_ := Aside0.mk (IsS36.below (by repeat (first | (with_reducible first | exact HI0.out | apply IsS36.alloc | apply IsS36.drewN | apply IsS36.drew | refine IsS36.far ?_ NB0_319.out _) | exact HI0.out)) hb); have n2_ := Aside0.mk (blk_below (g := gb319) (o := .cells #[.slice none 0 0, .slice none 0 0] 36 (0, 0)) (by (with_reducible repeat (first | refine blk_drewN ?_ _ | refine blk_drew ?_ | refine blk_alloc ?_ _)); exact BK319.out) hb); have n3_ := Aside0.mk (KeepBut.trans (by repeat (first | (with_reducible first | exact HK.out | apply KeepBut.set_ | apply keep_drewN | apply keep_drew | apply keep_alloc | refine keep_far ?_ GW319.out _) | exact HK.out)) (KeepBut.of_below hb g none) (.inl rfl)); have n4_ := Aside0.mk (below_step (by repeat (first | (with_reducible first | exact HB.out | apply below_alloc | apply pw_below_drewN | apply below_drew1 | refine below_set ?_ (IsS36.ge HI0.out) | refine below_set ?_ GE319.out) | exact HB.out)) hb); clear HI0; clear BK319; clear HK; clear HB; have HO322 := n0_; have HI0 := n1_; have BK319 := n2_; have HK := n3_; have HB := n4_; clear n0_ n1_ n2_ n3_ n4_; (try clear hb); (try clear hb2); (try clear hk); (try clear hi); (try clear ho0)) | ((with_reducible refine gate_dst (N := 13) rfl ?_); refine Kd.R_lit k55 _ 55 ?hg (N := 13) ?hd (xs := ([] : List (S55))) (inner := []) (ok := fun _ => True) (okp := fun _ => True) ?hr ?hp (fun _ hk => hk) trivial (Below.refl _ _) (Nat.le_refl _) (by simp) ?_; (case hd => rfl); (case hg => rfl); (case hr => first | (go_simp; done) | (go_simp; rfl)); (case hp => exact (Reps.none _ _)); intro v324 w7 ho8 hb hg_ hnew_; clear hg_ hnew_; (first | rw [← Ny323.out] at ho8 | (simp only [Int.reduceToNat] at ho8; rw [← Ny323.out] at ho8)); have n0_ := Aside0.mk (Kd.R_below (by (with_reducible repeat (first | apply Kd.R_alloc | apply Kd.R_drewN | apply Kd.R_drew)); exact HO322.out) hb); have n1_ := Aside0.mk (Kd.R_lower ho8 (keep_size (w := w) (g := g) (row := none) (by repeat (first | (with_reducible first | exact HK.out | apply KeepBut.set_ | apply keep_drewN | apply keep_drew | apply keep_alloc | refine keep_far ?_ GW319.out _) | exact HK.out)))); have n2_ := Aside0.mk (IsS36.below (by repeat (first | (with_reducible first | exact HI0.out | apply IsS36.alloc | apply IsS36.drewN | apply IsS36.drew | refine IsS36.far ?_ NB0_319.out _) | exact HI0.out)) hb); have n3_ := Aside0.mk (blk_below (g := gb319) (o := .cells #[.slice none 0 0, .slice none 0 0] 36 (0, 0)) (by (with_reducible repeat (first | refine blk_drewN ?_ _ | refine blk_drew ?_ | refine blk_alloc ?_ _)); exact BK319.out) hb); have n4_ := Aside0.mk (KeepBut.trans (by repeat (first | (with_reducible first | exact HK.out | apply KeepBut.set_ | apply keep_drewN | apply keep_drew | apply keep_alloc | refine keep_far ?_ GW319.out _) | exact HK.out)) (KeepBut.of_below hb g none) (.inl rfl)); have n5_ := Aside0.mk (below_step (by repeat (first | (with_reducible first | exact HB.out | apply below_alloc | apply pw_below_drewN | apply below_drew1 | refine below_set ?_ (IsS36.ge HI0.out) | refine below_set ?_ GE319.out) | exact HB.out)) hb); clear HO322; clear HI0; clear BK319; clear HK; clear HB; have HO322 := n0_; have HO325 := n1_; have HI0 := n2_; have BK319 := n3_; have HK := n4_; have HB := n5_; clear n0_ n1_ n2_ n3_ n4_ n5_; clear hb ho8; obtain ⟨Ao9, co9, eo9⟩ := Kd.R_slice HO325.out; subst eo9; obtain ⟨Ao10, co10, eo10⟩ := Kd.R_slice HO322.out; subst eo10) | ((with_reducible refine gate_dst (N := 5) rfl ?_); refine box_event ?hg (N := 5) ?hd (cs := #[.slice none 0 0, .slice none 0 0]) (t := 36) ?hr ?_; (case hd => rfl); (case hg => rfl); (case hr => first | (go_simp; done) | (go_simp; rfl)); intro gb326 hg w11 hbox hb; have n0_ := Aside0.mk (Kd.R_below (by (with_reducible repeat (first | apply Kd.R_alloc | apply Kd.R_drewN | apply Kd.R_drew)); exact HO322.out) hb); have n1_ := Aside0.mk (Kd.R_below (by (with_reducible repeat (first | apply Kd.R_alloc | apply Kd.R_drewN | apply Kd.R_drew)); exact HO325.out) hb); have n2_ := Aside0.mk (IsS36.below (by repeat (first | (with_reducible first | exact HI0.out | apply IsS36.alloc | apply IsS36.drewN | apply IsS36.drew | refine IsS36.far ?_ NB0_319.out _) | exact HI0.out)) hb); have n3_ := Aside0.mk (blk_below (g := gb319) (o := .cells #[.slice none 0 0, .slice none 0 0] 36 (0, 0)) (by (with_reducible repeat (first | refine blk_drewN ?_ _ | refine blk_drew ?_ | refine blk_alloc ?_ _)); exact BK319.out) hb); have n4_ := Aside0.mk (KeepBut.trans (by repeat (first | (with_reducible first | exact HK.out | apply KeepBut.set_ | apply keep_drewN | apply keep_drew | apply keep_alloc | refine keep_far ?_ GW319.out _) | exact HK.out)) (KeepBut.of_below hb g none) (.inl rfl)); have n5_ := Aside0.mk (below_step (by repeat (first | (with_reducible first | exact HB.out | apply below_alloc | apply pw_below_drewN | apply below_drew1 | refine below_set ?_ (IsS36.ge HI0.out) | refine below_set ?_ GE319.out) | exact HB.out)) hb); have n6_ := Aside0.mk (hbox); have n7_ := Aside0.mk ((by rw [hg]; exact (keep_size (w := w) (g := g) (row := none) (by repeat (first | (with_reducible first | exact HK.out | apply KeepBut.set_ | apply keep_drewN | apply keep_drew | apply keep_alloc | refine keep_far ?_ GW319.out _) | exact HK.out))) : w.heap.size ≤ gb326)); have n8_ := Aside0.mk ((Nat.le_trans HW0.out (by rw [hg]; exact (keep_size (w := w) (g := g) (row := none) (by repeat (first | (with_reducible first | exact HK.out | apply KeepBut.set_ | apply keep_drewN | apply keep_drew | apply keep_alloc | refine keep_far ?_ GW319.out _) | exact HK.out))) : w.heap.size ≤ gb326) : w0.heap.size ≤ gb326)); have n9_ := Aside0.mk ((by rw [hg]; exact Nat.ne_of_lt (blk_lt (g := gb319) (o := .cells #[.slice none 0 0, .slice none 0 0] 36 (0, 0)) (by (with_reducible repeat (first | refine blk_drewN ?_ _ | refine blk_drew ?_ | refine blk_alloc ?_ _)); exact BK319.out)) : gb319 ≠ gb326)); have n10_ := Aside0.mk ((by rw [hg]; exact Nat.ne_of_gt (blk_lt (g := gb319) (o := .cells #[.slice none 0 0, .slice none 0 0] 36 (0, 0)) (by (with_reducible repeat (first | refine blk_drewN ?_ _ | refine blk_drew ?_ | refine blk_alloc ?_ _)); exact BK319.out)) : gb326 ≠ gb319)); have n11_ := Aside0.mk ((by rw [hg]; exact Nat.ne_of_lt (IsS36.lt (show IsS36 w0 _ g s0_0 s0_1 from by repeat (first | (with_reducible first | exact HI0.out | apply IsS36.alloc | apply IsS36.drewN | apply IsS36.drew | refine IsS36.far ?_ NB0_319.out _) | exact HI0.out))) : g ≠ gb326)); have n12_ := Aside0.mk ((by rw [hg]; exact Nat.ne_of_gt (IsS36.lt (show IsS36 w0 _ g s0_0 s0_1 from by repeat (first | (with_reducible first | exact HI0.out | apply IsS36.alloc | apply IsS36.drewN | apply IsS36.drew | refine IsS36.far ?_ NB0_319.out _) | exact HI0.out))) : gb326 ≠ g)); clear HO322; clear HO325; clear HI0; clear BK319; clear HK; clear HB; have HO322 := n0_; have HO325 := n1_; have HI0 := n2_; have BK319 := n3_; have HK := n4_; have HB := n5_; have BK326 := n6_; have GW326 := n7_; have GE326 := n8_; have NB319_326 := n9_; have NB326_319 := n10_; have NB0_326 := n11_; have NB326_0 := n12_; clear n0_ n1_ n2_ n3_ n4_ n5_ n6_ n7_ n8_ n9_ n10_ n11_ n12_; clear hb hbox hg; have hnb12 := NB326_319.out; have hnc12 := NB319_326.out; have hnb13 := NB326_0.out; have hnc13 := NB0_326.out; have hcz14_0 : w11.cell? ⟨gb326, 0, none⟩ = some (.slice none 0 0) := (blk_cell BK326.out 0).trans rfl; have hcz14_1 : w11.cell? ⟨gb326, 1, none⟩ = some (.slice none 0 0) := (blk_cell BK326.out 1).trans rfl; have hfz14_0 := blk_frozen BK326.out 0; have hfz14_1 := blk_frozen BK326.out 1))
 go_loopg [6] k (fun kq v6 w' => ∃ (x6_1 : Int) (x327001_1 : List (S55)) (u327001 : Value), v6 = .int .i64 x6_1 ∧ Aside0 (spec_l08Moved.l0 kq l1 x6_1 s0_0 s0_1 t320 x327001_1 = some (r1, r2)) ∧ Aside0 (kq ≤ k) ∧ Aside0 (Kd.R (Kd.int .i64) 2 w' w.heap.size (fun _ => True) (.slice Ao10 t320.length co10) t320) ∧ Aside0 (Kd.R k55 55 w' w.heap.size (fun _ => True) u327001 x327001_1) ∧ Aside0 (w'.heap[gb319]? = some (.cells #[(.slice none 0 0), (.slice none 0 0)] 36 (0, 0))) ∧ Aside0 (w'.heap[gb326]? = some (.cells #[(.slice Ao10 t320.length co10), u327001] 36 (0, 0))) ∧ Aside0 (IsS36 w0 w' g s0_0 s0_1) ∧ Aside0 (KeepBut w w' g none) ∧ Aside0 (Below w0.heap.size w0 w'))
 case atStart => exact ⟨(0), (y323), (.slice Ao9 y323.length co9), (by first | rfl | (simp; done) | (simp [*]; done)), H', ⟨Nat.le_refl _⟩, ⟨by (with_reducible repeat (first | apply Kd.R_alloc | apply Kd.R_drewN | apply Kd.R_drew)); exact Kd.R_mono (Kd.R_far (p := ⟨gb326, 1, none⟩) (Kd.R_far (p := ⟨gb326, 0, none⟩) (Kd.R_types HO322.out BK326.out (by decide)) (fun _ hk => hk.2) (.slice Ao10 t320.length co10)) (fun _ hk => hk.2) (.slice Ao9 y323.length co9)) (fun _ hk => trivial)⟩, ⟨by (with_reducible repeat (first | apply Kd.R_alloc | apply Kd.R_drewN | apply Kd.R_drew)); exact Kd.R_mono (Kd.R_far (p := ⟨gb326, 1, none⟩) (Kd.R_far (p := ⟨gb326, 0, none⟩) (Kd.R_types HO325.out BK326.out (by decide)) (fun _ hk => hk.2) (.slice Ao10 t320.length co10)) (fun _ hk => hk.2) (.slice Ao9 y323.length co9)) (fun _ hk => trivial)⟩, ⟨by (with_reducible repeat (first | refine blk_drewN ?_ _ | refine blk_drew ?_ | refine blk_alloc ?_ _)); refine blk_far ?_ NB319_326.out _; (with_reducible repeat (first | refine blk_drewN ?_ _ | refine blk_drew ?_ | refine blk_alloc ?_ _)); refine blk_far ?_ NB319_326.out _; (with_reducible repeat (first | refine blk_drewN ?_ _ | refine blk_drew ?_ | refine blk_alloc ?_ _)); exact BK319.out⟩, ⟨by (with_reducible repeat (first | refine blk_drewN ?_ _ | refine blk_drew ?_ | refine blk_alloc ?_ _)); refine blk_put (cs := #[.slice Ao10 t320.length co10, .slice none 0 0]) ?_ 1 _ rfl; (with_reducible repeat (first | refine blk_drewN ?_ _ | refine blk_drew ?_ | refine blk_alloc ?_ _)); refine blk_put (cs := #[.slice none 0 0, .slice none 0 0]) ?_ 0 _ rfl; (with_reducible repeat (first | refine blk_drewN ?_ _ | refine blk_drew ?_ | refine blk_alloc ?_ _)); exact BK326.out⟩, ⟨by repeat (first | (with_reducible first | exact HI0.out | apply IsS36.alloc | apply IsS36.drewN | apply IsS36.drew | refine IsS36.far ?_ NB0_319.out _ | refine IsS36.far ?_ NB0_326.out _) | exact HI0.out)⟩, ⟨by repeat (first | (with_reducible first | exact HK.out | apply KeepBut.set_ | apply keep_drewN | apply keep_drew | apply keep_alloc | refine keep_far ?_ GW319.out _ | refine keep_far ?_ GW326.out _) | exact HK.out)⟩, ⟨by repeat (first | (with_reducible first | exact HB.out | apply below_alloc | apply pw_below_drewN | apply below_drew1 | refine below_set ?_ (IsS36.ge HI0.out) | refine below_set ?_ GE319.out | refine below_set ?_ GE326.out) | exact HB.out)⟩⟩
 case round =>
  clear H'
  try clear c1
  try clear p2
  try clear c6
  try clear c9
  try clear c12
  try clear c13
  try clear hcz14_0
  try clear hcz14_1
  try clear hcz5_0
  try clear hcz5_1
  try clear hfz14_0
  try clear hfz14_1
  obtain ⟨x6_1, x327001_1, u327001, rfl, HA, HK1, HO_327000, HO_327001, BK319, BK326, HI0, HK, HB⟩ := hrel
  cases gk with
  | zero => exact absurd HA.out (by simp [spec_l08Moved.l0])
  | succ k1 =>
   have H := HA.out
   clear HA
   simp only [spec_l08Moved.l0] at H
   by_cases c15 : x6_1 < (s0_1.length : Int)
   ·rw [if_pos c15] at H
    have c15b0 : decide (x6_1 < (s0_1.length : Int)) = true := decide_eq_true c15
    clear c15
    by_cases c16 : 0 ≤ x6_1
    ·rw [if_pos c16] at H
     have c16b0 : decide (0 ≤ x6_1) = true := decide_eq_true c16
     clear c16
     by_cases c17 : 0 ≤ ((rd_T55 s0_1 x6_1).f1)
     ·rw [if_pos c17] at H
      have c17b0 : decide (0 ≤ ((rd_T55 s0_1 x6_1).f1)) = true := decide_eq_true c17
      clear c17
      by_cases c18 : ((rd_T55 s0_1 x6_1).f1) < (l1.length : Int)
      ·rw [if_pos c18] at H
       have c18b0 : decide (((rd_T55 s0_1 x6_1).f1) < (l1.length : Int)) = true := decide_eq_true c18
       clear c18
       by_cases c19 : 0 ≤ ((rd_T55 s0_1 x6_1).f0)
       ·rw [if_pos c19] at H
        have c19b0 : decide (0 ≤ ((rd_T55 s0_1 x6_1).f0)) = true := decide_eq_true c19
        clear c19
        by_cases c20 : ((rd_T55 s0_1 x6_1).f0) < (l1.length : Int)
        ·rw [if_pos c20] at H
         have c20b0 : decide (((rd_T55 s0_1 x6_1).f0) < (l1.length : Int)) = true := decide_eq_true c20
         clear c20
         by_cases c21 : x327001_1.length < 5864062014805
         ·rw [if_pos c21] at H
          have LMc21 := Aside0.mk c21
          clear c21
          obtain ⟨y331, hy331⟩ : ∃ y_ : List (S55), y_ = (x327001_1 ++ [(⟨(rd_T55 s0_1 x6_1).f0, (rd_T55 s0_1 x6_1).f1, wrap64 ((wrap64 (((rd_T55 s0_1 x6_1).f2) + (rd l1 ((rd_T55 s0_1 x6_1).f1)))) - (rd l1 ((rd_T55 s0_1 x6_1).f0)))⟩ : S55)]) := ⟨_, rfl⟩
          replace H : (spec_l08Moved.l0 k1 l1 (wrap64 (x6_1 + 1)) s0_0 s0_1 t320 y331) = some (r1, r2) := by first | (rw [hy331]; with_reducible exact H) | (have H2_ := (Option.bind_some _ _).symm.trans H; rw [hy331]; with_reducible exact H2_) | (have H2_ := (Option.bind_some _ _).symm.trans H; with_reducible exact H2_) | with_reducible exact H | (rw [hy331]; exact H) | exact H
          have Ny331 := Aside0.mk hy331
          clear hy331
          have H' := Aside0.mk H
          clear H
          obtain ⟨ASz22_0, cSz22_0, ASz22_1, cSz22_1, HGz22, hgz22, HSz22_0, HSz22_1⟩ := HI0.out
          have hcz22_0 := cellS36_0 HGz22
          have hcz22_1 := cellS36_1 HGz22
          clear HGz22 hgz22
          have p327 : 0 ≤ (x6_1 : Int) := of_decide_eq_true (by first | (with_reducible assumption) | assumption)
          have q327 : x6_1 < (s0_1.length : Int) := of_decide_eq_true (by first | (with_reducible assumption) | assumption)
          obtain ⟨ad327, e327, hx327_0, hx327_1, hx327_2⟩ := at_T55 HSz22_1 x6_1 p327 q327
          cases e327
          replace hx327_0 := pw_cell_below HB.out hx327_0
          replace hx327_1 := pw_cell_below HB.out hx327_1
          replace hx327_2 := pw_cell_below HB.out hx327_2
          replace p327 := eq_true p327
          replace q327 := eq_true q327
          try go_wp2_with (first | ((with_reducible refine gate_dst (N := 7) rfl ?_); refine box_event ?hg (N := 7) ?hd (cs := #[.int .i64 0, .int .i64 0, .int .i64 0]) (t := 55) ?hr ?_; (case hd => rfl); (case hg => rfl); (case hr => first | (go_simp; done) | (go_simp; rfl)); intro gb328 hg w23 hbox hb; have n0_ := Aside0.mk (Kd.R_below (by (with_reducible repeat (first | apply Kd.R_alloc | apply Kd.R_drewN | apply Kd.R_drew)); exact HO_327000.out) hb); have n1_ := Aside0.mk (Kd.R_below (Kd.R_elderB (by (with_reducible repeat (first | apply Kd.R_alloc | apply Kd.R_drewN | apply Kd.R_drew)); exact HO_327001.out) gb328 (Nat.le_of_eq hg.symm)) hb); have n2_ := Aside0.mk (blk_below (g := gb319) (o := .cells #[.slice none 0 0, .slice none 0 0] 36 (0, 0)) (by (with_reducible repeat (first | refine blk_drewN ?_ _ | refine blk_drew ?_ | refine blk_alloc ?_ _)); exact BK319.out) hb); have n3_ := Aside0.mk (blk_below (g := gb326) (o := .cells #[.slice Ao10 t320.length co10, u327001] 36 (0, 0)) (by (with_reducible repeat (first | refine blk_drewN ?_ _ | refine blk_drew ?_ | refine blk_alloc ?_ _)); exact BK326.out) hb); have n4_ := Aside0.mk (IsS36.below (by repeat (first | (with_reducible first | exact HI0.out | apply IsS36.alloc | apply IsS36.drewN | apply IsS36.drew | refine IsS36.far ?_ NB0_319.out _ | refine IsS36.far ?_ NB0_326.out _) | exact HI0.out)) hb); have n5_ := Aside0.mk (KeepBut.trans (by repeat (first | (with_reducible first | exact HK.out | apply KeepBut.set_ | apply keep_drewN | apply keep_drew | apply keep_alloc | refine keep_far ?_ GW319.out _ | refine keep_far ?_ GW326.out _) | exact HK.out)) (KeepBut.of_below hb g none) (.inl rfl)); have n6_ := Aside0.mk (below_step (by repeat (first | (with_reducible first | exact HB.out | apply below_alloc | apply pw_below_drewN | apply below_drew1 | refine below_set ?_ (IsS36.ge HI0.out) | refine below_set ?_ GE319.out | refine below_set ?_ GE326.out) | exact HB.out)) hb); have n7_ := Aside0.mk (hbox); have n8_ := Aside0.mk ((by rw [hg]; exact (keep_size (w := w) (g := g) (row := none) (by repeat (first | (with_reducible first | exact HK.out | apply KeepBut.set_ | apply keep_drewN | apply keep_drew | apply keep_alloc | refine keep_far ?_ GW319.out _ | refine keep_far ?_ GW326.out _) | exact HK.out))) : w.heap.size ≤ gb328)); have n9_ := Aside0.mk ((Nat.le_trans HW0.out (by rw [hg]; exact (keep_size (w := w) (g := g) (row := none) (by repeat (first | (with_reducible first | exact HK.out | apply KeepBut.set_ | apply keep_drewN | apply keep_drew | apply keep_alloc | refine keep_far ?_ GW319.out _ | refine keep_far ?_ GW326.out _) | exact HK.out))) : w.heap.size ≤ gb328) : w0.heap.size ≤ gb328)); have n10_ := Aside0.mk ((by rw [hg]; exact Nat.ne_of_lt (blk_lt (g := gb319) (o := .cells #[.slice none 0 0, .slice none 0 0] 36 (0, 0)) (by (with_reducible repeat (first | refine blk_drewN ?_ _ | refine blk_drew ?_ | refine blk_alloc ?_ _)); exact BK319.out)) : gb319 ≠ gb328)); have n11_ := Aside0.mk ((by rw [hg]; exact Nat.ne_of_gt (blk_lt (g := gb319) (o := .cells #[.slice none 0 0, .slice none 0 0] 36 (0, 0)) (by (with_reducible repeat (first | refine blk_drewN ?_ _ | refine blk_drew ?_ | refine blk_alloc ?_ _)); exact BK319.out)) : gb328 ≠ gb319)); have n12_ := Aside0.mk ((by rw [hg]; exact Nat.ne_of_lt (blk_lt (g := gb326) (o := .cells #[.slice Ao10 t320.length co10, u327001] 36 (0, 0)) (by (with_reducible repeat (first | refine blk_drewN ?_ _ | refine blk_drew ?_ | refine blk_alloc ?_ _)); exact BK326.out)) : gb326 ≠ gb328)); have n13_ := Aside0.mk ((by rw [hg]; exact Nat.ne_of_gt (blk_lt (g := gb326) (o := .cells #[.slice Ao10 t320.length co10, u327001] 36 (0, 0)) (by (with_reducible repeat (first | refine blk_drewN ?_ _ | refine blk_drew ?_ | refine blk_alloc ?_ _)); exact BK326.out)) : gb328 ≠ gb326)); have n14_ := Aside0.mk ((by rw [hg]; exact Nat.ne_of_lt (IsS36.lt (show IsS36 w0 _ g s0_0 s0_1 from by repeat (first | (with_reducible first | exact HI0.out | apply IsS36.alloc | apply IsS36.drewN | apply IsS36.drew | refine IsS36.far ?_ NB0_319.out _ | refine IsS36.far ?_ NB0_326.out _) | exact HI0.out))) : g ≠ gb328)); have n15_ := Aside0.mk ((by rw [hg]; exact Nat.ne_of_gt (IsS36.lt (show IsS36 w0 _ g s0_0 s0_1 from by repeat (first | (with_reducible first | exact HI0.out | apply IsS36.alloc | apply IsS36.drewN | apply IsS36.drew | refine IsS36.far ?_ NB0_319.out _ | refine IsS36.far ?_ NB0_326.out _) | exact HI0.out))) : gb328 ≠ g)); clear HO_327000; clear HO_327001; clear BK319; clear BK326; clear HI0; clear HK; clear HB; have HO_327000 := n0_; have HO_327001 := n1_; have BK319 := n2_; have BK326 := n3_; have HI0 := n4_; have HK := n5_; have HB := n6_; have BK328 := n7_; have GW328 := n8_; have GE328 := n9_; have NB319_328 := n10_; have NB328_319 := n11_; have NB326_328 := n12_; have NB328_326 := n13_; have NB0_328 := n14_; have NB328_0 := n15_; clear n0_ n1_ n2_ n3_ n4_ n5_ n6_ n7_ n8_ n9_ n10_ n11_ n12_ n13_ n14_ n15_; clear hb hbox hg; have hnb24 := NB328_319.out; have hnc24 := NB319_328.out; have hnb25 := NB328_326.out; have hnc25 := NB326_328.out; have hnb26 := NB328_0.out; have hnc26 := NB0_328.out; have hcz27_0 : w23.cell? ⟨gb328, 0, none⟩ = some (.int .i64 0) := (blk_cell BK328.out 0).trans rfl; have hcz27_1 : w23.cell? ⟨gb328, 1, none⟩ = some (.int .i64 0) := (blk_cell BK328.out 1).trans rfl; have hcz27_2 : w23.cell? ⟨gb328, 2, none⟩ = some (.int .i64 0) := (blk_cell BK328.out 2).trans rfl; have hfz27_0 := blk_frozen BK328.out 0; have hfz27_1 := blk_frozen BK328.out 1; have hfz27_2 := blk_frozen BK328.out 2))
          have n0_ : Aside0 (Kd.R (Kd.int .i64) 2 (((w23.setCell ⟨gb328, 0, none⟩ (.int .i64 ((rd_T55 s0_1 x6_1).f0))).setCell ⟨gb328, 1, none⟩ (.int .i64 ((rd_T55 s0_1 x6_1).f1))).setCell ⟨gb328, 2, none⟩ (.int .i64 ((rd_T55 s0_1 x6_1).f2))) w.heap.size (fun _ => True) (.slice Ao10 t320.length co10) t320) := ⟨by (with_reducible repeat (first | apply Kd.R_alloc | apply Kd.R_drewN | apply Kd.R_drew)); exact Kd.R_mono (Kd.R_far (p := ⟨gb328, 2, none⟩) (Kd.R_far (p := ⟨gb328, 1, none⟩) (Kd.R_far (p := ⟨gb328, 0, none⟩) (Kd.R_types HO_327000.out BK328.out (by decide)) (fun _ hk => hk.2) (.int .i64 ((rd_T55 s0_1 x6_1).f0))) (fun _ hk => hk.2) (.int .i64 ((rd_T55 s0_1 x6_1).f1))) (fun _ hk => hk.2) (.int .i64 ((rd_T55 s0_1 x6_1).f2))) (fun _ hk => trivial)⟩
          have n1_ : Aside0 (Kd.R k55 55 (((w23.setCell ⟨gb328, 0, none⟩ (.int .i64 ((rd_T55 s0_1 x6_1).f0))).setCell ⟨gb328, 1, none⟩ (.int .i64 ((rd_T55 s0_1 x6_1).f1))).setCell ⟨gb328, 2, none⟩ (.int .i64 ((rd_T55 s0_1 x6_1).f2))) w.heap.size (fun k_ => k_ ≠ gb328) u327001 x327001_1) := ⟨by (with_reducible repeat (first | apply Kd.R_alloc | apply Kd.R_drewN | apply Kd.R_drew)); exact Kd.R_mono (Kd.R_far (p := ⟨gb328, 2, none⟩) (Kd.R_far (p := ⟨gb328, 1, none⟩) (Kd.R_far (p := ⟨gb328, 0, none⟩) (Kd.R_mono HO_327001.out (fun k_ hk => (⟨hk, hk.2⟩ : _ ∧ k_ ≠ gb328))) (fun _ hk => hk.2) (.int .i64 ((rd_T55 s0_1 x6_1).f0))) (fun _ hk => hk.2) (.int .i64 ((rd_T55 s0_1 x6_1).f1))) (fun _ hk => hk.2) (.int .i64 ((rd_T55 s0_1 x6_1).f2))) (fun _ hk => hk.1.2)⟩
          have n2_ : Aside0 ((((w23.setCell ⟨gb328, 0, none⟩ (.int .i64 ((rd_T55 s0_1 x6_1).f0))).setCell ⟨gb328, 1, none⟩ (.int .i64 ((rd_T55 s0_1 x6_1).f1))).setCell ⟨gb328, 2, none⟩ (.int .i64 ((rd_T55 s0_1 x6_1).f2))).heap[gb319]? = some (.cells #[.slice none 0 0, .slice none 0 0] 36 (0, 0))) := ⟨by (with_reducible repeat (first | refine blk_drewN ?_ _ | refine blk_drew ?_ | refine blk_alloc ?_ _)); refine blk_far ?_ NB319_328.out _; (with_reducible repeat (first | refine blk_drewN ?_ _ | refine blk_drew ?_ | refine blk_alloc ?_ _)); refine blk_far ?_ NB319_328.out _; (with_reducible repeat (first | refine blk_drewN ?_ _ | refine blk_drew ?_ | refine blk_alloc ?_ _)); refine blk_far ?_ NB319_328.out _; (with_reducible repeat (first | refine blk_drewN ?_ _ | refine blk_drew ?_ | refine blk_alloc ?_ _)); exact BK319.out⟩
          have n3_ : Aside0 ((((w23.setCell ⟨gb328, 0, none⟩ (.int .i64 ((rd_T55 s0_1 x6_1).f0))).setCell ⟨gb328, 1, none⟩ (.int .i64 ((rd_T55 s0_1 x6_1).f1))).setCell ⟨gb328, 2, none⟩ (.int .i64 ((rd_T55 s0_1 x6_1).f2))).heap[gb326]? = some (.cells #[.slice Ao10 t320.length co10, u327001] 36 (0, 0))) := ⟨by (with_reducible repeat (first | refine blk_drewN ?_ _ | refine blk_drew ?_ | refine blk_alloc ?_ _)); refine blk_far ?_ NB326_328.out _; (with_reducible repeat (first | refine blk_drewN ?_ _ | refine blk_drew ?_ | refine blk_alloc ?_ _)); refine blk_far ?_ NB326_328.out _; (with_reducible repeat (first | refine blk_drewN ?_ _ | refine blk_drew ?_ | refine blk_alloc ?_ _)); refine blk_far ?_ NB326_328.out _; (with_reducible repeat (first | refine blk_drewN ?_ _ | refine blk_drew ?_ | refine blk_alloc ?_ _)); exact BK326.out⟩
          have n4_ : Aside0 ((((w23.setCell ⟨gb328, 0, none⟩ (.int .i64 ((rd_T55 s0_1 x6_1).f0))).setCell ⟨gb328, 1, none⟩ (.int .i64 ((rd_T55 s0_1 x6_1).f1))).setCell ⟨gb328, 2, none⟩ (.int .i64 ((rd_T55 s0_1 x6_1).f2))).heap[gb328]? = some (.cells #[.int .i64 ((rd_T55 s0_1 x6_1).f0), .int .i64 ((rd_T55 s0_1 x6_1).f1), .int .i64 ((rd_T55 s0_1 x6_1).f2)] 55 (0, 0))) := ⟨by (with_reducible repeat (first | refine blk_drewN ?_ _ | refine blk_drew ?_ | refine blk_alloc ?_ _)); refine blk_put (cs := #[.int .i64 ((rd_T55 s0_1 x6_1).f0), .int .i64 ((rd_T55 s0_1 x6_1).f1), .int .i64 0]) ?_ 2 _ rfl; (with_reducible repeat (first | refine blk_drewN ?_ _ | refine blk_drew ?_ | refine blk_alloc ?_ _)); refine blk_put (cs := #[.int .i64 ((rd_T55 s0_1 x6_1).f0), .int .i64 0, .int .i64 0]) ?_ 1 _ rfl; (with_reducible repeat (first | refine blk_drewN ?_ _ | refine blk_drew ?_ | refine blk_alloc ?_ _)); refine blk_put (cs := #[.int .i64 0, .int .i64 0, .int .i64 0]) ?_ 0 _ rfl; (with_reducible repeat (first | refine blk_drewN ?_ _ | refine blk_drew ?_ | refine blk_alloc ?_ _)); exact BK328.out⟩
          have n5_ : Aside0 (IsS36 w0 (((w23.setCell ⟨gb328, 0, none⟩ (.int .i64 ((rd_T55 s0_1 x6_1).f0))).setCell ⟨gb328, 1, none⟩ (.int .i64 ((rd_T55 s0_1 x6_1).f1))).setCell ⟨gb328, 2, none⟩ (.int .i64 ((rd_T55 s0_1 x6_1).f2))) g s0_0 s0_1) := ⟨by repeat (first | (with_reducible first | exact HI0.out | apply IsS36.alloc | apply IsS36.drewN | apply IsS36.drew | refine IsS36.far ?_ NB0_319.out _ | refine IsS36.far ?_ NB0_326.out _ | refine IsS36.far ?_ NB0_328.out _) | exact HI0.out)⟩
          have n6_ : Aside0 (KeepBut w (((w23.setCell ⟨gb328, 0, none⟩ (.int .i64 ((rd_T55 s0_1 x6_1).f0))).setCell ⟨gb328, 1, none⟩ (.int .i64 ((rd_T55 s0_1 x6_1).f1))).setCell ⟨gb328, 2, none⟩ (.int .i64 ((rd_T55 s0_1 x6_1).f2))) g none) := ⟨by repeat (first | (with_reducible first | exact HK.out | apply KeepBut.set_ | apply keep_drewN | apply keep_drew | apply keep_alloc | refine keep_far ?_ GW319.out _ | refine keep_far ?_ GW326.out _ | refine keep_far ?_ GW328.out _) | exact HK.out)⟩
          have n7_ : Aside0 (Below w0.heap.size w0 (((w23.setCell ⟨gb328, 0, none⟩ (.int .i64 ((rd_T55 s0_1 x6_1).f0))).setCell ⟨gb328, 1, none⟩ (.int .i64 ((rd_T55 s0_1 x6_1).f1))).setCell ⟨gb328, 2, none⟩ (.int .i64 ((rd_T55 s0_1 x6_1).f2)))) := ⟨by repeat (first | (with_reducible first | exact HB.out | apply below_alloc | apply pw_below_drewN | apply below_drew1 | refine below_set ?_ (IsS36.ge HI0.out) | refine below_set ?_ GE319.out | refine below_set ?_ GE326.out | refine below_set ?_ GE328.out) | exact HB.out)⟩
          (try clear HO_327000)
          (try clear HO_327001)
          (try clear BK319)
          (try clear BK326)
          (try clear BK328)
          (try clear HI0)
          (try clear HK)
          (try clear HB)
          generalize (((w23.setCell ⟨gb328, 0, none⟩ (.int .i64 ((rd_T55 s0_1 x6_1).f0))).setCell ⟨gb328, 1, none⟩ (.int .i64 ((rd_T55 s0_1 x6_1).f1))).setCell ⟨gb328, 2, none⟩ (.int .i64 ((rd_T55 s0_1 x6_1).f2))) = w28 at n0_ n1_ n2_ n3_ n4_ n5_ n6_ n7_ ⊢
          have HO_327000 := n0_
          have HO_327001 := n1_
          have BK319 := n2_
          have BK326 := n3_
          have BK328 := n4_
          have HI0 := n5_
          have HK := n6_
          have HB := n7_
          clear n0_ n1_ n2_ n3_ n4_ n5_ n6_ n7_
          have n0_ := Aside0.mk (Kd.R_drew HO_327000.out)
          have n1_ := Aside0.mk (Kd.R_drew HO_327001.out)
          have n2_ := Aside0.mk (blk_drew BK319.out)
          have n3_ := Aside0.mk (blk_drew BK326.out)
          have n4_ := Aside0.mk (blk_drew BK328.out)
          have n5_ := Aside0.mk (IsS36.drew HI0.out)
          have n6_ := Aside0.mk (keep_drew HK.out)
          have n7_ := Aside0.mk (below_drew1 HB.out)
          clear HO_327000
          clear HO_327001
          clear BK319
          clear BK326
          clear BK328
          clear HI0
          clear HK
          clear HB
          have HO_327000 := n0_
          have HO_327001 := n1_
          have BK319 := n2_
          have BK326 := n3_
          have BK328 := n4_
          have HI0 := n5_
          have HK := n6_
          have HB := n7_
          clear n0_ n1_ n2_ n3_ n4_ n5_ n6_ n7_
          have p329 : 0 ≤ (((rd_T55 s0_1 x6_1).f1) : Int) := of_decide_eq_true (by first | (with_reducible assumption) | assumption)
          have q329 : ((rd_T55 s0_1 x6_1).f1) < (l1.length : Int) := of_decide_eq_true (by first | (with_reducible assumption) | assumption)
          obtain ⟨ad329, e329, hx329_0⟩ := Kd.at_int HR1.out ((rd_T55 s0_1 x6_1).f1) p329 q329
          have hw329_0 := hx329_0
          cases e329
          have hne329_0 := (show ((ad329.add (((rd_T55 s0_1 x6_1).f1)).toNat) : Addr).block ≠ g from by first | (rw [add_block]; exact hf1 ad329 rfl (by omega)) | (show (Addr.add _ _).block ≠ _; rw [add_block]; exact hf1 ad329 rfl (by omega)) | exact hf1 ad329 rfl (by omega))
          replace hx329_0 := keep_cell HK.out hx329_0 (by first | (rw [add_block]; exact hf1 _ rfl (by omega)) | exact hf1 _ rfl (by omega) | exact hf1 ad329 rfl (by omega))
          replace p329 := eq_true p329
          replace q329 := eq_true q329
          have p330 : 0 ≤ (((rd_T55 s0_1 x6_1).f0) : Int) := of_decide_eq_true (by first | (with_reducible assumption) | assumption)
          have q330 : ((rd_T55 s0_1 x6_1).f0) < (l1.length : Int) := of_decide_eq_true (by first | (with_reducible assumption) | assumption)
          obtain ⟨ad330, e330, hx330_0⟩ := Kd.at_int HR1.out ((rd_T55 s0_1 x6_1).f0) p330 q330
          have hw330_0 := hx330_0
          obtain rfl : ad329 = ad330 := (by injection e330)
          have hne330_0 := (show ((ad329.add (((rd_T55 s0_1 x6_1).f0)).toNat) : Addr).block ≠ g from by first | (rw [add_block]; exact hf1 ad329 rfl (by omega)) | (show (Addr.add _ _).block ≠ _; rw [add_block]; exact hf1 ad329 rfl (by omega)) | exact hf1 ad329 rfl (by omega))
          replace hx330_0 := keep_cell HK.out hx330_0 (by first | (rw [add_block]; exact hf1 _ rfl (by omega)) | exact hf1 _ rfl (by omega) | exact hf1 ad329 rfl (by omega))
          replace p330 := eq_true p330
          replace q330 := eq_true q330
          refine start_ (n := 25) (S := fun w' => w'.cell? ⟨gb326, 0, none⟩ = some (.slice Ao10 t320.length co10) ∧ w'.cell? ⟨gb326, 1, none⟩ = some (u327001) ∧ w'.cell? ⟨gb328, 0, none⟩ = some (.int .i64 ((rd_T55 s0_1 x6_1).f0)) ∧ w'.cell? ⟨gb328, 1, none⟩ = some (.int .i64 ((rd_T55 s0_1 x6_1).f1)) ∧ w'.cell? ⟨gb328, 2, none⟩ = some (.int .i64 ((rd_T55 s0_1 x6_1).f2)) ∧ w'.cell? (ad329.add (((rd_T55 s0_1 x6_1).f1)).toNat) = some (.int .i64 (rd l1 ((rd_T55 s0_1 x6_1).f1))) ∧ w'.cell? (ad329.add (((rd_T55 s0_1 x6_1).f0)).toNat) = some (.int .i64 (rd l1 ((rd_T55 s0_1 x6_1).f0)))) (ds := [24]) #[false, false, false, false, false, false, false, false, false, false, false, false, false, false, false, false, false, false, false, false, false, false, false, false, false] (by kernel_rfl) rfl rfl ⟨(blk_cell BK326.out 0).trans rfl, (blk_cell BK326.out 1).trans rfl, (blk_cell BK328.out 0).trans rfl, (blk_cell BK328.out 1).trans rfl, (blk_cell BK328.out 2).trans rfl, (keep_cell HK.out hw329_0 hne329_0), (keep_cell HK.out hw330_0 hne330_0)⟩ (fun hHeld => ?_); refine with_tabW spec_l08Moved.tab6 spec_l08Moved.bits6 (fun HT_ HW_ => ?_)
          generalize w28.drew = w29 at HO_327000 HO_327001 BK319 BK326 BK328 HI0 HK HB hx329_0 hx330_0 hHeld ⊢
          refine pure_ (i := 0) (N := some 31) (v := ?_) (a' := ?_) #[true, false, false, false, false, false, false, false, false, false, false, false, false, false, false, false, false, false, false, false, false, false, false, false, false] rfl rfl (any_of HT_.out (by kernel_rfl)) (fun _ _ _ h => h) (Or.inl ⟨by rfl, ?_⟩) ?_ ?_
          rotate_left
          ·intro w'
           go_simp
           with_reducible rfl
          rotate_left
          ·simp only [Act.put, List.setIfInBounds_toArray, List.set_cons_zero, List.set_cons_succ, i64_w, i32_w]
           rfl
          refine pure_ (i := 2) (N := some 33) (v := ?_) (a' := ?_) #[true, false, true, false, false, false, false, false, false, false, false, false, false, false, false, false, false, false, false, false, false, false, false, false, false] rfl rfl (any_of HT_.out (by kernel_rfl)) (fun _ _ _ h => h) (Or.inl ⟨by rfl, ?_⟩) ?_ ?_
          rotate_left
          ·intro w'
           go_simp
           with_reducible rfl
          rotate_left
          ·simp only [Act.put, List.setIfInBounds_toArray, List.set_cons_zero, List.set_cons_succ, i64_w, i32_w]
           rfl
          refine pure_ (i := 4) (N := some 35) (v := ?_) (a' := ?_) #[true, false, true, false, true, false, false, false, false, false, false, false, false, false, false, false, false, false, false, false, false, false, false, false, false] rfl rfl (any_of HT_.out (by kernel_rfl)) (fun _ _ _ h => h) (Or.inl ⟨by rfl, ?_⟩) ?_ ?_
          rotate_left
          ·intro w'
           go_simp
           with_reducible rfl
          rotate_left
          ·simp only [Act.put, List.setIfInBounds_toArray, List.set_cons_zero, List.set_cons_succ, i64_w, i32_w]
           rfl
          refine pure_ (i := 6) (N := some 37) (v := ?_) (a' := ?_) #[true, false, true, false, true, false, true, false, false, false, false, false, false, false, false, false, false, false, false, false, false, false, false, false, false] rfl rfl (any_of HT_.out (by kernel_rfl)) (fun _ _ _ h => h) (Or.inl ⟨by rfl, ?_⟩) ?_ ?_
          rotate_left
          ·intro w'
           go_simp
           with_reducible rfl
          rotate_left
          ·simp only [Act.put, List.setIfInBounds_toArray, List.set_cons_zero, List.set_cons_succ, i64_w, i32_w]
           rfl
          refine pure_ (i := 8) (N := some 39) (v := ?_) (a' := ?_) #[true, false, true, false, true, false, true, false, true, false, false, false, false, false, false, false, false, false, false, false, false, false, false, false, false] rfl rfl (any_of HT_.out (by kernel_rfl)) (fun _ _ _ h => h) (Or.inl ⟨by rfl, ?_⟩) ?_ ?_
          rotate_left
          ·intro w'
           go_simp
           with_reducible rfl
          rotate_left
          ·simp only [Act.put, List.setIfInBounds_toArray, List.set_cons_zero, List.set_cons_succ, i64_w, i32_w]
           rfl
          refine pure_ (i := 9) (N := some 40) (v := ?_) (a' := ?_) #[true, false, true, false, true, false, true, false, true, true, false, false, false, false, false, false, false, false, false, false, false, false, false, false, false] rfl rfl (any_of HT_.out (by kernel_rfl)) (fun _ _ _ h => h) (Or.inl ⟨by rfl, ?_⟩) ?_ ?_
          rotate_left
          ·intro w'
           go_simp
           with_reducible rfl
          rotate_left
          ·simp only [Act.put, List.setIfInBounds_toArray, List.set_cons_zero, List.set_cons_succ, i64_w, i32_w]
           rfl
          refine pure_ (i := 14) (N := some 45) (v := ?_) (a' := ?_) #[true, false, true, false, true, false, true, false, true, true, false, false, false, false, true, false, false, false, false, false, false, false, false, false, false] rfl rfl (any_of HT_.out (by kernel_rfl)) (fun _ _ _ h => h) (Or.inl ⟨by rfl, ?_⟩) ?_ ?_
          rotate_left
          ·intro w'
           go_simp
           with_reducible rfl
          rotate_left
          ·simp only [Act.put, List.setIfInBounds_toArray, List.set_cons_zero, List.set_cons_succ, i64_w, i32_w]
           rfl
          refine pure_ (i := 15) (N := some 46) (v := ?_) (a' := ?_) #[true, false, true, false, true, false, true, false, true, true, false, false, false, false, true, true, false, false, false, false, false, false, false, false, false] rfl rfl (any_of HT_.out (by kernel_rfl)) (fun _ _ _ h => h) (Or.inl ⟨by rfl, ?_⟩) ?_ ?_
          rotate_left
          ·intro w'
           go_simp
           with_reducible rfl
          rotate_left
          ·simp only [Act.put, List.setIfInBounds_toArray, List.set_cons_zero, List.set_cons_succ, i64_w, i32_w]
           rfl
          refine take_ (i := 1) (N := some 32) (v := ?_) (a' := ?_) #[true, true, true, false, true, false, true, false, true, true, false, false, false, false, true, true, false, false, false, false, false, false, false, false, false] rfl rfl (take_ofW HT_.out HW_.out (by kernel_rfl)) (fun _ _ _ h => h) (Or.inl ⟨by rfl, ?_⟩) hHeld ?_ ?_
          rotate_left
          ·rintro w' ⟨s0, s1, s2, s3, s4, s5, s6⟩
           go_simp
           with_reducible rfl
          rotate_left
          ·simp only [Act.put, List.setIfInBounds_toArray, List.set_cons_zero, List.set_cons_succ, i64_w, i32_w]
           rfl
          refine take_ (i := 3) (N := some 34) (v := ?_) (a' := ?_) #[true, true, true, true, true, false, true, false, true, true, false, false, false, false, true, true, false, false, false, false, false, false, false, false, false] rfl rfl (take_ofW HT_.out HW_.out (by kernel_rfl)) (fun _ _ _ h => h) (Or.inl ⟨by rfl, ?_⟩) hHeld ?_ ?_
          rotate_left
          ·rintro w' ⟨s0, s1, s2, s3, s4, s5, s6⟩
           go_simp
           with_reducible rfl
          rotate_left
          ·simp only [Act.put, List.setIfInBounds_toArray, List.set_cons_zero, List.set_cons_succ, i64_w, i32_w]
           rfl
          refine take_ (i := 5) (N := some 36) (v := ?_) (a' := ?_) #[true, true, true, true, true, true, true, false, true, true, false, false, false, false, true, true, false, false, false, false, false, false, false, false, false] rfl rfl (take_ofW HT_.out HW_.out (by kernel_rfl)) (fun _ _ _ h => h) (Or.inl ⟨by rfl, ?_⟩) hHeld ?_ ?_
          rotate_left
          ·rintro w' ⟨s0, s1, s2, s3, s4, s5, s6⟩
           go_simp
           with_reducible rfl
          rotate_left
          ·simp only [Act.put, List.setIfInBounds_toArray, List.set_cons_zero, List.set_cons_succ, i64_w, i32_w]
           rfl
          refine take_ (i := 7) (N := some 38) (v := ?_) (a' := ?_) #[true, true, true, true, true, true, true, true, true, true, false, false, false, false, true, true, false, false, false, false, false, false, false, false, false] rfl rfl (take_ofW HT_.out HW_.out (by kernel_rfl)) (fun _ _ _ h => h) (Or.inl ⟨by rfl, ?_⟩) hHeld ?_ ?_
          rotate_left
          ·rintro w' ⟨s0, s1, s2, s3, s4, s5, s6⟩
           go_simp
           with_reducible rfl
          rotate_left
          ·simp only [Act.put, List.setIfInBounds_toArray, List.set_cons_zero, List.set_cons_succ, i64_w, i32_w]
           rfl
          refine take_ (i := 10) (N := some 41) (v := ?_) (a' := ?_) #[true, true, true, true, true, true, true, true, true, true, true, false, false, false, true, true, false, false, false, false, false, false, false, false, false] rfl rfl (take_ofW HT_.out HW_.out (by kernel_rfl)) (fun _ _ _ h => h) (Or.inl ⟨by rfl, ?_⟩) hHeld ?_ ?_
          rotate_left
          ·rintro w' ⟨s0, s1, s2, s3, s4, s5, s6⟩
           go_simp
           with_reducible rfl
          rotate_left
          ·simp only [Act.put, List.setIfInBounds_toArray, List.set_cons_zero, List.set_cons_succ, i64_w, i32_w]
           rfl
          refine pure_ (i := 11) (N := some 42) (v := ?_) (a' := ?_) #[true, true, true, true, true, true, true, true, true, true, true, true, false, false, true, true, false, false, false, false, false, false, false, false, false] rfl rfl (any_of HT_.out (by kernel_rfl)) (fun _ _ _ h => h) (Or.inl ⟨by rfl, ?_⟩) ?_ ?_
          rotate_left
          ·intro w'
           go_simp
           with_reducible rfl
          rotate_left
          ·simp only [Act.put, List.setIfInBounds_toArray, List.set_cons_zero, List.set_cons_succ, i64_w, i32_w]
           rfl
          refine take_ (i := 12) (N := some 43) (v := ?_) (a' := ?_) #[true, true, true, true, true, true, true, true, true, true, true, true, true, false, true, true, false, false, false, false, false, false, false, false, false] rfl rfl (take_ofW HT_.out HW_.out (by kernel_rfl)) (fun _ _ _ h => h) (Or.inl ⟨by rfl, ?_⟩) hHeld ?_ ?_
          rotate_left
          ·rintro w' ⟨s0, s1, s2, s3, s4, s5, s6⟩
           go_simp
           with_reducible rfl
          rotate_left
          ·simp only [Act.put, List.setIfInBounds_toArray, List.set_cons_zero, List.set_cons_succ, i64_w, i32_w]
           rfl
          refine pure_ (i := 13) (N := some 44) (v := ?_) (a' := ?_) #[true, true, true, true, true, true, true, true, true, true, true, true, true, true, true, true, false, false, false, false, false, false, false, false, false] rfl rfl (any_of HT_.out (by kernel_rfl)) (fun _ _ _ h => h) (Or.inl ⟨by rfl, ?_⟩) ?_ ?_
          rotate_left
          ·intro w'
           go_simp
           with_reducible rfl
          rotate_left
          ·simp only [Act.put, List.setIfInBounds_toArray, List.set_cons_zero, List.set_cons_succ, i64_w, i32_w]
           rfl
          refine take_ (i := 16) (N := some 47) (v := ?_) (a' := ?_) #[true, true, true, true, true, true, true, true, true, true, true, true, true, true, true, true, true, false, false, false, false, false, false, false, false] rfl rfl (take_ofW HT_.out HW_.out (by kernel_rfl)) (fun _ _ _ h => h) (Or.inl ⟨by rfl, ?_⟩) hHeld ?_ ?_
          rotate_left
          ·rintro w' ⟨s0, s1, s2, s3, s4, s5, s6⟩
           go_simp
           with_reducible rfl
          rotate_left
          ·simp only [Act.put, List.setIfInBounds_toArray, List.set_cons_zero, List.set_cons_succ, i64_w, i32_w]
           rfl
          refine pure_ (i := 17) (N := some 48) (v := ?_) (a' := ?_) #[true, true, true, true, true, true, true, true, true, true, true, true, true, true, true, true, true, true, false, false, false, false, false, false, false] rfl rfl (any_of HT_.out (by kernel_rfl)) (fun _ _ _ h => h) (Or.inl ⟨by rfl, ?_⟩) ?_ ?_
          rotate_left
          ·intro w'
           go_simp
           with_reducible rfl
          rotate_left
          ·simp only [Act.put, List.setIfInBounds_toArray, List.set_cons_zero, List.set_cons_succ, i64_w, i32_w]
           rfl
          refine take_ (i := 18) (N := some 49) (v := ?_) (a' := ?_) #[true, true, true, true, true, true, true, true, true, true, true, true, true, true, true, true, true, true, true, false, false, false, false, false, false] rfl rfl (take_ofW HT_.out HW_.out (by kernel_rfl)) (fun _ _ _ h => h) (Or.inl ⟨by rfl, ?_⟩) hHeld ?_ ?_
          rotate_left
          ·rintro w' ⟨s0, s1, s2, s3, s4, s5, s6⟩
           go_simp
           with_reducible rfl
          rotate_left
          ·simp only [Act.put, List.setIfInBounds_toArray, List.set_cons_zero, List.set_cons_succ, i64_w, i32_w]
           rfl
          refine pure_ (i := 19) (N := some 50) (v := ?_) (a' := ?_) #[true, true, true, true, true, true, true, true, true, true, true, true, true, true, true, true, true, true, true, true, false, false, false, false, false] rfl rfl (any_of HT_.out (by kernel_rfl)) (fun _ _ _ h => h) (Or.inl ⟨by rfl, ?_⟩) ?_ ?_
          rotate_left
          ·intro w'
           go_simp
           with_reducible rfl
          rotate_left
          ·simp only [Act.put, List.setIfInBounds_toArray, List.set_cons_zero, List.set_cons_succ, i64_w, i32_w]
           rfl
          refine pure_ (i := 20) (N := some 51) (v := ?_) (a' := ?_) #[true, true, true, true, true, true, true, true, true, true, true, true, true, true, true, true, true, true, true, true, true, false, false, false, false] rfl rfl (any_of HT_.out (by kernel_rfl)) (fun _ _ _ h => h) (Or.inl ⟨by rfl, ?_⟩) ?_ ?_
          rotate_left
          ·intro w'
           go_simp
           with_reducible rfl
          rotate_left
          ·simp only [Act.put, List.setIfInBounds_toArray, List.set_cons_zero, List.set_cons_succ, i64_w, i32_w]
           rfl
          refine one_ (i := 21) (N := some 52) #[true, true, true, true, true, true, true, true, true, true, true, true, true, true, true, true, true, true, true, true, true, true, false, false, false] rfl rfl (one_of HT_.out (by kernel_rfl)) (by decide) (fun K hK => ?_)
          refine value_ (w1 := ?_) (v := ?_) (by rfl) rfl ?_ ?_
          rotate_left 2
          ·go_simp
           constructor
           ·rfl
           ·rfl
          refine hK.out _ _ ⟨(blk_cell (blk_alloc BK326.out _) 0).trans rfl, (blk_cell (blk_alloc BK326.out _) 1).trans rfl, (blk_cell (blk_alloc BK328.out _) 0).trans rfl, (blk_cell (blk_alloc BK328.out _) 1).trans rfl, (blk_cell (blk_alloc BK328.out _) 2).trans rfl, (World.cell?_alloc_lt _ _ _ (World.block_lt_of_cell? _ _ ((keep_cell HK.out hw329_0 hne329_0)))).trans ((keep_cell HK.out hw329_0 hne329_0)), (World.cell?_alloc_lt _ _ _ (World.block_lt_of_cell? _ _ ((keep_cell HK.out hw330_0 hne330_0)))).trans ((keep_cell HK.out hw330_0 hne330_0))⟩ (fun hHeld => ?_)
          clear hK K
          refine norm_ (a' := ?_) ?_ ?_
          rotate_left
          ·show Act.put _ (some 52) _ = _
           simp only [Act.put, List.setIfInBounds_toArray, List.set_cons_zero, List.set_cons_succ, i64_w, i32_w]
           rfl
          refine one_ (i := 22) (N := some 53) #[true, true, true, true, true, true, true, true, true, true, true, true, true, true, true, true, true, true, true, true, true, true, true, false, false] rfl rfl (one_of HT_.out (by kernel_rfl)) (by decide) (fun K hK => ?_)
          refine Kd.R_append_step k55 w.heap.size (by rfl) (.tmp 32) (.tmp 52) 34 55 (.agg #[(.int .i64 0), (.int .i64 0), (.int .i64 0)]) 24 rfl Try.underlying34 info55 rfl (by decide) (by omega) u327001 x327001_1 (⟨(rd_T55 s0_1 x6_1).f0, (rd_T55 s0_1 x6_1).f1, wrap64 ((wrap64 (((rd_T55 s0_1 x6_1).f2) + (rd l1 ((rd_T55 s0_1 x6_1).f1)))) - (rd l1 ((rd_T55 s0_1 x6_1).f0)))⟩ : S55) [.int .i64 ((rd_T55 s0_1 x6_1).f0), .int .i64 ((rd_T55 s0_1 x6_1).f1), .int .i64 (wrap64 ((wrap64 (((rd_T55 s0_1 x6_1).f2) + (rd l1 ((rd_T55 s0_1 x6_1).f1)))) - (rd l1 ((rd_T55 s0_1 x6_1).f0))))] (fun k_ => k_ ≠ gb328) (fun _ => False) rfl rfl ?aP (fun _ hk => hk.elim) ?aF ?aO (Below.refl _ _) ?aS ?aL ?_
          (case aP => exact k55_mkM _ _ _ (⟨(rd_T55 s0_1 x6_1).f0, (rd_T55 s0_1 x6_1).f1, wrap64 ((wrap64 (((rd_T55 s0_1 x6_1).f2) + (rd l1 ((rd_T55 s0_1 x6_1).f1)))) - (rd l1 ((rd_T55 s0_1 x6_1).f0)))⟩ : S55))
          (case aF => exact (fun k_ hk => Kd.freshB (g := gb328) (o := .cells #[.int .i64 ((rd_T55 s0_1 x6_1).f0), .int .i64 ((rd_T55 s0_1 x6_1).f1), .int .i64 ((rd_T55 s0_1 x6_1).f2)] 55 (0, 0)) (by (with_reducible repeat (first | refine blk_drewN ?_ _ | refine blk_drew ?_ | refine blk_alloc ?_ _)); exact BK328.out) k_ hk))
          (case aO => exact (by (with_reducible repeat (first | apply Kd.R_alloc | apply Kd.R_drewN | apply Kd.R_drew)); exact HO_327001.out))
          (case aS => exact (keep_size (w := w) (g := g) (row := none) (by repeat (first | (with_reducible first | exact HK.out | apply KeepBut.set_ | apply keep_drewN | apply keep_drew | apply keep_alloc | refine keep_far ?_ GW319.out _ | refine keep_far ?_ GW326.out _ | refine keep_far ?_ GW328.out _) | exact HK.out))))
          (case aL => have := LMc21.out; omega)
          intro v332 w30 ho hb hg hat
          rw [← Ny331.out] at ho
          have n0_ := Aside0.mk (Kd.R_over' (by (with_reducible repeat (first | apply Kd.R_alloc | apply Kd.R_drewN | apply Kd.R_drew)); exact HO_327000.out) (Kd.R_typed (by (with_reducible repeat (first | apply Kd.R_alloc | apply Kd.R_drewN | apply Kd.R_drew)); exact HO_327001.out)) (by decide) hg)
          have n1_ := Aside0.mk (blk_grown (g := gb319) (o := .cells #[.slice none 0 0, .slice none 0 0] 36 (0, 0)) (by (with_reducible repeat (first | refine blk_drewN ?_ _ | refine blk_drew ?_ | refine blk_alloc ?_ _)); exact BK319.out) hg (Kd.R_ne HO_327001.out BK319.out (by decide)))
          have n2_ := Aside0.mk (blk_grown (g := gb326) (o := .cells #[.slice Ao10 t320.length co10, u327001] 36 (0, 0)) (by (with_reducible repeat (first | refine blk_drewN ?_ _ | refine blk_drew ?_ | refine blk_alloc ?_ _)); exact BK326.out) hg (Kd.R_ne HO_327001.out BK326.out (by decide)))
          have n3_ := Aside0.mk (IsS36.grown (by repeat (first | (with_reducible first | exact HI0.out | apply IsS36.alloc | apply IsS36.drewN | apply IsS36.drew | refine IsS36.far ?_ NB0_319.out _ | refine IsS36.far ?_ NB0_326.out _ | refine IsS36.far ?_ NB0_328.out _) | exact HI0.out)) hg (IsS36.own_ne HI0.out HO_327001.out (by decide)))
          have n4_ := Aside0.mk (blk_grown (g := gb328) (o := .cells #[.int .i64 ((rd_T55 s0_1 x6_1).f0), .int .i64 ((rd_T55 s0_1 x6_1).f1), .int .i64 ((rd_T55 s0_1 x6_1).f2)] 55 (0, 0)) (by (with_reducible repeat (first | refine blk_drewN ?_ _ | refine blk_drew ?_ | refine blk_alloc ?_ _)); exact BK328.out) hg (Kd.R_away HO_327001.out (fun _ hk => hk)))
          have n5_ := Aside0.mk (below_weaken (by repeat (first | (with_reducible first | exact HB.out | apply below_alloc | apply pw_below_drewN | apply below_drew1 | refine below_set ?_ (IsS36.ge HI0.out) | refine below_set ?_ GE319.out | refine below_set ?_ GE326.out | refine below_set ?_ GE328.out) | exact HB.out)) HL.out hb)
          have n6_ := Aside0.mk (KeepBut.trans (by repeat (first | (with_reducible first | exact HK.out | apply KeepBut.set_ | apply keep_drewN | apply keep_drew | apply keep_alloc | refine keep_far ?_ GW319.out _ | refine keep_far ?_ GW326.out _ | refine keep_far ?_ GW328.out _) | exact HK.out)) (KeepBut.of_grown hg g) (Kd.R_base2 HO_327001.out))
          have n7_ := Aside0.mk (ho)
          clear HO_327000
          clear BK319
          clear BK326
          clear HI0
          clear BK328
          clear HB
          clear HK
          clear HO_327001
          have HO_327000 := n0_
          have BK319 := n1_
          have BK326 := n2_
          have HI0 := n3_
          have BK328 := n4_
          have HB := n5_
          have HK := n6_
          have HO333 := n7_
          clear n0_ n1_ n2_ n3_ n4_ n5_ n6_ n7_
          clear ho hb hg hat
          obtain ⟨Ao31, co31, eo31⟩ := Kd.R_slice HO333.out
          (first | subst eo31 | (injection eo31 with f1_ f2_ f3_; have f4_ := f1_.symm; have f5_ := f3_.symm; clear f1_ f2_ f3_; subst f4_; subst f5_))
          refine hK.out _ _ ⟨(blk_cell BK326.out 0).trans rfl, (blk_cell BK326.out 1).trans rfl, (blk_cell BK328.out 0).trans rfl, (blk_cell BK328.out 1).trans rfl, (blk_cell BK328.out 2).trans rfl, (keep_cell HK.out hw329_0 hne329_0), (keep_cell HK.out hw330_0 hne330_0)⟩ (fun hHeld => ?_)
          clear hK K
          refine norm_ (a' := ?_) ?_ ?_
          rotate_left
          ·show Act.put _ (some 53) _ = _
           simp only [Act.put, List.setIfInBounds_toArray, List.set_cons_zero, List.set_cons_succ, i64_w, i32_w]
           rfl
          refine pure_ (i := 23) (N := some 54) (v := ?_) (a' := ?_) #[true, true, true, true, true, true, true, true, true, true, true, true, true, true, true, true, true, true, true, true, true, true, true, true, false] rfl rfl (any_of HT_.out (by kernel_rfl)) (fun _ _ _ h => h) (Or.inl ⟨by rfl, ?_⟩) ?_ ?_
          rotate_left
          ·intro w'
           go_simp
           with_reducible rfl
          rotate_left
          ·simp only [Act.put, List.setIfInBounds_toArray, List.set_cons_zero, List.set_cons_succ, i64_w, i32_w]
           rfl
          refine last_ (i := 24) (N := none) #[true, true, true, true, true, true, true, true, true, true, true, true, true, true, true, true, true, true, true, true, true, true, true, true, true] rfl rfl (one_of HT_.out (by kernel_rfl)) (by decide) (fun K hK => ?_)
          have hs32 : w30.cell? ⟨gb326, 1, none⟩ = some (u327001) := (blk_cell BK326.out 1).trans rfl
          have hfs32 := blk_frozen BK326.out 1
          have hns32_0 := NB319_326.out
          have hns32_2 := NB328_326.out
          have hms32_0 := NB326_319.out
          have hms32_2 := NB326_328.out
          refine skip_ (w1 := ?_) (by rfl) rfl ?_ ?_
          rotate_left
          ·go_simp
           rfl
          refine hK.out _ _ ?_
          clear hK K
          refine done_ (done_of HT_.out (by kernel_rfl)) ?_
          try go_wp2
          go_roundg k1
          case measure => have := HK1.out; omega
          case rel => exact ⟨(wrap64 (x6_1 + 1)), (y331), (.slice Ao31 y331.length co31), (by first | rfl | (simp; done) | (simp [*]; done)), H', ⟨by have := HK1.out; omega⟩, ⟨by (with_reducible repeat (first | apply Kd.R_alloc | apply Kd.R_drewN | apply Kd.R_drew)); exact Kd.R_mono (Kd.R_far (p := ⟨gb326, 1, none⟩) (Kd.R_types HO_327000.out BK326.out (by decide)) (fun _ hk => hk.2) (.slice Ao31 y331.length co31)) (fun _ hk => trivial)⟩, ⟨by (with_reducible repeat (first | apply Kd.R_alloc | apply Kd.R_drewN | apply Kd.R_drew)); exact Kd.R_mono (Kd.R_far (p := ⟨gb326, 1, none⟩) (Kd.R_types HO333.out BK326.out (by decide)) (fun _ hk => hk.2) (.slice Ao31 y331.length co31)) (fun _ hk => trivial)⟩, ⟨by (with_reducible repeat (first | refine blk_drewN ?_ _ | refine blk_drew ?_ | refine blk_alloc ?_ _)); refine blk_far ?_ NB319_326.out _; (with_reducible repeat (first | refine blk_drewN ?_ _ | refine blk_drew ?_ | refine blk_alloc ?_ _)); exact BK319.out⟩, ⟨by (with_reducible repeat (first | refine blk_drewN ?_ _ | refine blk_drew ?_ | refine blk_alloc ?_ _)); refine blk_put (cs := #[.slice Ao10 t320.length co10, u327001]) ?_ 1 _ rfl; (with_reducible repeat (first | refine blk_drewN ?_ _ | refine blk_drew ?_ | refine blk_alloc ?_ _)); exact BK326.out⟩, ⟨by repeat (first | (with_reducible first | exact HI0.out | apply IsS36.alloc | apply IsS36.drewN | apply IsS36.drew | refine IsS36.far ?_ NB0_319.out _ | refine IsS36.far ?_ NB0_326.out _ | refine IsS36.far ?_ NB0_328.out _) | exact HI0.out)⟩, ⟨by repeat (first | (with_reducible first | exact HK.out | apply KeepBut.set_ | apply keep_drewN | apply keep_drew | apply keep_alloc | refine keep_far ?_ GW319.out _ | refine keep_far ?_ GW326.out _ | refine keep_far ?_ GW328.out _) | exact HK.out)⟩, ⟨by repeat (first | (with_reducible first | exact HB.out | apply below_alloc | apply pw_below_drewN | apply below_drew1 | refine below_set ?_ (IsS36.ge HI0.out) | refine below_set ?_ GE319.out | refine below_set ?_ GE326.out | refine below_set ?_ GE328.out) | exact HB.out)⟩⟩
         ·rw [if_neg c21] at H
          exact absurd H (by simp)
        ·rw [if_neg c20] at H
         exact absurd H (by simp)
       ·rw [if_neg c19] at H
        exact absurd H (by simp)
      ·rw [if_neg c18] at H
       exact absurd H (by simp)
     ·rw [if_neg c17] at H
      exact absurd H (by simp)
    ·rw [if_neg c16] at H
     exact absurd H (by simp)
   ·rw [if_neg c15] at H
    have c15b0 : decide (x6_1 < (s0_1.length : Int)) = false := decide_eq_false c15
    clear c15
    simp only [Option.some.injEq, Prod.mk.injEq] at H
    obtain ⟨rfl, rfl⟩ := H
    obtain ⟨ASz33_0, cSz33_0, ASz33_1, cSz33_1, HGz33, hgz33, HSz33_0, HSz33_1⟩ := HI0.out
    have hcz33_0 := cellS36_0 HGz33
    have hcz33_1 := cellS36_1 HGz33
    clear HGz33 hgz33
    have hnb34 := NB326_319.out
    have hnc34 := NB319_326.out
    have hnb35 := NB326_0.out
    have hnc35 := NB0_326.out
    have hcz36_0 : wr.cell? ⟨gb326, 0, none⟩ = some (.slice Ao10 t320.length co10) := (blk_cell BK326.out 0).trans rfl
    have hcz36_1 : wr.cell? ⟨gb326, 1, none⟩ = some (u327001) := (blk_cell BK326.out 1).trans rfl
    have hfz36_0 := blk_frozen BK326.out 0
    have hfz36_1 := blk_frozen BK326.out 1
    have hnb37 := NB319_0.out
    have hnc37 := NB0_319.out
    have hcz38_0 : wr.cell? ⟨gb319, 0, none⟩ = some (.slice none 0 0) := (blk_cell BK319.out 0).trans rfl
    have hcz38_1 : wr.cell? ⟨gb319, 1, none⟩ = some (.slice none 0 0) := (blk_cell BK319.out 1).trans rfl
    have hfz38_0 := blk_frozen BK319.out 0
    have hfz38_1 := blk_frozen BK319.out 1
    obtain ⟨Ao39, co39, eo39⟩ := Kd.R_slice HO_327001.out
    subst eo39
    go_wp2
    refine bodyPost_ret (results_cell_row rfl _ _ gb319 36 #[.slice Ao10 t320.length co10, .slice Ao39 x327001_1.length co39] (0, 0) _ rfl (by (with_reducible repeat (first | refine blk_drewN ?_ _ | refine blk_drew ?_ | refine blk_alloc ?_ _)); refine blk_put (cs := #[.slice Ao10 t320.length co10, .slice none 0 0]) ?_ 1 _ rfl; (with_reducible repeat (first | refine blk_drewN ?_ _ | refine blk_drew ?_ | refine blk_alloc ?_ _)); refine blk_put (cs := #[.slice none 0 0, .slice none 0 0]) ?_ 0 _ rfl; (with_reducible repeat (first | refine blk_drewN ?_ _ | refine blk_drew ?_ | refine blk_alloc ?_ _)); exact BK319.out) Try.underlying36 rfl (by kernel_rfl)) rfl ?_
    exact ⟨_, _, by first | rfl | (simp [errW_none, errW_some] <;> rfl) | (simp [*, errW_none, errW_some] <;> rfl), by (with_reducible repeat (first | apply Kd.R_alloc | apply Kd.R_drewN | apply Kd.R_drew)); exact Kd.R_mono (Kd.R_far (p := ⟨gb319, 1, none⟩) (Kd.R_far (p := ⟨gb319, 0, none⟩) (Kd.R_types HO_327000.out BK319.out (by decide)) (fun _ hk => hk.2) (.slice Ao10 t320.length co10)) (fun _ hk => hk.2) (.slice Ao39 x327001_1.length co39)) (fun _ hk => trivial), by (with_reducible repeat (first | apply Kd.R_alloc | apply Kd.R_drewN | apply Kd.R_drew)); exact Kd.R_mono (Kd.R_far (p := ⟨gb319, 1, none⟩) (Kd.R_far (p := ⟨gb319, 0, none⟩) (Kd.R_types HO_327001.out BK319.out (by decide)) (fun _ hk => hk.2) (.slice Ao10 t320.length co10)) (fun _ hk => hk.2) (.slice Ao39 x327001_1.length co39)) (fun _ hk => trivial), by repeat (first | (with_reducible first | exact HI0.out | apply IsS36.alloc | apply IsS36.drewN | apply IsS36.drew | refine IsS36.far ?_ NB0_319.out _ | refine IsS36.far ?_ NB0_326.out _) | exact HI0.out), by repeat (first | (with_reducible first | exact HB.out | apply below_alloc | apply pw_below_drewN | apply below_drew1 | refine below_set ?_ (IsS36.ge HI0.out) | refine below_set ?_ GE319.out | refine below_set ?_ GE326.out) | exact HB.out), by repeat (first | (with_reducible first | exact HK.out | apply KeepBut.set_ | apply keep_drewN | apply keep_drew | apply keep_alloc | refine keep_far ?_ GW319.out _ | refine keep_far ?_ GW326.out _) | exact HK.out)⟩
end Go.Proofs.Ytojpibpjieanhaa.X
end
section
namespace Go.Proofs.Ytojpibpjieanhaa.X
open Go.RowKit Go.Proofs.YtojpibpjieanhaaW.PrintWords Go.Proofs.YtojpibpjieanhaaW.PrintLast Go.Proofs.YtojpibpjieanhaaW.PrintMore
set_option linter.unusedVariables false
set_option linter.unusedSimpArgs false
set_option maxHeartbeats 8000000 in
set_option maxRecDepth 100000 in
theorem l08Can_1 (k : Nat) (g : Nat) (l0 : List Int) (l1 : List S55) (A : Option Addr) (c : Nat) (m : List Int) (w0 w : World) (hI : IsS36 w0 w g l0 l1) (hB : Below w0.heap.size w0 w) (hm : Kd.C (Kd.int .i64) w A m.length m) (hc : m.length ≤ c) (hf : ∀ ad, A = some ad → 0 < m.length → ad.block ≠ g) (h1 : spec_l08Is.f k l0 l1 = some false) :
    Calls Try.prog 56 #[.pointer (some ⟨g, 0, none⟩), .slice A m.length c] w fun e w' => e = .returned (.bool false) ∧ IsS36 w0 w' g l0 l1 ∧ Below w0.heap.size w0 w' ∧ KeepBut w w' g none := by
  have HhI := Aside0.mk hI
  have HhB := Aside0.mk hB
  have Hhm := Aside0.mk hm
  have Hhc := Aside0.mk hc
  have Hhf := Aside0.mk hf
  have Hh1 := Aside0.mk h1
  clear hI hB hm hc hf h1
  have HI := HhI
  have HB := HhB
  have HK := Aside0.mk (KeepBut.refl w g none)
  clear HhI HhB
  go_enter Try.func56, Try.ntmps56
  go_wp2_with (first
    | (go_at_call 51; refine (spec_l08Is.calls k g l0 l1 false w0 _ HI.out HB.out Hh1.out).mono ?_; rintro e wn ⟨rfl, hi, hb, hk⟩; have n0_ := Aside0.mk (KeepBut.trans HK.out hk (.inl rfl)); clear HI HB HK hk; have HI := Aside0.mk hi; have HB := Aside0.mk hb; have HK := n0_; clear hi hb n0_; obtain ⟨Aa, ca, Ab, cb, hg, hgg, q0, q1⟩ := HI.out; have cg0 := cellS36_0 hg; clear hg hgg q0 q1))
  go_ret
  exact ⟨rfl, HI.out, HB.out, HK.out⟩
set_option maxHeartbeats 8000000 in
set_option maxRecDepth 100000 in
theorem l08Can_2 (k : Nat) (g : Nat) (l0 : List Int) (l1 : List S55) (A : Option Addr) (c : Nat) (m : List Int) (w0 w : World) (hI : IsS36 w0 w g l0 l1) (hB : Below w0.heap.size w0 w) (hm : Kd.C (Kd.int .i64) w A m.length m) (hc : m.length ≤ c) (hf : ∀ ad, A = some ad → 0 < m.length → ad.block ≠ g) (h1 : spec_l08Is.f k l0 l1 = some true) (h2 : spec_l08Moves.f k (l0.length : Int) m = some false) :
    Calls Try.prog 56 #[.pointer (some ⟨g, 0, none⟩), .slice A m.length c] w fun e w' => e = .returned (.bool false) ∧ IsS36 w0 w' g l0 l1 ∧ Below w0.heap.size w0 w' ∧ KeepBut w w' g none := by
  have HhI := Aside0.mk hI
  have HhB := Aside0.mk hB
  have Hhm := Aside0.mk hm
  have Hhc := Aside0.mk hc
  have Hhf := Aside0.mk hf
  have Hh1 := Aside0.mk h1
  have Hh2 := Aside0.mk h2
  clear hI hB hm hc hf h1 h2
  have HI := HhI
  have HB := HhB
  have HK := Aside0.mk (KeepBut.refl w g none)
  clear HhI HhB
  go_enter Try.func56, Try.ntmps56
  go_wp2_with (first
    | (go_at_call 51; refine (spec_l08Is.calls k g l0 l1 true w0 _ HI.out HB.out Hh1.out).mono ?_; rintro e wn ⟨rfl, hi, hb, hk⟩; have n0_ := Aside0.mk (KeepBut.trans HK.out hk (.inl rfl)); clear HI HB HK hk; have HI := Aside0.mk hi; have HB := Aside0.mk hb; have HK := n0_; clear hi hb n0_; obtain ⟨Aa, ca, Ab, cb, hg, hgg, q0, q1⟩ := HI.out; have cg0 := cellS36_0 hg; clear hg hgg q0 q1)
    | (go_at_call 46; refine (spec_l08Moves.calls k (l0.length : Int) A c m false _ (Kd.C_keep 0 Hhm.out HK.out Hhf.out) Hhc.out Hh2.out).mono ?_; rintro e wn ⟨rfl, hd⟩; obtain ⟨q, hq⟩ := hd; subst hq; have n0_ := Aside0.mk (keep_drewN HK.out q); have n1_ := Aside0.mk (IsS36.drewN HI.out q); have n2_ := Aside0.mk (pw_below_drewN HB.out q); clear HK HI HB cg0; have HK := n0_; have HI := n1_; have HB := n2_; clear n0_ n1_ n2_))
  go_ret
  exact ⟨rfl, HI.out, HB.out, HK.out⟩
set_option maxHeartbeats 8000000 in
set_option maxRecDepth 100000 in
theorem l08Can_3 (k : Nat) (g : Nat) (l0 : List Int) (l1 : List S55) (A : Option Addr) (c : Nat) (m : List Int) (r1 : List Int) (r2 : List S55) (b : Bool) (w0 w : World) (hI : IsS36 w0 w g l0 l1) (hB : Below w0.heap.size w0 w) (hm : Kd.C (Kd.int .i64) w A m.length m) (hc : m.length ≤ c) (hf : ∀ ad, A = some ad → 0 < m.length → ad.block ≠ g) (h1 : spec_l08Is.f k l0 l1 = some true) (h2 : spec_l08Moves.f k (l0.length : Int) m = some true) (h3 : spec_l08Moved.f k l0 l1 m = some (r1, r2)) (h4 : spec_l08Form.f k r1 r2 = some b) :
    Calls Try.prog 56 #[.pointer (some ⟨g, 0, none⟩), .slice A m.length c] w fun e w' => e = .returned (.bool b) ∧ IsS36 w0 w' g l0 l1 ∧ Below w0.heap.size w0 w' ∧ KeepBut w w' g none := by
  have HhI := Aside0.mk hI
  have HhB := Aside0.mk hB
  have Hhm := Aside0.mk hm
  have Hhc := Aside0.mk hc
  have Hhf := Aside0.mk hf
  have Hh1 := Aside0.mk h1
  have Hh2 := Aside0.mk h2
  have Hh3 := Aside0.mk h3
  have Hh4 := Aside0.mk h4
  clear hI hB hm hc hf h1 h2 h3 h4
  have HI := HhI
  have HB := HhB
  have HK := Aside0.mk (KeepBut.refl w g none)
  clear HhI HhB
  go_enter Try.func56, Try.ntmps56
  go_wp2_with (first
    | (go_at_call 51; refine (spec_l08Is.calls k g l0 l1 true w0 _ HI.out HB.out Hh1.out).mono ?_; rintro e wn ⟨rfl, hi, hb, hk⟩; have n0_ := Aside0.mk (KeepBut.trans HK.out hk (.inl rfl)); clear HI HB HK hk; have HI := Aside0.mk hi; have HB := Aside0.mk hb; have HK := n0_; clear hi hb n0_; obtain ⟨Aa, ca, Ab, cb, hg, hgg, q0, q1⟩ := HI.out; have cg0 := cellS36_0 hg; clear hg hgg q0 q1)
    | (go_at_call 46; refine (spec_l08Moves.calls k (l0.length : Int) A c m true _ (Kd.C_keep 0 Hhm.out HK.out Hhf.out) Hhc.out Hh2.out).mono ?_; rintro e wn ⟨rfl, hd⟩; obtain ⟨q, hq⟩ := hd; subst hq; have n0_ := Aside0.mk (keep_drewN HK.out q); have n1_ := Aside0.mk (IsS36.drewN HI.out q); have n2_ := Aside0.mk (pw_below_drewN HB.out q); clear HK HI HB cg0; have HK := n0_; have HI := n1_; have HB := n2_; clear n0_ n1_ n2_)
    | (go_at_call 63; refine (spec_l08Moved.calls k g l0 l1 A c m r1 r2 w0 _ HI.out HB.out (Kd.C_keep 0 Hhm.out HK.out Hhf.out) Hhc.out Hhf.out Hh3.out).mono ?_; rintro e wn ⟨v0, v1, rfl, hr0, hr1, hi, hb, hk⟩; have n0_ := Aside0.mk (KeepBut.trans HK.out hk (.inl rfl)); clear HI HB HK hk; have HI := Aside0.mk hi; have HB := Aside0.mk hb; have HK := n0_; clear hi hb n0_; obtain ⟨A0, c0, e0⟩ := Kd.R_slice hr0; subst e0; obtain ⟨A1, c1, e1⟩ := Kd.R_slice hr1; subst e1; have HO0 := Aside0.mk (Kd.R_reads' hr0).2.2; have HO1 := Aside0.mk (Kd.R_reads' hr1).2.2; clear hr0 hr1; obtain ⟨W3, hW3⟩ : ∃ W3, W3 = wn := ⟨_, rfl⟩; subst hW3)
    | ((with_reducible refine gate_dst (N := 5) rfl ?_); refine box_event ?hg (N := 5) ?hd (cs := #[.slice none 0 0, .slice none 0 0]) (t := 36) ?hr ?_; (case hd => rfl); (case hg => rfl); (case hr => first | (go_simp; done) | (go_simp; rfl)); intro g5 hg wb hbox hb; have HG := Aside0.mk hg; have BX := Aside0.mk hbox; have HBB := Aside0.mk hb; clear hg hbox hb; have z0 := blk_frozen BX.out 0; have z1 := blk_frozen BX.out 1; have x0 : wb.cell? ⟨g5, 0, none⟩ = some (.slice none 0 0) := (blk_cell BX.out 0).trans rfl; have x1 : wb.cell? ⟨g5, 1, none⟩ = some (.slice none 0 0) := (blk_cell BX.out 1).trans rfl)
    | (go_at_call 78; have P0 := blk_put (cs' := #[.slice A0 r1.length c0, .slice A1 r2.length c1]) (blk_put (cs' := #[.slice A0 r1.length c0, .slice none 0 0]) BX.out 0 (.slice A0 r1.length c0) rfl) 1 (.slice A1 r2.length c1) rfl; have PB := below_set (j := 1) (v := .slice A1 r2.length c1) (below_set (j := 0) (v := .slice A0 r1.length c0) HBB.out (Nat.le_of_eq HG.out.symm)) (Nat.le_of_eq HG.out.symm); refine (spec_l08Form.calls k g5 r1 r2 b _ _ ⟨A0, c0, A1, c1, P0, Nat.le_of_eq HG.out.symm, HO0.out, HO1.out⟩ PB Hh4.out).mono ?_; rintro e wz ⟨rfl, hi, hb, hk⟩; clear P0 PB hi hk; have HF := Aside0.mk hb; clear hb))
  go_ret
  exact ⟨rfl, IsS36.below HI.out HF.out, below_step HB.out HF.out, KeepBut.trans HK.out (KeepBut.of_below HF.out g none) (.inl rfl)⟩
def spec_l08Can.f (k : Nat) (l0 : List Int) (l1 : List S55) (m : List Int) : Option Bool :=
  (spec_l08Is.f k l0 l1).bind fun a => if a = true then (spec_l08Moves.f k (l0.length : Int) m).bind fun b => if b = true then (spec_l08Moved.f k l0 l1 m).bind fun r => spec_l08Form.f k r.1 r.2 else some false else some false
theorem spec_l08Can.mono : ∀ a0 a1 a2 k, LeO (spec_l08Can.f k a0 a1 a2) (spec_l08Can.f (k + 1) a0 a1 a2) := by
  intro a0 a1 a2 k
  unfold spec_l08Can.f
  refine LeO.bind (spec_l08Is.mono a0 a1 k) (fun a => ?_)
  split
  · refine LeO.bind (spec_l08Moves.mono _ a2 k) (fun b => ?_)
    split
    · exact LeO.bind (spec_l08Moved.mono a0 a1 a2 k) (fun r => spec_l08Form.mono r.1 r.2 k)
    · exact LeO.refl _
  · exact LeO.refl _
theorem spec_l08Can.calls (k : Nat) (g : Nat) (s0_0 : List Int) (s0_1 : List (S55)) (A1 : Option Addr) (c1 : Nat) (l1 : List Int) (r : Bool) (w0 w : World) (hI : IsS36 w0 w g s0_0 s0_1) (hB : Below w0.heap.size w0 w) (hr1 : Kd.C (Kd.int .i64) w A1 l1.length l1) (hc1 : l1.length ≤ c1) (hf1 : ∀ ad, A1 = some ad → 0 < l1.length → ad.block ≠ g) (h : spec_l08Can.f k s0_0 s0_1 l1 = some r) :
    Calls Try.prog 56 #[.pointer (some ⟨g, 0, none⟩), .slice A1 l1.length c1] w fun e w' => e = .returned (.bool r) ∧ IsS36 w0 w' g s0_0 s0_1 ∧ Below w0.heap.size w0 w' ∧ KeepBut w w' g none := by
  unfold spec_l08Can.f at h
  obtain ⟨a, ha, h⟩ := Option.bind_eq_some_iff.mp h
  cases a with
  | false =>
    rw [if_neg (by simp)] at h
    obtain rfl := Option.some.inj h
    exact l08Can_1 k g s0_0 s0_1 A1 c1 l1 w0 w hI hB hr1 hc1 hf1 ha
  | true =>
    rw [if_pos rfl] at h
    obtain ⟨b, hb, h⟩ := Option.bind_eq_some_iff.mp h
    cases b with
    | false =>
      rw [if_neg (by simp)] at h
      obtain rfl := Option.some.inj h
      exact l08Can_2 k g s0_0 s0_1 A1 c1 l1 w0 w hI hB hr1 hc1 hf1 ha hb
    | true =>
      rw [if_pos rfl] at h
      obtain ⟨⟨r1, r2⟩, hr, h⟩ := Option.bind_eq_some_iff.mp h
      exact l08Can_3 k g s0_0 s0_1 A1 c1 l1 r1 r2 r w0 w hI hB hr1 hc1 hf1 ha hb hr h
end Go.Proofs.Ytojpibpjieanhaa.X
end
section
namespace Go.Proofs.Ytojpibpjieanhaa.X
open Go.RowKit Go.Proofs.YtojpibpjieanhaaW.PrintWords Go.Proofs.YtojpibpjieanhaaW.PrintLast Go.Proofs.YtojpibpjieanhaaW.PrintMore
set_option linter.unusedVariables false
set_option linter.unusedSimpArgs false
end Go.Proofs.Ytojpibpjieanhaa.X
end
section
namespace Go.Proofs.Ytojpibpjieanhaa.X
open Go.RowKit Go.Proofs.YtojpibpjieanhaaW.PrintWords Go.Proofs.YtojpibpjieanhaaW.PrintLast Go.Proofs.YtojpibpjieanhaaW.PrintMore Go.Proofs.Ytojpibpjieanhaa.FlowMath
set_option linter.unusedVariables false
set_option linter.unusedSimpArgs false
def mvW (m : List Int) (w : S55) : S55 := ⟨w.f0, w.f1, wrap64 ((wrap64 (w.f2 + rd m w.f1)) - rd m w.f0)⟩
theorem imoved_loop (m : List Int) (ws : List S55) (d0 : List Int) (hm : ws.length ≤ 16) (hw : ∀ w, w ∈ ws → WireOk m.length w) : ∀ (e i k : Nat) (out : List S55), i + e = ws.length → out.length ≤ i → e < k →
    impl_Flow_moved.l0 k m ws (ws.length : Int) i d0 out = some (d0, out ++ (ws.drop i).map (mvW m))
  | 0, i, k, out, hi, ho, hk => by
    cases k with
    | zero => omega
    | succ k => rw [impl_Flow_moved.l0, if_neg (by omega), List.drop_of_length_le (by omega)]; simp
  | e + 1, i, k, out, hi, ho, hk => by
    cases k with
    | zero => omega
    | succ k =>
      have hlt : i < ws.length := by omega
      obtain ⟨o1, o2, o3, o4, o5, o6⟩ := hw _ (List.getElem_mem hlt)
      have ih := imoved_loop m ws d0 hm hw e (i + 1) k (out ++ [mvW m ws[i]]) (by omega) (by simp; omega) (by omega)
      rw [Int.natCast_add, Int.natCast_one] at ih
      rw [impl_Flow_moved.l0, if_pos (by omega), if_pos (by omega), if_pos (by omega), rdT_at ws i hlt, w64 (n := (i : Int) + 1) (by omega) (by omega), if_pos (by omega), if_pos (by omega), if_pos (by omega), if_pos (by omega), if_pos (by omega), List.drop_eq_getElem_cons hlt, List.map_cons]
      have e1 : (⟨ws[i].f0, ws[i].f1, wrap64 ((wrap64 (ws[i].f2 + rd m ws[i].f1)) - rd m ws[i].f0)⟩ : S55) = mvW m ws[i] := rfl
      rw [e1, ih]; simp
theorem smoved_loop (m : List Int) (ws : List S55) (l0 d0 : List Int) (hm : ws.length ≤ 16) (hw : ∀ w, w ∈ ws → WireOk m.length w) : ∀ (e i k : Nat) (out : List S55), i + e = ws.length → out.length ≤ i → e < k →
    spec_l08Moved.l0 k m i l0 ws d0 out = some (d0, out ++ (ws.drop i).map (mvW m))
  | 0, i, k, out, hi, ho, hk => by
    cases k with
    | zero => omega
    | succ k => rw [spec_l08Moved.l0, if_neg (by omega), List.drop_of_length_le (by omega)]; simp
  | e + 1, i, k, out, hi, ho, hk => by
    cases k with
    | zero => omega
    | succ k =>
      have hlt : i < ws.length := by omega
      obtain ⟨o1, o2, o3, o4, o5, o6⟩ := hw _ (List.getElem_mem hlt)
      have ih := smoved_loop m ws l0 d0 hm hw e (i + 1) k (out ++ [mvW m ws[i]]) (by omega) (by simp; omega) (by omega)
      rw [Int.natCast_add, Int.natCast_one] at ih
      rw [spec_l08Moved.l0, if_pos (by omega), if_pos (by omega), rdT_at ws i hlt, w64 (n := (i : Int) + 1) (by omega) (by omega), if_pos (by omega), if_pos (by omega), if_pos (by omega), if_pos (by omega), if_pos (by omega), List.drop_eq_getElem_cons hlt, List.map_cons]
      have e1 : (⟨ws[i].f0, ws[i].f1, wrap64 ((wrap64 (ws[i].f2 + rd m ws[i].f1)) - rd m ws[i].f0)⟩ : S55) = mvW m ws[i] := rfl
      rw [e1, ih]; simp
theorem imoved_eq (k : Nat) (l0 : List Int) (ws : List S55) (m : List Int) (h0 : l0.length ≤ 8) (hm : ws.length ≤ 16) (hw : ∀ w, w ∈ ws → WireOk m.length w) (hk : 100 < k) : impl_Flow_moved.f k l0 ws m = some (l0, ws.map (mvW m)) := by
  unfold impl_Flow_moved.f slices_Clone_int64_int64.f
  have := imoved_loop m ws l0 hm hw ws.length 0 k [] (by omega) (by simp) (by omega)
  rw [show ((0 : Nat) : Int) = 0 from rfl] at this
  rw [if_pos (by omega), Option.bind_some, this]; simp
theorem smoved_eq (k : Nat) (l0 : List Int) (ws : List S55) (m : List Int) (h0 : l0.length ≤ 8) (hm : ws.length ≤ 16) (hw : ∀ w, w ∈ ws → WireOk m.length w) (hk : 100 < k) : spec_l08Moved.f k l0 ws m = some (l0, ws.map (mvW m)) := by
  unfold spec_l08Moved.f spec_l00Own.f
  have := smoved_loop m ws l0 l0 hm hw ws.length 0 k [] (by omega) (by simp) (by omega)
  rw [show ((0 : Nat) : Int) = 0 from rfl] at this
  rw [Option.bind_some, if_pos (by simp; omega), Option.bind_some, List.nil_append, this]; simp
noncomputable def canB (l0 : List Int) (ws : List S55) (m : List Int) : Bool := validB l0 ws && (decide (m.length = l0.length) && (m.all mv && formB l0 (ws.map (mvW m))))
theorem valid_ok {l0 : List Int} {ws : List S55} (h : validB l0 ws = true) : (1 ≤ l0.length ∧ l0.length ≤ 8) ∧ ws.length ≤ 16 ∧ (∀ d, d ∈ l0 → 0 ≤ d ∧ d ≤ 100) ∧ ∀ w, w ∈ ws → WireOk l0.length w := by
  unfold validB at h
  rw [Bool.and_eq_true] at h
  exact form_ok h.1
theorem spec_can (k : Nat) (l0 : List Int) (ws : List S55) (m : List Int) (h0 : l0.length ≤ 2000000) (h1 : ws.length ≤ 2000000) (hm : m.length ≤ 2000000) (hk : 4000000 < k) : spec_l08Can.f k l0 ws m = some (canB l0 ws m) := by
  unfold spec_l08Can.f canB
  rw [spec_is k l0 ws (by omega) (by omega) (by omega), Option.bind_some]
  cases hv : validB l0 ws with
  | false => rfl
  | true =>
    obtain ⟨hn, hl, -, hw⟩ := valid_ok hv
    rw [if_pos rfl, Bool.true_and]
    by_cases hq : m.length = l0.length
    · rw [← hq, moves_eq k m (by omega) (by omega), Option.bind_some, decide_eq_true rfl, Bool.true_and]
      cases hmv : m.all mv with
      | false => rfl
      | true =>
        rw [if_pos rfl, Bool.true_and, smoved_eq k l0 ws m (by omega) hl (by rw [hq]; exact hw) (by omega), Option.bind_some]
        exact sform_eq k l0 _ (by omega) (by simp; omega) (by omega)
    · have : spec_l08Moves.f k (l0.length : Int) m = some false := by unfold spec_l08Moves.f; rw [if_neg (by omega)]
      rw [this, decide_eq_false hq]; rfl
theorem impl_can (k : Nat) (l0 : List Int) (ws : List S55) (m : List Int) (hm : m.length ≤ 2000000) (hk : 4000000 < k) : impl_IsMove.f k l0 ws m = some (canB l0 ws m) := by
  unfold impl_IsMove.f canB
  rw [impl_valid k l0 ws (by omega), Option.bind_some]
  cases hv : validB l0 ws with
  | false => rfl
  | true =>
    obtain ⟨hn, hl, -, hw⟩ := valid_ok hv
    rw [if_pos rfl, Bool.true_and]
    by_cases hq : m.length = l0.length
    · rw [if_pos (by omega), are_eq k m (by omega) (by omega), Option.bind_some, decide_eq_true hq, Bool.true_and]
      cases hmv : m.all mv with
      | false => rfl
      | true =>
        rw [if_pos rfl, Bool.true_and, imoved_eq k l0 ws m (by omega) hl (by rw [hq]; exact hw) (by omega), Option.bind_some, iform_eq k l0 _ (by omega), Option.bind_some]
    · rw [if_neg (by omega), decide_eq_false hq]; rfl
end Go.Proofs.Ytojpibpjieanhaa.X
end
section
namespace Go.Proofs.Ytojpibpjieanhaa.ConsMath
open Go.RowKit Go.Proofs.YtojpibpjieanhaaW.PrintWords Go.Proofs.YtojpibpjieanhaaW.PrintLast Go.Proofs.YtojpibpjieanhaaW.PrintMore
open Go.Proofs.Ytojpibpjieanhaa.X Go.Proofs.Ytojpibpjieanhaa.FlowMath
set_option linter.unusedVariables false
set_option linter.unusedSimpArgs false
variable {d : List Int} {ws : List S55} {n : Nat} {P : Int} {M : Nat → Nat → Bt}
theorem cn_wire {w : S55} (hw : w ∈ ws) : Cn P n ws M w.f0.toNat w.f1.toNat (- w.f2) := List.mem_append.2 (.inl (List.mem_map.2 ⟨w, hw, rfl⟩))
theorem cn_pair {i j : Nat} (hi : i < n) (hj : j < n) (hf : (M i j).f = true) (hd : (M i j).d > P) : Cn P n ws M i j (1 - (M i j).r) := by
  refine List.mem_append.2 (.inr ?_)
  unfold eP
  refine List.mem_flatMap.2 ⟨i, List.mem_range.2 hi, List.mem_flatMap.2 ⟨j, List.mem_range.2 hj, ?_⟩⟩
  unfold ePs
  rw [if_pos ⟨hf, hd⟩]
  exact List.mem_singleton.2 rfl
theorem cn_cases {u v : Nat} {x : Int} (h : Cn P n ws M u v x) : (∃ w, w ∈ ws ∧ u = w.f0.toNat ∧ v = w.f1.toNat ∧ x = - w.f2) ∨ (u < n ∧ v < n ∧ (M u v).f = true ∧ (M u v).d > P ∧ x = 1 - (M u v).r) := by
  unfold Cn eA at h
  rcases List.mem_append.1 h with h | h
  · obtain ⟨w, h1, h2⟩ := List.mem_map.1 h
    unfold eW at h2
    simp only [Prod.mk.injEq] at h2
    exact .inl ⟨w, h1, h2.1.symm, h2.2.1.symm, h2.2.2.symm⟩
  · unfold eP at h
    obtain ⟨i, hi, h⟩ := List.mem_flatMap.1 h
    obtain ⟨j, hj, h⟩ := List.mem_flatMap.1 h
    rw [List.mem_range] at hi hj
    unfold ePs at h
    split at h
    · rename_i hc
      rw [List.mem_singleton] at h
      simp only [Prod.mk.injEq] at h
      obtain ⟨rfl, rfl, rfl⟩ := h
      exact .inr ⟨hi, hj, hc.1, hc.2, rfl⟩
    · cases h
theorem cn_lt (hw : ∀ w, w ∈ ws → WireOk n w) : ∀ u v x, Cn P n ws M u v x → u < n ∧ v < n := by
  intro u v x h
  rcases cn_cases h with ⟨w, h1, h2, h3, h4⟩ | ⟨h1, h2, h3⟩
  · have := hw w h1
    unfold WireOk at this
    omega
  · exact ⟨h1, h2⟩
theorem Far.mono {C : Nat → Nat → Int → Prop} {k k' : Nat} {f : Nat → Int} (h : Far C n k f) (hk : k' ≤ k) : Far C n k' f := fun m v s hm hw => h m v s (by omega) hw
structure Best (C : Nat → Nat → Int → Prop) (n : Nat) (m : List Int) : Prop where
  len : m.length = n
  sol : Sol C n fun v => rd m (v : Int)
  least : ∀ L, Sol C n L → ∀ v, v < n → rd m (v : Int) ≤ L v
theorem rd_out (l : List Int) (v : Nat) (h : l.length ≤ v) : rd l (v : Int) = 0 := by
  unfold rd
  rw [Int.toNat_natCast, List.getD_eq_getElem?_getD, List.getElem?_eq_none h]; rfl
theorem rd_ext {x y : List Int} (hl : x.length = y.length) (h : ∀ v : Nat, v < x.length → rd x (v : Int) = rd y (v : Int)) : x = y := by
  apply List.ext_getElem hl
  intro i h1 h2
  have := h i h1
  unfold rd at this
  rwa [Int.toNat_natCast, List.getD_eq_getElem?_getD, List.getD_eq_getElem?_getD, List.getElem?_eq_getElem h1, List.getElem?_eq_getElem h2] at this
theorem Best.same {C : Nat → Nat → Int → Prop} {m m' : List Int} (h : Best C n m) (h' : Best C n m') : m = m' := by
  refine rd_ext (by rw [h.len, h'.len]) fun v hv => ?_
  have hv : v < n := by rw [← h.len]; exact hv
  have h1 : rd m (v : Int) ≤ rd m' (v : Int) := h.least _ h'.sol v hv
  have h2 : rd m' (v : Int) ≤ rd m (v : Int) := h'.least _ h.sol v hv
  omega
theorem mv_go (K : Nat) (h8 : n ≤ 8) (h16 : ws.length ≤ 16) (hw : ∀ w, w ∈ ws → WireOk n w) (hM : ∀ i j, (M i j).f = true → 0 ≤ (M i j).r ∧ (M i j).r ≤ 1000000) (hK : 4000000 < K) :
    ∀ (e i : Nat) (m : List Int), e + i = n + 1 → m.length = n → Bn (80 * i) (fun v => rd m (v : Int)) → Snd (Cn P n ws M) n (fun v => rd m (v : Int)) → Far (Cn P n ws M) n i (fun v => rd m (v : Int)) → (e = 0 → ∀ L, ¬ Sol (Cn P n ws M) n L) →
    ∃ R, mvF K P n d ws (rowsS n M) e m = some R ∧ ((R = ([], false) ∧ ∀ L, ¬ Sol (Cn P n ws M) n L) ∨ ∃ m', Best (Cn P n ws M) n m' ∧ R = (m', canB d ws m')) := by
  have hC := cn_lt (P := P) (M := M) hw
  intro e
  induction e with
  | zero => exact fun i m _ _ _ _ _ h0 => ⟨_, rfl, .inl ⟨rfl, h0 rfl⟩⟩
  | succ e ih =>
    intro i m hi hl hb hs hf h0
    obtain ⟨hU, hB⟩ := mvRound_up P M h8 h16 hw hM hl (t := 80 * i) (by omega) hb
    have hlen : (mvRound P n ws (rowsS n M) m).1.length = n := by rw [mvRound_len]; exact hl
    have hes : ∀ e, e ∈ eA P n ws M → Cn P n ws M e.1 e.2.1 e.2.2 := fun e he => he
    have h1 : (fun v : Nat => rd (mvRound P n ws (rowsS n M) m).1 (v : Int)) = (ups (eA P n ws M) (mU (m, false))).1 := congrArg Prod.fst hU
    have h2 : (mvRound P n ws (rowsS n M) m).2 = (ups (eA P n ws M) (mU (m, false))).2 := congrArg Prod.snd hU
    have hs0 : Snd (Cn P n ws M) n (mU (m, false)).1 := hs
    have hf0 : Far (Cn P n ws M) n i (mU (m, false)).1 := hf
    rw [mvF]
    by_cases hfl : (mvRound P n ws (rowsS n M) m).2 = true
    · rw [if_pos hfl]
      refine ih (i + 1) _ (by omega) hlen (by rw [Nat.mul_add]; exact hB) (by rw [h1]; exact ups_snd hC _ _ hes hs0) (by rw [h1]; exact far_next (fun u v x h => h) hf0) fun he L hL => ?_
      have := far_still hC hL hes hs0 (hf0.mono (by omega))
      rw [this] at h2
      rw [h2] at hfl
      exact Bool.noConfusion hfl
    · rw [if_neg hfl]
      have hfl : (mvRound P n ws (rowsS n M) m).2 = false := by simpa using hfl
      rw [hfl] at h2
      obtain ⟨_, q2, q3⟩ := ups_flag _ _ h2.symm
      rw [q2] at h1
      rw [impl_can K d ws _ (by omega) hK, Option.bind_some]
      refine ⟨_, rfl, .inr ⟨_, ⟨hlen, ?_, ?_⟩, rfl⟩⟩
      · rw [h1]
        exact ⟨fun v hv => (hb v).1, fun u v x hc => q3 _ hc⟩
      · intro L hL v hv
        have e1 : rd (mvRound P n ws (rowsS n M) m).1 (v : Int) = (mU (m, false)).1 v := congrFun h1 v
        rw [e1]
        obtain ⟨k, hk⟩ := hs0 v hv
        exact hL.ge hk
theorem rd_rep (n v : Nat) : rd (List.replicate n 0) (v : Int) = 0 := by
  unfold rd
  rw [Int.toNat_natCast, List.getD_eq_getElem?_getD, List.getElem?_replicate]
  split <;> rfl
theorem mv_res (K : Nat) (h8 : n ≤ 8) (h16 : ws.length ≤ 16) (hw : ∀ w, w ∈ ws → WireOk n w) (hM : ∀ i j, (M i j).f = true → 0 ≤ (M i j).r ∧ (M i j).r ≤ 1000000) (hK : 4000000 < K) :
    ∃ R, mvF K P n d ws (rowsS n M) (n + 1) (List.replicate n 0) = some R ∧ ((R = ([], false) ∧ ∀ L, ¬ Sol (Cn P n ws M) n L) ∨ ∃ m', Best (Cn P n ws M) n m' ∧ R = (m', canB d ws m')) := by
  have hC := cn_lt (P := P) (M := M) hw
  refine mv_go K h8 h16 hw hM hK (n + 1) 0 _ (by omega) (List.length_replicate ..) (fun v => ?_) (fun v hv => ?_) (fun m v s hm hh => ?_) (fun h => by omega)
  · simp only [rd_rep]; omega
  · simp only [rd_rep]; exact ⟨0, .start hv⟩
  · have : m = 0 := by omega
    subst this
    cases hh
    simp only [rd_rep]; exact Int.le_refl _
end Go.Proofs.Ytojpibpjieanhaa.ConsMath
end
section
-- Written by a program of this session out of the kit's print of the loaded functions: a plain function of a Go function, and its contract.
namespace Go.Proofs.Ytojpibpjieanhaa.X
open Go.RowKit Go.Proofs.YtojpibpjieanhaaW.PrintWords Go.Proofs.YtojpibpjieanhaaW.PrintLast Go.Proofs.YtojpibpjieanhaaW.PrintMore
attribute [local go_sem] max2_int min2_int max_two min_two max_three min_three max_four min_four   -- for this text's walks alone
set_option linter.unusedVariables false
set_option linter.unusedSimpArgs false
def spec_l00Max.f (a0 : Int) (a1 : Int) : Option (Int) := if a0 > a1 then (some a0) else (some a1)
set_option maxHeartbeats 8000000 in
set_option maxRecDepth 100000 in
theorem spec_l00Max.calls (a0 : Int) (a1 : Int) (r : Int) (w : World) (h : spec_l00Max.f a0 a1 = some r) :
  Calls Try.prog 89 #[.int .i64 a0, .int .i64 a1] w fun e w' => e = .returned (.int .i64 r) ∧ Drawn0 w w' := by
 have H : (if a0 > a1 then (some a0) else (some a1)) = some r := h
 clear h
 by_cases c3 : a0 > a1
 ·rw [if_pos c3] at H
  have c3b0 : decide (a1 < a0) = true := decide_eq_true c3
  clear c3
  obtain rfl := Option.some.inj H
  go_enter Try.func89, Try.ntmps89
  go_wp2
  go_ret
  exact ⟨by first | rfl | (simp; done) | (simp [*]; done), by repeat (first | exact Drawn0.refl _ | apply Drawn0.step)⟩
 ·rw [if_neg c3] at H
  have c3b0 : decide (a1 < a0) = false := decide_eq_false c3
  clear c3
  obtain rfl := Option.some.inj H
  go_enter Try.func89, Try.ntmps89
  go_wp2
  go_ret
  exact ⟨by first | rfl | (simp; done) | (simp [*]; done), by repeat (first | exact Drawn0.refl _ | apply Drawn0.step)⟩
end Go.Proofs.Ytojpibpjieanhaa.X
end
section
namespace Go.Proofs.Ytojpibpjieanhaa.X
open Go
section
variable {P : Program} {ops : Array Oper} {md : Region.Mode} {C : World → Prop}
def headQ (P : Program) (md : Region.Mode) (ops : Array Oper) (C : World → Prop) (n : Nat) (L : Array Bool → Act → Prop) : Nat → Array Bool → Act → Prop
  | 0, listed, a => L listed a
  | f + 1, listed, a => Region.ready md ops listed ≠ [] ∧ ∀ i ∈ Region.ready md ops listed, i < n ∧ qOp P ops C i (headQ P md ops C n L f (listed.setIfInBounds i true)) a
theorem any_of_headQ {n g : Nat} {L : Array Bool → Act → Prop} {Q' : Exit → Act → World → Prop} (hL : ∀ listed a w, C w → L listed a → wpAny P md ops Q' g listed a w) :
    ∀ (f : Nat) (listed : Array Bool) (a : Act) (w : World), C w → headQ P md ops C n L f listed a → wpAny P md ops Q' (f + g) listed a w
  | 0, listed, a, w, hw, h => by rw [Nat.zero_add]; exact hL _ _ _ hw h
  | f + 1, listed, a, w, hw, h => by
    rw [show f + 1 + g = (f + g) + 1 by omega]
    exact ⟨fun h0 => absurd h0 h.1, fun i hi => wpOp_of_qOp hw (fun a' w' hw' h' => any_of_headQ hL f _ a' w' hw' h') (h.2 i hi).2⟩
theorem headQ_first {n i : Nat} {oi : Oper} {v : Value} {L : Array Bool → Act → Prop} (hi : ops[i]? = some oi) (hsel : ∀ (j : Nat) (o : Oper) cs b, ops[j]? = some o → o.op ≠ .select cs b)
    (hs : Region.sinkB md ops n = true) (hc : Region.chainB md ops n = true) (hn : n < ops.size) (hin : i < n) (hdone : ∀ listed a, L listed a → ∀ j ∈ Region.ready md ops listed, n ≤ j) :
    ∀ (f : Nat) (listed : Array Bool) (a : Act), HeadInv md ops n listed →
      (∀ j oj, ops[j]? = some oj → j ≠ i → listed.getD j true = false → (∀ e ∈ oj.after, Region.binds md e = true → e.on ≠ i) → oi.apart ops oj = true) →
      i ∈ Region.ready md ops listed → YieldsIn P ops C oi v a → headQ P md ops C n L f (listed.setIfInBounds i true) (a.put oi.dst v) → headQ P md ops C n L (f + 1) listed a := by
  intro f
  induction f with
  | zero =>
    intro listed a inv _ hr hy H
    refine ⟨List.ne_nil_of_mem hr, fun j hj => ?_⟩
    have hjn : j < n := Nat.lt_of_not_le fun hh => tail_waits hs hc hn inv _ i rfl hin (mem_ready.1 hr).1 j hh hj
    refine ⟨hjn, ?_⟩
    by_cases hji : j = i
    · subst hji; exact hy.qOp hi H
    · exact absurd (hdone _ _ H j (ready_mono hj hji)) (by omega)
  | succ f ih =>
    intro listed a inv hfree hr hy H
    have hun := (mem_ready.1 hr).1
    refine ⟨List.ne_nil_of_mem hr, fun j hj => ?_⟩
    have hjn : j < n := Nat.lt_of_not_le fun hh => tail_waits hs hc hn inv _ i rfl hin hun j hh hj
    refine ⟨hjn, ?_⟩
    by_cases hji : j = i
    · subst hji; exact hy.qOp hi H
    · obtain ⟨hjun, oj, hoj, hall⟩ := mem_ready.1 hj
      have hnot : ∀ e ∈ oj.after, Region.binds md e = true → e.on ≠ i := fun e he hb heq => by
        have := hall e he hb
        rw [heq, getD_both hun] at this
        cases this
      have h2 := qOp_put hoj (hfree j oj hoj hji hjun hnot) (fun cs b => hsel i oi cs b hi) (fun cs b => hsel j oj cs b hoj) hy (H.2 j (ready_mono hj hji)).2
      refine qOp_mono (fun a' h3 => ih (listed.setIfInBounds j true) a' (inv.set hj hjn) (fun k ok hk hki hku hno => hfree k ok hk hki (by
        by_cases hjk : j = k
        · subst hjk; exact hjun
        · rwa [getD_set_ne true hjk] at hku) hno) (ready_mono hr (Ne.symm hji)) h3.1 (by rw [Array.setIfInBounds_comm _ _ hji]; exact h3.2)) h2
theorem headQ_lex {n g : Nat} {Lq : Act → Prop} (hsel : Region.noSelect ops = true) (hs : Region.sinkB md ops n = true) (hc : Region.chainB md ops n = true) (hn : n < ops.size) :
    ∀ (l : List Oper) (k : Nat) (listed : Array Bool) (a : Act), (∀ j, j < l.length → l[j]? = ops[k + j]?) → k + l.length = n → HeadInv md ops n listed →
    Region.lexHead md ops g l.length k listed = true → wpQuiet P ops C Lq l a → headQ P md ops C n (fun listed' a' => Region.seqB md ops g n listed' = true ∧ Lq a') l.length listed a
  | [], k, listed, a, _, hk, _, hB, h => by
    have : k = n := by simpa using hk
    subst this
    exact ⟨by simpa [Region.lexHead] using hB, h⟩
  | o :: l, k, listed, a, hl, hk, inv, hB, h => by
    have h0 : ops[k]? = some o := by simpa using (hl 0 (by simp)).symm
    simp only [List.length_cons, Region.lexHead, Bool.and_eq_true] at hB
    obtain ⟨⟨hr, hf⟩, hB'⟩ := hB
    have hkn : k < n := by simp only [List.length_cons] at hk; omega
    have hr' : k ∈ Region.ready md ops listed := by simpa using hr
    obtain ⟨v, hy, hK⟩ := yieldsIn_of_qOp (i := k) h0 (show qOp P ops C k (wpQuiet P ops C Lq l) a by unfold qOp; simp only [h0]; exact h)
    exact headQ_first h0 (Region.noSelect_spec hsel) hs hc hn hkn (fun _ _ hL => seqB_ready hL.1) l.length listed a inv (Region.free_spec h0 hf) hr' hy
      (headQ_lex hsel hs hc hn l (k + 1) _ _ (fun j hj => by have := hl (j + 1) (by simp; omega); simpa [Nat.add_assoc, Nat.add_comm 1 j] using this) (by simp only [List.length_cons] at hk; omega) (inv.set hr' hkn) hB' hK)
theorem region_quiet_tail {id : Nat} {Q : Exit → Act → World → Prop} {a : Act} {w : World} {l : List Oper} (n : Nat) (hm : P.follows .mixedOrders = true) (hB : Region.lexTailB .any l.toArray n = true)
    (h : wpQuiet P l.toArray (fun w' => ∃ k, w' = w.drewN k) (fun a' => ∀ w', (∃ k, w' = w.drewN k) → wpList P l.toArray Q (l.drop n) a' w') (l.take n) a) : (Code.region id l.toArray true).wp P Q a w := by
  simp only [Region.lexTailB, Bool.and_eq_true, decide_eq_true_eq] at hB
  obtain ⟨⟨⟨⟨hsel, hn⟩, hs⟩, hc⟩, hlex⟩ := hB
  have hn' : n < l.length := by simpa using hn
  have htl : (l.take n).length = n := by simp; omega
  have hdl : (l.drop n).length = l.toArray.size - n := by simp
  have inv0 : HeadInv .any l.toArray n (Array.replicate l.toArray.size false) :=
    ⟨by simp, fun j oj _ hl => (by rw [getD_replicate_false] at hl; cases hl), fun t _ ht => getD_in (by simpa using ht) (getD_replicate_false _ _)⟩
  have H := headQ_lex (md := .any) (C := fun w' => ∃ k, w' = w.drewN k) (g := l.toArray.size - n) hsel hs hc hn (l.take n) 0 _ a (fun j hj => by
    have hj' : j < n := by rw [htl] at hj; exact hj
    simp [hj']) (by simpa using htl) inv0 (by rw [htl]; exact hlex) h
  refine wp_region_any hm ?_
  have := any_of_headQ (Q' := Q) (g := l.toArray.size - n) (fun listed a' w' hw' hL => by
    have := wpAny_of_seq (md := .any) (Q' := Q) (l.drop n) n listed a' w' (fun j => by simp [List.getElem?_drop]) (by rw [hdl]; exact hL.1) (hL.2 w' hw')
    rwa [hdl] at this) _ _ _ { w with drawn := w.drawn + 1 } ⟨1, rfl⟩ H
  rw [htl, show n + (l.toArray.size - n) = l.toArray.size by omega] at this
  exact this
end
end Go.Proofs.Ytojpibpjieanhaa.X
end
section
namespace Go.Proofs.Ytojpibpjieanhaa.X
open Go.RowKit Go.Proofs.YtojpibpjieanhaaW.PrintWords Go.Proofs.YtojpibpjieanhaaW.PrintLast Go.Proofs.YtojpibpjieanhaaW.PrintMore
set_option linter.unusedVariables false
set_option linter.unusedSimpArgs false
def smx (a b : Int) : Int := if a > b then a else b
theorem smx_eq (a b : Int) : spec_l00Max.f a b = some (smx a b) := by unfold spec_l00Max.f smx; split <;> rfl
def endStep (d x : List Int) (w : S55) : List Int := if w.f2 = 0 then x.set w.f1.toNat (smx (rd x w.f1) (wrap64 (rd x w.f0 + rd d w.f1))) else x
def endRound (d : List Int) (ws : List S55) : Nat → List Int → List Int
  | 0, x => x
  | j + 1, x => endStep d (endRound d ws j x) (rd_T55 ws (j : Int))
def endRounds (d : List Int) (ws : List S55) : Nat → List Int
  | 0 => d
  | i + 1 => endRound d ws ws.length (endRounds d ws i)
def endOut (P : Int) (n : Nat) (x : List Int) : Nat → List Bool
  | 0 => List.replicate n false
  | i + 1 => (endOut P n x i).set i (decide (rd x (i : Int) > P))
set_option maxHeartbeats 16000000 in
set_option maxRecDepth 100000 in
theorem ends_walk (g : Nat) (A0 : Option Addr) (c0 : Nat) (d : List Int) (A1 : Option Addr) (c1 : Nat) (ws : List S55) (P : Int) (n m : Nat) (hn0 : n = d.length) (hm0 : m = ws.length) (h1 : 1 ≤ n) (hn : n ≤ 1000000) (hm : m ≤ 1000000) (hw : ∀ j : Nat, j < m → WireIn n (rd_T55 ws (j : Int))) (w : World)
    (hb1 : w.heap[g]? = some (.cells #[.slice A0 n c0, .slice A1 m c1] 36 (0, 0))) (hr0 : Kd.C (Kd.int .i64) w A0 n d) (hr1 : Kd.C k55 w A1 m ws) :
    Calls Try.prog 97 #[.pointer (some ⟨g, 0, none⟩), .int .i64 P] w fun e w' => ∃ v : Value, e = .returned v ∧ Kd.R Kd.bool 4 w' w.heap.size (fun _ => True) v (endOut P n (endRounds d ws n) n) ∧ Below w.heap.size w w' := by
  have HR0 := Aside0.mk hr0
  have HR1 := Aside0.mk hr1
  have HW := Aside0.mk hw
  have HN0 := Aside0.mk hn0
  have HM0 := Aside0.mk hm0
  have HB1 := Aside0.mk hb1
  have HCL : Aside0 (spec_l00Own.f d = some d) := ⟨by unfold spec_l00Own.f; rw [Option.bind_some, if_pos (by simp; omega), List.nil_append]⟩
  have c1_0 : w.cell? ⟨g, 0, none⟩ = some (.slice A0 n c0) := (blk_cell hb1 0).trans rfl
  have c1_1 : w.cell? ⟨g, 1, none⟩ = some (.slice A1 m c1) := (blk_cell hb1 1).trans rfl
  clear hr0 hr1 hw hm0 hn0 hb1
  have HB := Aside0.mk (Below.refl w.heap.size w)
  go_enter Try.func97, Try.ntmps97
  go_wp2_with (first
    | (go_at_call 93; have T := spec_l00Own.calls A0 c0 d d w (by rw [← HN0.out]; exact HR0.out) trivial HCL.out; rw [← HN0.out] at T; refine T.mono ?_; clear T; rintro e wz ⟨v1, rfl, ho, hb⟩; obtain ⟨gR, cR, rfl, hgb, hgl, cl, hcl⟩ := Kd.R_form ho (by rw [← HN0.out]; exact h1); rw [← HN0.out] at ho; have HO := Aside0.mk ho; have GR := Aside0.mk hgb; clear ho hgb hgl hcl cl c1_0 c1_1; rw [← HN0.out]; have n0_ := Aside0.mk (below_step HB.out hb); have n1_ := Aside0.mk (blk_below HB1.out hb); clear HB HB1 hb; have HB := n0_; have HB1 := n1_; clear n0_ n1_))
  go_loopg [7] n (fun kq v7 w' => ∃ i : Nat, v7 = .int .i64 i ∧ Aside0 (i + kq = n) ∧ Aside0 (w'.heap[g]? = some (.cells #[.slice A0 n c0, .slice A1 m c1] 36 (0, 0))) ∧ Aside0 (Kd.R (Kd.int .i64) 2 w' w.heap.size (fun _ => True) (.slice (some ⟨gR, 0, none⟩) n cR) (endRounds d ws i)) ∧ Aside0 (Below w.heap.size w w'))
  case atStart => exact ⟨0, by first | rfl | simp, ⟨by omega⟩, HB1, HO, HB⟩
  case round =>
    clear HB1 HO HB
    obtain ⟨i, rfl, HE, Q1, QR, QB⟩ := hrel
    by_cases hlt : i < n
    · cases gk with
      | zero => have := HE.out; omega
      | succ gq =>
      have e1 : decide ((i : Int) < (n : Int)) = true := decide_eq_true (by omega)
      have e1' : decide (i < n) = true := decide_eq_true hlt
      go_wp2
      obtain ⟨wo, rfl⟩ : ∃ wo : World, wo = wr := ⟨_, rfl⟩
      go_loopg [8] m (fun kq v8 w' => ∃ j : Nat, v8 = .int .i64 j ∧ Aside0 (j + kq = m) ∧ Aside0 (w'.heap[g]? = some (.cells #[.slice A0 n c0, .slice A1 m c1] 36 (0, 0))) ∧ Aside0 (Kd.R (Kd.int .i64) 2 w' w.heap.size (fun _ => True) (.slice (some ⟨gR, 0, none⟩) n cR) (endRound d ws j (endRounds d ws i))) ∧ Aside0 (Below w.heap.size w w'))
      case atStart => exact ⟨0, by first | rfl | simp, ⟨by omega⟩, Q1, QR, QB⟩
      case round =>
        clear Q1 QR QB
        obtain ⟨j, rfl, HJ, Q1, QR, QB⟩ := hrel
        have c1_1 : wr.cell? ⟨g, 1, none⟩ = some (.slice A1 m c1) := (blk_cell Q1.out 1).trans rfl
        by_cases hlj : j < m
        · cases gk with
          | zero => have := HJ.out; omega
          | succ gq2 =>
          obtain ⟨ad, hA, x0, x1, x2⟩ := at_T55 (Kd.C_below HR1.out QB.out) (j : Int) (by omega) (by omega)
          cases hA
          rw [Int.toNat_natCast] at x0 x1 x2
          obtain ⟨o0, o1, o2, o3⟩ := HW.out j hlj
          obtain ⟨X, hX⟩ : ∃ X, X = endRound d ws j (endRounds d ws i) := ⟨_, rfl⟩
          have HX : Aside0 (endRound d ws (j + 1) (endRounds d ws i) = endStep d X (rd_T55 ws (j : Int))) := ⟨by rw [hX]; rfl⟩
          rw [← hX] at QR
          clear hX
          obtain ⟨el, hel⟩ : ∃ el, el = rd_T55 ws (j : Int) := ⟨_, rfl⟩
          rw [← hel] at x0 x1 x2 o0 o1 o2 o3 HX
          clear hel
          obtain ⟨a, ha⟩ : ∃ a : Nat, el.f0 = a := ⟨el.f0.toNat, by omega⟩
          obtain ⟨b, hb⟩ : ∃ b : Nat, el.f1 = b := ⟨el.f1.toNat, by omega⟩
          obtain ⟨f0, f1', f2⟩ := el
          simp only at x0 x1 x2 o0 o1 o2 o3 ha hb
          subst ha
          subst hb
          have hi0 : a < n := by omega
          have hi1 : b < n := by omega
          have p0 : (0 ≤ (a : Int)) = True := eq_true (by omega)
          have p1 : ((a : Int) < (n : Int)) = True := eq_true (by omega)
          have q0 : (0 ≤ (b : Int)) = True := eq_true (by omega)
          have q1 : ((b : Int) < (n : Int)) = True := eq_true (by omega)
          have p2 : (0 ≤ (j : Int)) = True := eq_true (by omega)
          have p3 : ((j : Int) < (m : Int)) = True := eq_true (by omega)
          have wj : IntKind.i64.wrap ((j : Int) + 1) = (j : Int) + 1 := IntWalk.i64_in _ ⟨by omega, by omega⟩
          cases hf : (f2 == 0) with
          | false =>
            have HF : Aside0 (¬ f2 = 0) := ⟨by simpa using hf⟩
            go_wp2_with ((with_reducible refine gate_dst (N := 9) rfl ?_); refine box_event ?hg (N := 9) ?hd (cs := #[.int .i64 0, .int .i64 0, .int .i64 0]) (t := 55) ?hr ?_; (case hd => rfl); (case hg => rfl); (case hr => first | (go_simp; done) | (go_simp; rfl)); intro g5 hg wn hbox hb5; have B5 := Aside0.mk hbox; have HB5 := Aside0.mk hb5; have GE5 := Aside0.mk (show wr.heap.size ≤ g5 by rw [hg]; exact Nat.le_refl _); clear hg hb5 hbox; have z5_0 := blk_frozen B5.out 0; have z5_1 := blk_frozen B5.out 1; have z5_2 := blk_frozen B5.out 2; have c5_0 : wn.cell? ⟨g5, 0, none⟩ = some (.int .i64 0) := (blk_cell B5.out 0).trans rfl; have c5_1 : wn.cell? ⟨g5, 1, none⟩ = some (.int .i64 0) := (blk_cell B5.out 1).trans rfl; have c5_2 : wn.cell? ⟨g5, 2, none⟩ = some (.int .i64 0) := (blk_cell B5.out 2).trans rfl; have c5_3 : ∀ u v t, (((wn.setCell ⟨g5, 0, none⟩ u).setCell ⟨g5, 1, none⟩ v).setCell ⟨g5, 2, none⟩ t).cell? ⟨g5, 2, none⟩ = some t := fun u v t => (blk_cell (blk_put (blk_put (blk_put B5.out 0 u rfl) 1 v rfl) 2 t rfl) 2).trans rfl)
            have HBX := below_set (j := 2) (v := .int .i64 f2) (below_set (j := 1) (v := .int .i64 (b : Int)) (below_set (j := 0) (v := .int .i64 (a : Int)) HB5.out GE5.out) GE5.out) GE5.out
            have p1' := Aside0.mk (blk_below Q1.out HBX)
            have pR := Aside0.mk (Kd.R_below QR.out HBX)
            have pb := Aside0.mk (below_step QB.out HBX)
            go_roundg gq2
            case measure => omega
            case rel => exact ⟨j + 1, by go_num, ⟨by have := HJ.out; omega⟩, p1', ⟨by rw [HX.out]; unfold endStep; rw [if_neg HF.out]; exact pR.out⟩, pb⟩
          | true =>
            have HF : Aside0 (f2 = 0) := ⟨by simpa using hf⟩
            go_wp2_with ((with_reducible refine gate_dst (N := 9) rfl ?_); refine box_event ?hg (N := 9) ?hd (cs := #[.int .i64 0, .int .i64 0, .int .i64 0]) (t := 55) ?hr ?_; (case hd => rfl); (case hg => rfl); (case hr => first | (go_simp; done) | (go_simp; rfl)); intro g5 hg wn hbox hb5; have B5 := Aside0.mk hbox; have HB5 := Aside0.mk hb5; have GE5 := Aside0.mk (show wr.heap.size ≤ g5 by rw [hg]; exact Nat.le_refl _); clear hg hb5 hbox; have z5_0 := blk_frozen B5.out 0; have z5_1 := blk_frozen B5.out 1; have z5_2 := blk_frozen B5.out 2; have c5_0 : wn.cell? ⟨g5, 0, none⟩ = some (.int .i64 0) := (blk_cell B5.out 0).trans rfl; have c5_1 : wn.cell? ⟨g5, 1, none⟩ = some (.int .i64 0) := (blk_cell B5.out 1).trans rfl; have c5_2 : wn.cell? ⟨g5, 2, none⟩ = some (.int .i64 0) := (blk_cell B5.out 2).trans rfl; have c5_3 : ∀ u v t, (((wn.setCell ⟨g5, 0, none⟩ u).setCell ⟨g5, 1, none⟩ v).setCell ⟨g5, 2, none⟩ t).cell? ⟨g5, 2, none⟩ = some t := fun u v t => (blk_cell (blk_put (blk_put (blk_put B5.out 0 u rfl) 1 v rfl) 2 t rfl) 2).trans rfl)
            have HBX := below_set (j := 2) (v := .int .i64 f2) (below_set (j := 1) (v := .int .i64 (b : Int)) (below_set (j := 0) (v := .int .i64 (a : Int)) HB5.out GE5.out) GE5.out) GE5.out
            have p1' := Aside0.mk (blk_below Q1.out HBX)
            have pR := Aside0.mk (Kd.R_below QR.out HBX)
            have pb := Aside0.mk (below_step QB.out HBX)
            have p5 := Aside0.mk (blk_put (cs' := #[.int .i64 (a : Int), .int .i64 (b : Int), .int .i64 f2]) (blk_put (cs' := #[.int .i64 (a : Int), .int .i64 (b : Int), .int .i64 0]) (blk_put (cs' := #[.int .i64 (a : Int), .int .i64 0, .int .i64 0]) B5.out 0 (.int .i64 (a : Int)) rfl) 1 (.int .i64 (b : Int)) rfl) 2 (.int .i64 f2) rfl)
            clear c5_0 c5_1 c5_2 z5_0 z5_1 z5_2 c5_3 Q1 QR QB B5 HBX HB5 GE5 c1_1
            generalize ((wn.setCell ⟨g5, 0, none⟩ (.int .i64 (a : Int))).setCell ⟨g5, 1, none⟩ (.int .i64 (b : Int))).setCell ⟨g5, 2, none⟩ (.int .i64 f2) = W5 at p1' pR p5 pb ⊢
            obtain ⟨rA, zA⟩ := Kd.R_celln 0 pR.out (a : Int) o0 o1
            obtain ⟨rB, zB⟩ := Kd.R_celln 0 pR.out (b : Int) o2 o3
            obtain ⟨dd, hD, dA⟩ := Kd.at_int (Kd.C_below HR0.out pb.out) (b : Int) o2 o3
            cases hD
            rw [Int.toNat_natCast] at rA rB zB dA
            have rA' : W5.cell? ⟨gR, a, none⟩ = some (.int .i64 (rd X (a : Int))) := rA
            have rB' : W5.cell? ⟨gR, b, none⟩ = some (.int .i64 (rd X (b : Int))) := rB
            have k1_0 : W5.cell? ⟨g, 0, none⟩ = some (.slice (some dd) n c0) := (blk_cell p1'.out 0).trans rfl
            have k5_0 : W5.cell? ⟨g5, 0, none⟩ = some (.int .i64 (a : Int)) := (blk_cell p5.out 0).trans rfl
            have k5_1 : W5.cell? ⟨g5, 1, none⟩ = some (.int .i64 (b : Int)) := (blk_cell p5.out 1).trans rfl
            clear rA rB zA x0 x1 x2 hf
            have HC : Aside0 (∀ W, Calls Try.prog 89 #[.int .i64 (rd X (b : Int)), .int .i64 (IntKind.i64.wrap (rd X (a : Int) + rd d (b : Int)))] W fun e w' => e = .returned (.int .i64 (smx (rd X (b : Int)) (wrap64 (rd X (a : Int) + rd d (b : Int))))) ∧ ∃ nd, w' = W.drewN nd) := ⟨fun W => by
              have T := spec_l00Max.calls (rd X (b : Int)) (wrap64 (rd X (a : Int) + rd d (b : Int))) (smx (rd X (b : Int)) (wrap64 (rd X (a : Int) + rd d (b : Int)))) W (smx_eq _ _)
              rw [IntWalk.i64_left]
              exact T.mono fun e w' ⟨he, hd⟩ => ⟨he, by obtain ⟨nd, hd⟩ := hd; exact ⟨_, hd⟩⟩⟩
            refine region_quiet_tail 24 (by kernel_rfl) (by kernel_rfl) ?_
            simp only [List.take_succ_cons, List.take_zero, List.drop_succ_cons, List.drop_zero]
            repeat (quiet_step (exact Calls.quiet_of (HC.out _)))
            refine wpQuiet_nil ?_
            intro _ hw'
            obtain ⟨nq, hw''⟩ := hw'
            subst hw''
            have HNE : g ≠ gR := by
              obtain ⟨cells, q⟩ := Kd.R_typed pR.out gR (by simp [Value.ownBlock])
              exact blk_ne p1'.out q (by decide)
            have hq1 := blk_far (blk_drewN p1'.out nq) (p := ⟨gR, b, none⟩) HNE (.int .i64 (smx (rd X (b : Int)) (wrap64 (rd X (a : Int) + rd d (b : Int)))))
            have hqR := Kd.R_putn (Kd.R_drewN pR.out nq) (b : Int) (smx (rd X (b : Int)) (wrap64 (rd X (a : Int) + rd d (b : Int))))
            rw [Int.toNat_natCast] at hqR
            have hqb := (pw_below_drewN pb.out nq).setCell (p := ⟨gR, b, none⟩) GR.out (.int .i64 (smx (rd X (b : Int)) (wrap64 (rd X (a : Int) + rd d (b : Int)))))
            have zN : (W5.drewN nq).frozen? ⟨gR, b, none⟩ = false := zB
            have cN : (W5.drewN nq).cell? ⟨gR, b, none⟩ = some (.int .i64 (rd X (b : Int))) := rB'
            have h1q := Aside0.mk hq1
            have hRq := Aside0.mk hqR
            have hbq := Aside0.mk hqb
            clear rA' rB' zB k1_0 k5_0 k5_1 dA hq1 hqR hqb p1' pR p5 pb HNE
            go_wp2
            go_roundg gq2
            case measure => omega
            case rel => exact ⟨j + 1, by go_num, ⟨by have := HJ.out; omega⟩, h1q, ⟨by rw [HX.out]; unfold endStep; rw [if_pos HF.out, Int.toNat_natCast]; exact hRq.out⟩, hbq⟩
        · have e : j = m := by have := HJ.out; omega
          have f1 : decide ((j : Int) < (m : Int)) = false := decide_eq_false (by omega)
          have f2 : decide (j < m) = false := decide_eq_false hlj
          have QR2 : Aside0 (Kd.R (Kd.int .i64) 2 wr w.heap.size (fun _ => True) (.slice (some ⟨gR, 0, none⟩) n cR) (endRounds d ws (i + 1))) := ⟨by rw [endRounds, ← HM0.out, ← e]; exact QR.out⟩
          have wi : IntKind.i64.wrap ((i : Int) + 1) = (i : Int) + 1 := IntWalk.i64_in _ ⟨by omega, by omega⟩
          clear hlj e
          go_wp2
          go_roundg gq
          case measure => omega
          case rel => exact ⟨i + 1, by go_num, ⟨by have := HE.out; omega⟩, Q1, QR2, QB⟩
    · have e : i = n := by have := HE.out; omega
      have f1 : decide ((i : Int) < (n : Int)) = false := decide_eq_false (by omega)
      have f2 : decide (i < n) = false := decide_eq_false hlt
      obtain ⟨X, hX⟩ : ∃ X, X = endRounds d ws n := ⟨_, rfl⟩
      have QR2 : Aside0 (Kd.R (Kd.int .i64) 2 wr w.heap.size (fun _ => True) (.slice (some ⟨gR, 0, none⟩) n cR) X) := ⟨by have h := QR.out; rw [e, ← hX] at h; exact h⟩
      have HXX := Aside0.mk hX
      clear hlt e QR Q1 hX
      have hmk : decide (0 ≤ (n : Int)) = true := decide_eq_true (by omega)
      go_wp2_with ((with_reducible refine gate_dst (N := 71) rfl ?_); refine Kd.R_make Kd.bool _ 4 rfl (N := 71) rfl 99 _ _ rfl (n : Int) rfl rfl Try.underlying99 (.bool false) 1 info4b rfl (by decide) (by omega) false (ok := fun _ => True) (okp := fun _ => True) rfl (fun _ hk => hk) trivial (by omega) (by omega) (Below.refl _ _) (Nat.le_refl _) ?_; intro v71 w4 ho5 hb hg_ hnew_; clear hg_ hnew_; rw [Int.toNat_natCast] at ho5; obtain ⟨gB, cB, hv, hgb, _, _⟩ := Kd.R_form ho5 (by rw [List.length_replicate]; omega); rw [List.length_replicate] at hv; subst hv; have HO := Aside0.mk (Kd.R_lower ho5 (below_size QB.out)); have GB := Aside0.mk (Nat.le_trans (below_size QB.out) hgb); have n0_ := Aside0.mk (below_step QB.out hb); have n1_ := Aside0.mk (Kd.R_below QR2.out hb); clear QB QR2 hb ho5 hgb; have QB := n0_; have QR2 := n1_; clear n0_ n1_)
      go_loopg [11] n (fun kq v11 w' => ∃ i : Nat, v11 = .int .i64 i ∧ Aside0 (i + kq = n) ∧ Aside0 (Kd.R (Kd.int .i64) 2 w' w.heap.size (fun _ => True) (.slice (some ⟨gR, 0, none⟩) n cR) X) ∧ Aside0 (Kd.R Kd.bool 4 w' w.heap.size (fun _ => True) (.slice (some ⟨gB, 0, none⟩) n cB) (endOut P n X i)) ∧ Aside0 (Below w.heap.size w w'))
      case atStart => exact ⟨0, by first | rfl | simp, ⟨by omega⟩, QR2, HO, QB⟩
      case round =>
        clear QR2 HO QB f1 f2
        obtain ⟨i, rfl, HE, QR, QO, QB⟩ := hrel
        by_cases hlt : i < n
        · cases gk with
          | zero => have := HE.out; omega
          | succ gq =>
          obtain ⟨rA, zA⟩ := Kd.R_celln 0 QR.out (i : Int) (by omega) (by omega)
          obtain ⟨rB, zB⟩ := Kd.R_celln false QO.out (i : Int) (by omega) (by omega)
          rw [Int.toNat_natCast] at rA rB zB
          have rA' : wr.cell? ⟨gR, i, none⟩ = some (.int .i64 (rd X (i : Int))) := rA
          clear rA zA
          have p0 : (0 ≤ (i : Int)) = True := eq_true (by omega)
          have p1 : ((i : Int) < (n : Int)) = True := eq_true (by omega)
          have wi : IntKind.i64.wrap ((i : Int) + 1) = (i : Int) + 1 := IntWalk.i64_in _ ⟨by omega, by omega⟩
          have hO := Kd.R_putn QO.out (i : Int) (decide (rd X (i : Int) > P))
          rw [Int.toNat_natCast] at hO
          obtain ⟨cells, q⟩ := Kd.R_typed QO.out gB (by simp [Value.ownBlock])
          have hR2 := Aside0.mk (Kd.R_mono (Kd.R_far (p := ⟨gB, i, none⟩) (Kd.R_types QR.out q (by decide)) (fun _ hk => hk.2) (.bool (decide (rd X (i : Int) > P)))) (ok' := fun _ => True) (fun _ _ => trivial))
          have hOO := Aside0.mk hO
          have hBB := Aside0.mk (QB.out.setCell (p := ⟨gB, i, none⟩) GB.out (.bool (decide (rd X (i : Int) > P))))
          clear hO q
          go_wp2
          go_roundg gq
          case measure => omega
          case rel => exact ⟨i + 1, by go_num, ⟨by have := HE.out; omega⟩, hR2, hOO, hBB⟩
        · have e : i = n := by have := HE.out; omega
          have f1 : decide ((i : Int) < (n : Int)) = false := decide_eq_false (by omega)
          have f2 : decide (i < n) = false := decide_eq_false hlt
          have QO2 : Aside0 (Kd.R Kd.bool 4 wr w.heap.size (fun _ => True) (.slice (some ⟨gB, 0, none⟩) n cB) (endOut P n X n)) := ⟨by have h := QO.out; rw [e] at h; exact h⟩
          clear hlt e QO
          go_wp2
          go_ret
          exact ⟨_, rfl, by rw [← HXX.out]; exact QO2.out, QB.out⟩
end Go.Proofs.Ytojpibpjieanhaa.X
end
section
namespace Go.Proofs.Ytojpibpjieanhaa.X
open Go.RowKit Go.Proofs.YtojpibpjieanhaaW.PrintWords Go.Proofs.YtojpibpjieanhaaW.PrintLast Go.Proofs.YtojpibpjieanhaaW.PrintMore
set_option linter.unusedVariables false
set_option linter.unusedSimpArgs false
def fwStep (w : S55) (s : MC) : MC := if wrap64 (rd s.1 w.f0 - w.f2) > rd s.1 w.f1 then (s.1.set w.f1.toNat (wrap64 (rd s.1 w.f0 - w.f2)), true) else s
def fwN (ws : List S55) (s : MC) : Nat → MC
  | 0 => s
  | j + 1 => fwStep (rd_T55 ws (j : Int)) (fwN ws s j)
def feStep (e : List Bool) (v : Nat) (s : MC) : MC := if rdOf false e (v : Int) = true then (s.1.set v (wrap64 (rd s.1 (v : Int) + 1)), true) else s
def feN (e : List Bool) (s : MC) : Nat → MC
  | 0 => s
  | v + 1 => feStep e v (feN e s v)
def overN (b : Int) (x : List Int) : Nat → Bool
  | 0 => false
  | v + 1 => overN b x v || decide (rd x (v : Int) > b)
instance wiresDec (n : Nat) (l : List S55) : Decidable (∀ w ∈ l, WireIn n w) := List.decidableBAll _ l
def fEnds (K : Nat) (P : Int) (n : Nat) (d : List Int) (ws : List S55) (mv : List Int) : Option MC :=
  (spec_l08Moved.f K d ws mv).bind fun p => if p.1.length = n ∧ p.2.length ≤ 1000000 ∧ (∀ w ∈ p.2, WireIn n w) then some (feN (endOut P n (endRounds p.1 p.2 n) n) (mv, false) n) else none
def forF (K : Nat) (P : Int) (n : Nat) (d : List Int) (ws : List S55) : Nat → List Int → Option (List Int × Bool)
  | 0, _ => none
  | e + 1, mv =>
    (if (fwN ws (mv, false) ws.length).2 = true then some (fwN ws (mv, false) ws.length) else fEnds K P n d ws (fwN ws (mv, false) ws.length).1).bind fun s =>
      if s.2 = true then (if overN 20 s.1 n = true then some ([], false) else forF K P n d ws e s.1) else (spec_l08Can.f K d ws s.1).bind fun b => some (s.1, b)
def spec_l08For.f (k : Nat) (l0 : List Int) (l1 : List S55) (a1 : Int) : Option (List Int × Bool) :=
  if 1 ≤ l0.length ∧ l0.length ≤ 1000000 ∧ l1.length ≤ 1000000 ∧ (∀ w ∈ l1, WireIn l0.length w) then (if overN a1 l0 l0.length = true then some ([], false) else forF k a1 l0.length l0 l1 k (List.replicate l0.length 0)) else none
theorem fEnds_mono (P : Int) (n : Nat) (d : List Int) (ws : List S55) (K : Nat) (m : List Int) : LeO (fEnds K P n d ws m) (fEnds (K + 1) P n d ws m) := by
  unfold fEnds
  exact LeO.bind (spec_l08Moved.mono _ _ _ _) (fun _ => LeO.refl _)
theorem forF_mono (P : Int) (n : Nat) (d : List Int) (ws : List S55) (K : Nat) : ∀ (e : Nat) (m : List Int), LeO (forF K P n d ws e m) (forF (K + 1) P n d ws (e + 1) m)
  | 0, m => fun r h => by simp [forF] at h
  | e + 1, m => by
    rw [forF, show forF (K + 1) P n d ws (e + 1 + 1) m = _ from rfl]
    refine LeO.bind ?_ (fun s => ?_)
    · split
      · exact LeO.refl _
      · exact fEnds_mono _ _ _ _ _ _
    · split
      · split
        · exact LeO.refl _
        · exact forF_mono P n d ws K e _
      · exact LeO.bind (spec_l08Can.mono _ _ _ _) (fun _ => LeO.refl _)
theorem spec_l08For.mono : ∀ a0 a1 a2 k, LeO (spec_l08For.f k a0 a1 a2) (spec_l08For.f (k + 1) a0 a1 a2) := by
  intro a0 a1 a2 k
  unfold spec_l08For.f
  split
  · split
    · exact LeO.refl _
    · exact forF_mono _ _ _ _ _ _ _
  · exact LeO.refl _
end Go.Proofs.Ytojpibpjieanhaa.X
end
section
namespace Go.Proofs.Ytojpibpjieanhaa.ConsMath
open Go.RowKit Go.Proofs.YtojpibpjieanhaaW.PrintWords Go.Proofs.YtojpibpjieanhaaW.PrintLast Go.Proofs.YtojpibpjieanhaaW.PrintMore
open Go.Proofs.Ytojpibpjieanhaa.X Go.Proofs.Ytojpibpjieanhaa.FlowMath
set_option linter.unusedVariables false
set_option linter.unusedSimpArgs false
theorem up_bnB {t B : Nat} {s : Mv} (h : Bn t s.1) (e : Ed) (he : e.2.2 ≤ B) : Bn (t + B) (up s e).1 := by
  intro v
  have h1 := h v
  have h2 := h e.1
  have h3 := h e.2.1
  unfold up
  split
  · show 0 ≤ (if v = e.2.1 then s.1 e.1 + e.2.2 else s.1 v) ∧ (if v = e.2.1 then s.1 e.1 + e.2.2 else s.1 v) ≤ _
    split <;> omega
  · show 0 ≤ s.1 v ∧ s.1 v ≤ _
    omega
theorem ups_le {L : Nat → Int} {n : Nat} : ∀ (es : List Ed) (s : Mv), (∀ e, e ∈ es → e.1 < n ∧ L e.1 + e.2.2 ≤ L e.2.1) → (∀ v, v < n → s.1 v ≤ L v) → ∀ v, v < n → (ups es s).1 v ≤ L v
  | [], _, _, h => h
  | e :: es, s, he, h => by
    refine ups_le es (up s e) (fun x hx => he x (List.mem_cons_of_mem _ hx)) fun v hv => ?_
    obtain ⟨h1, h2⟩ := he e (List.mem_cons_self ..)
    unfold up
    split
    · show (if v = e.2.1 then s.1 e.1 + e.2.2 else s.1 v) ≤ L v
      split
      · have := h _ h1
        subst_vars
        omega
      · exact h v hv
    · exact h v hv
theorem ups_true : ∀ (es : List Ed) (s : Mv), (ups es s).2 = true → s.2 = true ∨ ∃ e, e ∈ es ∧ s.1 e.2.1 < (ups es s).1 e.2.1
  | [], s, h => .inl h
  | d :: es, s, h => by
    by_cases hc : s.1 d.2.1 < s.1 d.1 + d.2.2
    · refine .inr ⟨d, List.mem_cons_self .., ?_⟩
      have h1 := up_new s d
      have h2 := ups_ge es (up s d) d.2.1
      show _ < (ups es (up s d)).1 d.2.1
      omega
    · have e : up s d = s := by unfold up; rw [if_neg hc]
      have h' : (ups es (up s d)).2 = true := h
      rw [e] at h'
      rcases ups_true es s h' with h1 | ⟨x, h1, h2⟩
      · exact .inl h1
      · refine .inr ⟨x, List.mem_cons_of_mem _ h1, ?_⟩
        show _ < (ups es (up s d)).1 x.2.1
        rw [e]; exact h2
theorem ups_any : ∀ (es : List Ed) (f : Nat → Int) (a b : Bool), (ups es (f, a)).1 = (ups es (f, b)).1
  | [], _, _, _ => rfl
  | d :: es, f, a, b => by
    show (ups es (up (f, a) d)).1 = (ups es (up (f, b) d)).1
    unfold up
    simp only
    split
    · rfl
    · exact ups_any es f a b
def Ph (f : Nat → Int) : Nat → Int
  | 0 => 0
  | v + 1 => Ph f v + f v
theorem Ph_le {f g : Nat → Int} : ∀ n, (∀ v, v < n → f v ≤ g v) → Ph f n ≤ Ph g n
  | 0, _ => Int.le_refl _
  | n + 1, h => by
    have := Ph_le n fun v hv => h v (by omega)
    have := h n (by omega)
    rw [Ph, Ph]; omega
theorem Ph_lt {f g : Nat → Int} : ∀ n, (∀ v, v < n → f v ≤ g v) → (∃ v, v < n ∧ f v < g v) → Ph f n < Ph g n
  | 0, _, h => by obtain ⟨v, hv, _⟩ := h; omega
  | n + 1, h, ⟨v, hv, hl⟩ => by
    have h1 := h n (by omega)
    rw [Ph, Ph]
    by_cases e : v = n
    · subst e
      have := Ph_le v fun u hu => h u (by omega)
      omega
    · have := Ph_lt n (fun u hu => h u (by omega)) ⟨v, by omega, hl⟩
      omega
theorem Ph_top {f : Nat → Int} {t : Int} : ∀ n : Nat, (∀ v, v < n → f v ≤ t) → Ph f n ≤ t * n
  | 0, _ => by simp [Ph]
  | n + 1, h => by
    have h1 := Ph_top n fun v hv => h v (by omega)
    have h2 := h n (by omega)
    rw [Ph, Int.natCast_add, Int.natCast_one, Int.mul_add, Int.mul_one]; omega
theorem over_iff (b : Int) (x : List Int) : ∀ n, overN b x n = true ↔ ∃ v : Nat, v < n ∧ b < rd x (v : Int)
  | 0 => by simp [overN]
  | n + 1 => by
    rw [overN, Bool.or_eq_true, over_iff b x n, decide_eq_true_eq]
    constructor
    · rintro (⟨v, h1, h2⟩ | h)
      · exact ⟨v, by omega, h2⟩
      · exact ⟨n, by omega, h⟩
    · rintro ⟨v, h1, h2⟩
      by_cases e : v = n
      · subst e; exact .inr h2
      · exact .inl ⟨v, by omega, h2⟩
variable {d : List Int} {ws : List S55} {n : Nat} {P : Int} {M : Nat → Nat → Bt}
theorem fw_step {w : S55} (h : WireOk n w) (s : MC) : fwStep w s = mwStep w s := by
  unfold WireOk at h
  unfold fwStep mwStep raiseS
  rw [show rd s.1 ((w.f1.toNat : Nat) : Int) = rd s.1 w.f1 by rw [Int.toNat_of_nonneg (by omega)]]
theorem fw_eq (hw : ∀ w, w ∈ ws → WireOk n w) (s : MC) : ∀ j, j ≤ ws.length → fwN ws s j = mwN ws s j
  | 0, _ => rfl
  | j + 1, hj => by
    rw [fwN, mwN, fw_eq hw s j (by omega), rdT_at ws j (by omega)]
    exact fw_step (hw _ (List.getElem_mem _)) _
def zEs (d : List Int) (w : S55) : List Ed := if w.f2 = 0 then [(w.f0.toNat, w.f1.toNat, rd d w.f0)] else []
def zs (d : List Int) (ws : List S55) : List Ed := ws.flatMap (zEs d)
def gd (d x : List Int) : Nat → Int := fun v => rd x (v : Int) - rd d (v : Int)
def Zr (d : List Int) (ws : List S55) (u v : Nat) (x : Int) : Prop := (u, v, x) ∈ zs d ws
theorem zr_iff {u v : Nat} {x : Int} : Zr d ws u v x ↔ ∃ w, w ∈ ws ∧ w.f2 = 0 ∧ u = w.f0.toNat ∧ v = w.f1.toNat ∧ x = rd d w.f0 := by
  unfold Zr zs
  rw [List.mem_flatMap]
  constructor
  · rintro ⟨w, h1, h2⟩
    unfold zEs at h2
    split at h2
    · rw [List.mem_singleton] at h2
      simp only [Prod.mk.injEq] at h2
      exact ⟨w, h1, ‹_›, h2⟩
    · cases h2
  · rintro ⟨w, h1, h2, rfl, rfl, rfl⟩
    refine ⟨w, h1, ?_⟩
    unfold zEs
    rw [if_pos h2]
    exact List.mem_singleton.2 rfl
theorem endStep_len (d x : List Int) (w : S55) : (endStep d x w).length = x.length := by unfold endStep; split <;> simp
theorem end_step (hd : ∀ v : Nat, 0 ≤ rd d (v : Int) ∧ rd d (v : Int) ≤ 100) {w : S55} (hw : WireIn n w) {x : List Int} (hx : x.length = n) {t : Nat} (ht : t ≤ 1000000) (hb : Bn t (gd d x)) : gd d (endStep d x w) = (ups (zEs d w) (gd d x, false)).1 ∧ Bn (t + 100) (gd d (endStep d x w)) := by
  have key : gd d (endStep d x w) = (ups (zEs d w) (gd d x, false)).1 := by
    unfold endStep zEs
    by_cases h2 : w.f2 = 0
    · obtain ⟨w1, w2, w3, w4⟩ := hw
      obtain ⟨a, ha⟩ : ∃ a : Nat, w.f0 = a := ⟨w.f0.toNat, by omega⟩
      obtain ⟨b, hb'⟩ : ∃ b : Nat, w.f1 = b := ⟨w.f1.toNat, by omega⟩
      have x1 := hb a
      have x2 := hb b
      unfold gd at x1 x2
      have d1 := hd a
      have d2 := hd b
      rw [if_pos h2, if_pos h2, ha, hb', Int.toNat_natCast, Int.toNat_natCast, w64 (by omega) (by omega)]
      show _ = (up (gd d x, false) (a, b, rd d (a : Int))).1
      unfold up smx
      simp only
      have hset : ∀ (y : Int) (v : Nat), rd (x.set b y) (v : Int) = if v = b then y else rd x (v : Int) := fun y v => rd_set x b y (by omega) v
      by_cases hc : gd d x b < gd d x a + rd d (a : Int)
      · rw [if_pos hc]
        unfold gd at hc
        rw [if_neg (by omega)]
        funext v
        show rd (x.set b _) (v : Int) - rd d (v : Int) = if v = b then rd x (a : Int) - rd d (a : Int) + rd d (a : Int) else rd x (v : Int) - rd d (v : Int)
        rw [hset]
        by_cases e : v = b
        · subst e; rw [if_pos rfl, if_pos rfl]; omega
        · rw [if_neg e, if_neg e]
      · rw [if_neg hc]
        unfold gd at hc
        funext v
        show rd (x.set b _) (v : Int) - rd d (v : Int) = rd x (v : Int) - rd d (v : Int)
        rw [hset]
        by_cases e : v = b
        · subst e; rw [if_pos rfl]; split <;> omega
        · rw [if_neg e]
    · rw [if_neg h2, if_neg h2]; rfl
  refine ⟨key, ?_⟩
  rw [key]
  unfold zEs
  split
  · obtain ⟨w1, w2, w3, w4⟩ := hw
    refine up_bnB (s := (gd d x, false)) hb _ ?_
    have := (hd w.f0.toNat).2
    rw [Int.toNat_of_nonneg w1] at this
    exact this
  · intro v; have := hb v
    show 0 ≤ gd d x v ∧ gd d x v ≤ _
    omega
theorem end_round (hd : ∀ v : Nat, 0 ≤ rd d (v : Int) ∧ rd d (v : Int) ≤ 100) (hw : ∀ w, w ∈ ws → WireIn n w) {x : List Int} (hx : x.length = n) {t : Nat} (ht : t + 100 * ws.length ≤ 1000000) (hb : Bn t (gd d x)) : ∀ j, j ≤ ws.length →
    (endRound d ws j x).length = n ∧ gd d (endRound d ws j x) = (ups (zs d (ws.take j)) (gd d x, false)).1 ∧ Bn (t + 100 * j) (gd d (endRound d ws j x))
  | 0, _ => ⟨hx, rfl, hb⟩
  | j + 1, hj => by
    obtain ⟨h1, h2, h3⟩ := end_round hd hw hx ht hb j (by omega)
    obtain ⟨g1, g2⟩ := end_step hd (hw ws[j] (List.getElem_mem _)) h1 (t := t + 100 * j) (by omega) h3
    rw [endRound, rdT_at ws j (by omega)]
    refine ⟨by rw [endStep_len]; exact h1, ?_, by rw [Nat.mul_add, ← Nat.add_assoc]; exact g2⟩
    rw [g1, List.take_add_one, List.getElem?_eq_getElem (by omega), Option.toList_some]
    unfold zs
    rw [List.flatMap_append, ups_app, List.flatMap_cons, List.flatMap_nil, List.append_nil, h2]
    exact ups_any _ _ _ _
theorem zr_lt (hw : ∀ w, w ∈ ws → WireIn n w) : ∀ u v x, Zr d ws u v x → u < n ∧ v < n := by
  intro u v x h
  obtain ⟨w, h1, h2, rfl, rfl, h5⟩ := zr_iff.1 h
  have := hw w h1
  unfold WireIn at this
  omega
theorem end_rounds (hdl : d.length = n) (hd : ∀ v : Nat, 0 ≤ rd d (v : Int) ∧ rd d (v : Int) ≤ 100) (h16 : ws.length ≤ 16) (hw : ∀ w, w ∈ ws → WireIn n w) : ∀ i, i ≤ 8 →
    (endRounds d ws i).length = n ∧ Bn (1600 * i) (gd d (endRounds d ws i)) ∧ Snd (Zr d ws) n (gd d (endRounds d ws i)) ∧ Far (Zr d ws) n i (gd d (endRounds d ws i))
  | 0, _ => by
    have h0 : ∀ v, gd d (endRounds d ws 0) v = 0 := fun v => Int.sub_self _
    refine ⟨hdl, fun v => by rw [h0]; omega, fun v hv => ⟨0, by rw [h0]; exact .start hv⟩, fun m v s hm hh => ?_⟩
    have : m = 0 := by omega
    subst this
    cases hh
    rw [h0]; exact Int.le_refl _
  | i + 1, hi => by
    obtain ⟨h1, h2, h3, h4⟩ := end_rounds hdl hd h16 hw i (by omega)
    obtain ⟨g1, g2, g3⟩ := end_round hd hw h1 (t := 1600 * i) (by omega) h2 ws.length (Nat.le_refl _)
    rw [List.take_length] at g2
    rw [endRounds]
    refine ⟨g1, fun v => by have := g3 v; omega, ?_, ?_⟩
    · rw [g2]; exact ups_snd (zr_lt hw) _ _ (fun e he => he) h3
    · rw [g2]; exact far_next (s := (gd d (endRounds d ws i), false)) (fun u v x h => h) h4
theorem endOut_len (P : Int) (n : Nat) (x : List Int) : ∀ i, (endOut P n x i).length = n
  | 0 => List.length_replicate ..
  | i + 1 => by rw [endOut, List.length_set]; exact endOut_len P n x i
theorem endOut_at (P : Int) (n : Nat) (x : List Int) : ∀ i v : Nat, i ≤ n → rdOf false (endOut P n x i) (v : Int) = (decide (v < i) && decide (rd x (v : Int) > P))
  | 0, v, _ => by
    unfold rdOf
    rw [Int.toNat_natCast, List.getD_eq_getElem?_getD, endOut, List.getElem?_replicate]
    split <;> simp
  | i + 1, v, hi => by
    have ih := endOut_at P n x i v (by omega)
    unfold rdOf at ih ⊢
    rw [Int.toNat_natCast, List.getD_eq_getElem?_getD] at ih ⊢
    rw [endOut, List.getElem?_set]
    by_cases e : i = v
    · subst e
      rw [if_pos rfl, if_pos (by rw [endOut_len]; omega)]
      simp
    · rw [if_neg e, ih]
      congr 1
      rw [Bool.eq_iff_iff, decide_eq_true_eq, decide_eq_true_eq]
      omega
theorem feStep_len (e : List Bool) (v : Nat) (s : MC) : (feStep e v s).1.length = s.1.length := by unfold feStep; split <;> simp
theorem fe_all (e : List Bool) (m : List Int) (hm : m.length = n) {t : Nat} (ht : t ≤ 1000000) (hb : Bn t fun v => rd m (v : Int)) : ∀ j, j ≤ n →
    (feN e (m, false) j).1.length = n ∧ (∀ v : Nat, rd (feN e (m, false) j).1 (v : Int) = rd m (v : Int) + if v < j ∧ rdOf false e (v : Int) = true then 1 else 0) ∧
    ((feN e (m, false) j).2 = false → (feN e (m, false) j).1 = m ∧ ∀ v : Nat, v < j → rdOf false e (v : Int) = false) ∧ ((feN e (m, false) j).2 = true → ∃ v : Nat, v < j ∧ rdOf false e (v : Int) = true)
  | 0, _ => ⟨hm, fun v => by rw [if_neg (by omega)]; show rd m _ = rd m _ + 0; omega, fun _ => ⟨rfl, fun v hv => by omega⟩, fun h => Bool.noConfusion h⟩
  | j + 1, hj => by
    obtain ⟨h1, h2, h3, h4⟩ := fe_all e m hm ht hb j (by omega)
    rw [feN]
    refine ⟨by rw [feStep_len]; exact h1, ?_⟩
    unfold feStep
    by_cases hc : rdOf false e (j : Int) = true
    · rw [if_pos hc]
      refine ⟨fun v => ?_, fun h => Bool.noConfusion h, fun _ => ⟨j, by omega, hc⟩⟩
      have hbj := hb j
      simp only at hbj
      have ej := h2 j
      rw [if_neg (fun h => by omega)] at ej
      rw [ej, Int.add_zero, w64 (by omega) (by omega), rd_set _ _ _ (by omega)]
      by_cases e : v = j
      · subst e; rw [if_pos rfl, if_pos ⟨by omega, hc⟩]
      · rw [if_neg e, h2 v]
        congr 1
        by_cases hq : v < j ∧ rdOf false ‹List Bool› (v : Int) = true
        · rw [if_pos hq, if_pos ⟨by omega, hq.2⟩]
        · rw [if_neg hq, if_neg (fun h => hq ⟨by omega, h.2⟩)]
    · rw [if_neg hc]
      refine ⟨fun v => ?_, fun h => ⟨(h3 h).1, fun v hv => ?_⟩, fun h => ?_⟩
      · rw [h2 v]
        congr 1
        by_cases hq : v < j ∧ rdOf false e (v : Int) = true
        · rw [if_pos hq, if_pos ⟨by omega, hq.2⟩]
        · rw [if_neg hq, if_neg (fun h => hq ⟨by
            by_cases e : v = j
            · subst e; exact absurd h.2 hc
            · omega, h.2⟩)]
      · by_cases e : v = j
        · subst e; simpa using hc
        · exact (h3 h).2 v (by omega)
      · obtain ⟨v, g1, g2⟩ := h4 h
        exact ⟨v, by omega, g2⟩
end Go.Proofs.Ytojpibpjieanhaa.ConsMath
end
