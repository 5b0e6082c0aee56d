/- My own texts of this seat and its words, merged: Xp63, XSCan, XSMove, CMoves, Xp64, Xp35. Conditions: as each lemma says. -/
import Derived.Test.YtojpibpjieanhaaJ21
import Derived.Test.YtojpibpjieanhaaJ22
import Derived.Test.YtojpibpjieanhaaJ25
import Derived.Test.YtojpibpjieanhaaJ23
section
-- Written by a program of this session out of the kit's print of the loaded functions: a plain function of a Go function, and its contract.
namespace Go.Proofs.Ytojpibpjieanhaa.X
open Go.RowKit Go.Proofs.YtojpibpjieanhaaW.PrintWords Go.Proofs.YtojpibpjieanhaaW.PrintLast Go.Proofs.YtojpibpjieanhaaW.PrintMore
attribute [local go_sem] max2_int min2_int max_two min_two max_three min_three max_four min_four   -- for this text's walks alone
set_option linter.unusedVariables false
set_option linter.unusedSimpArgs false
/-! ### spec_l08Moved: function 63 -/
def spec_l08Moved.l0 : Nat → List Int → Int → List Int → List (S55) → List Int → List (S55) → Option (List Int × (List (S55)))
  | 0, _, _, _, _, _, _ => none
  | k + 1, x1, x6, x1000, x1001, x327000, x327001 => if x6 < (x1001.length : Int) then (if 0 ≤ x6 then (if 0 ≤ ((rd_T55 x1001 x6).f1) then (if ((rd_T55 x1001 x6).f1) < (x1.length : Int) then (if 0 ≤ ((rd_T55 x1001 x6).f0) then (if ((rd_T55 x1001 x6).f0) < (x1.length : Int) then (if x327001.length < 5864062014805 then (spec_l08Moved.l0 k x1 (wrap64 (x6 + 1)) x1000 x1001 x327000 (x327001 ++ [(⟨(rd_T55 x1001 x6).f0, (rd_T55 x1001 x6).f1, wrap64 ((wrap64 (((rd_T55 x1001 x6).f2) + (rd x1 ((rd_T55 x1001 x6).f1)))) - (rd x1 ((rd_T55 x1001 x6).f0)))⟩ : S55)])) else (none)) else (none)) else (none)) else (none)) else (none)) else (none)) else (some (x327000, x327001))
def spec_l08Moved.f (k : Nat) (s0_0 : List Int) (s0_1 : List (S55)) (l1 : List Int) : Option (List Int × (List (S55))) := (spec_l00Own.f s0_0).bind fun t320 => (spec_l08Moved.l0 k l1 0 s0_0 s0_1 t320 (([] : List (S55))))
theorem spec_l08Moved.mono_l : ∀ k, (∀ y0 y1 y2 y3 y4 y5, LeO (spec_l08Moved.l0 k y0 y1 y2 y3 y4 y5) (spec_l08Moved.l0 (k + 1) y0 y1 y2 y3 y4 y5))
  | 0 => fun _ _ _ _ _ _ r h => by simp [spec_l08Moved.l0] at h
  | k + 1 => by
    have ih0 := spec_l08Moved.mono_l k
    · intro y0 y1 y2 y3 y4 y5
      unfold spec_l08Moved.l0
      repeat' first
      | (with_reducible exact ih0 _ _ _ _ _ _)
      | (with_reducible exact LeO.refl _)
      | (with_reducible exact LeO.none _)
      | (with_reducible refine LeO.ite ?_ ?_)
      | (with_reducible refine LeO.bind ?_ (fun _ => ?_))
      | exact ih0 _ _ _ _ _ _
      | exact LeO.none _
      | refine LeO.ite ?_ ?_
      | refine LeO.bind ?_ (fun _ => ?_)
theorem spec_l08Moved.mono : ∀ a0 a1 a2 k, LeO (spec_l08Moved.f k a0 a1 a2) (spec_l08Moved.f (k + 1) a0 a1 a2) := by
  intro a0 a1 a2 k
  have ih0 := spec_l08Moved.mono_l k
  unfold spec_l08Moved.f
  repeat' first
      | (with_reducible exact ih0 _ _ _ _ _ _)
      | (with_reducible exact LeO.refl _)
      | (with_reducible exact LeO.none _)
      | (with_reducible refine LeO.ite ?_ ?_)
      | (with_reducible refine LeO.bind ?_ (fun _ => ?_))
      | exact ih0 _ _ _ _ _ _
      | exact LeO.none _
      | refine LeO.ite ?_ ?_
      | refine LeO.bind ?_ (fun _ => ?_)
def spec_l08Moved.T6 : Bool × List (List Nat × List Nat) := (true, [([], []), ([0], [0]), ([], []), ([2], [2]), ([], []), ([4], [4]), ([], []), ([6], [6]), ([], []), ([], []), ([9], [9]), ([8, 10], [8, 10]), ([11], [11]), ([7, 12], [7, 12]), ([], []), ([], []), ([15], [15]), ([14, 16], [14, 16]), ([17], [17]), ([13, 18], [13, 18]), ([3, 5, 19], [3, 5, 19]), ([20], [20]), ([1, 21], [1, 21]), ([0, 1, 2, 3, 4, 5, 6, 7, 8, 9, 10, 11, 12, 13, 14, 15, 16, 17, 18, 19, 20, 21, 22], []), ([23, 22, 22, 0, 1, 2, 3, 4, 5, 6, 7, 8, 9, 10, 11, 12, 13, 14, 15, 16, 17, 18, 19, 20, 21, 22], [22, 23])])
def spec_l08Moved.B6 : List Nat := [0, 1, 0, 4, 0, 16, 0, 64, 0, 0, 512, 1792, 3840, 8128, 0, 0, 32768, 114688, 245760, 524224, 1048572, 2097148, 4194303, 8388607, 16777215]
theorem spec_l08Moved.tab6 : rtab .any (opsOf Try.f63 6) = spec_l08Moved.T6 := by kernel_rfl
theorem spec_l08Moved.bits6 : waitsOk spec_l08Moved.T6.2 spec_l08Moved.B6 = true := by kernel_rfl
set_option maxHeartbeats 8000000 in
set_option maxRecDepth 100000 in
theorem spec_l08Moved.calls (k : Nat) (g : Nat) (s0_0 : List Int) (s0_1 : List (S55)) (A1 : Option Addr) (c1 : Nat) (l1 : List Int) (r1 : List Int) (r2 : List (S55)) (w0 w : World) (hI : IsS36 w0 w g s0_0 s0_1) (hB : Below w0.heap.size w0 w) (hr1 : Kd.C (Kd.int .i64) w A1 l1.length l1) (hc1 : l1.length ≤ c1) (hf1 : ∀ ad, A1 = some ad → 0 < l1.length → ad.block ≠ g) (h : spec_l08Moved.f k s0_0 s0_1 l1 = some (r1, r2)) :
    Calls Try.prog 63 #[.pointer (some ⟨g, 0, none⟩), .slice A1 l1.length c1] w fun e w' => ∃ v0_ v1_ : Value, e = .returned (.agg #[v0_, v1_]) ∧ Kd.R (Kd.int .i64) 2 w' w.heap.size (fun _ => True) v0_ r1 ∧ Kd.R k55 55 w' w.heap.size (fun _ => True) v1_ r2 ∧ IsS36 w0 w' g s0_0 s0_1 ∧ Below w0.heap.size w0 w' ∧ KeepBut w w' g none := by
  have hu36 := Try.underlying36
  have hu55 := Try.underlying55
  have HR1 := Aside0.mk hr1
  have HC1 := Aside0.mk hc1
  clear hr1 hc1
  have HI0 := Aside0.mk hI
  have HK := Aside0.mk (KeepBut.refl w g none)
  have HL := Aside0.mk hB.size
  clear hI
  have HW0 := Aside0.mk hB.size
  have HB := Aside0.mk hB
  clear hB
  have H : ((spec_l00Own.f s0_0).bind fun t320 => (spec_l08Moved.l0 k l1 0 s0_0 s0_1 t320 (([] : List (S55))))) = some (r1, r2) := h
  clear h
  replace H := Option.bind_eq_some_iff.mp H
  obtain ⟨t320, A30, H⟩ := H
  replace H : (spec_l08Moved.l0 k l1 0 s0_0 s0_1 t320 (([] : List (S55)))) = some (r1, r2) := H
  have A3 := Aside0.mk A30
  clear A30
  obtain ⟨y323, hy323⟩ : ∃ y_ : List (S55), y_ = (([] : List (S55))) := ⟨_, rfl⟩
  replace H : (spec_l08Moved.l0 k l1 0 s0_0 s0_1 t320 y323) = some (r1, r2) := by first | (rw [hy323]; with_reducible exact H) | (have H2_ := (Option.bind_some _ _).symm.trans H; rw [hy323]; with_reducible exact H2_) | (have H2_ := (Option.bind_some _ _).symm.trans H; with_reducible exact H2_) | with_reducible exact H | (rw [hy323]; exact H) | exact H
  have Ny323 := Aside0.mk hy323
  clear hy323
  have H' := Aside0.mk H
  clear H
  go_enter Try.func63, Try.ntmps63
  go_wp2_with (first | ((with_reducible refine gate_dst (N := 4) rfl ?_); refine box_event ?hg (N := 4) ?hd (cs := #[.slice none 0 0, .slice none 0 0]) (t := 36) ?hr ?_; (case hd => rfl); (case hg => rfl); (case hr => first | (go_simp; done) | (go_simp; rfl)); intro gb319 hg w4 hbox hb; have n0_ := Aside0.mk (IsS36.below (by repeat (first | (with_reducible first | exact HI0.out | apply IsS36.alloc | apply IsS36.drewN | apply IsS36.drew) | exact HI0.out)) hb); have n1_ := Aside0.mk (KeepBut.trans (by repeat (first | (with_reducible first | exact HK.out | apply KeepBut.set_ | apply keep_drewN | apply keep_drew | apply keep_alloc) | exact HK.out)) (KeepBut.of_below hb g none) (.inl rfl)); have n2_ := Aside0.mk (below_step (by repeat (first | (with_reducible first | exact HB.out | apply below_alloc | apply pw_below_drewN | apply below_drew1 | refine below_set ?_ (IsS36.ge HI0.out)) | exact HB.out)) hb); have n3_ := Aside0.mk (hbox); have n4_ := Aside0.mk ((by rw [hg]; exact (keep_size (w := w) (g := g) (row := none) (by repeat (first | (with_reducible first | exact HK.out | apply KeepBut.set_ | apply keep_drewN | apply keep_drew | apply keep_alloc) | exact HK.out))) : w.heap.size ≤ gb319)); have n5_ := Aside0.mk ((Nat.le_trans HW0.out (by rw [hg]; exact (keep_size (w := w) (g := g) (row := none) (by repeat (first | (with_reducible first | exact HK.out | apply KeepBut.set_ | apply keep_drewN | apply keep_drew | apply keep_alloc) | exact HK.out))) : w.heap.size ≤ gb319) : w0.heap.size ≤ gb319)); have n6_ := Aside0.mk ((by rw [hg]; exact Nat.ne_of_lt (IsS36.lt (show IsS36 w0 _ g s0_0 s0_1 from by repeat (first | (with_reducible first | exact HI0.out | apply IsS36.alloc | apply IsS36.drewN | apply IsS36.drew) | exact HI0.out))) : g ≠ gb319)); have n7_ := Aside0.mk ((by rw [hg]; exact Nat.ne_of_gt (IsS36.lt (show IsS36 w0 _ g s0_0 s0_1 from by repeat (first | (with_reducible first | exact HI0.out | apply IsS36.alloc | apply IsS36.drewN | apply IsS36.drew) | exact HI0.out))) : gb319 ≠ g)); clear HI0; clear HK; clear HB; have HI0 := n0_; have HK := n1_; have HB := n2_; have BK319 := n3_; have GW319 := n4_; have GE319 := n5_; have NB0_319 := n6_; have NB319_0 := n7_; clear n0_ n1_ n2_ n3_ n4_ n5_ n6_ n7_; clear hb hbox hg; obtain ⟨ASz5_0, cSz5_0, ASz5_1, cSz5_1, HGz5, hgz5, HSz5_0, HSz5_1⟩ := HI0.out; have hcz5_0 := cellS36_0 HGz5; have hcz5_1 := cellS36_1 HGz5; clear HGz5 hgz5) | ((with_reducible refine gate_callee (f := 93) rfl ?_); refine goesL_ (some 12) rfl rfl Try.func93 (by kernel_rfl) rfl #[.slice ASz5_0 s0_0.length cSz5_0] rfl (by (try simp only [List.map_toArray, List.map_cons, List.map_nil]); first | done | rfl | (simp only [List.length_drop, List.length_take]; rfl)) ?_; (with_reducible refine (spec_l00Own.calls _ _ s0_0 t320 _ ?side1 ?side2 A3.out).mono ?_); (case side1 => repeat (first | exact Kd.C_below HSz5_0 (by repeat (first | (with_reducible first | exact HB.out | apply below_alloc | apply pw_below_drewN | apply below_drew1 | refine below_set ?_ (IsS36.ge HI0.out) | refine below_set ?_ GE319.out) | exact HB.out)) | (with_reducible refine Kd.C_alloc ?_ _) | (with_reducible refine Kd.C_drewN ?_ _) | (with_reducible refine Kd.C_drew ?_))); (case side2 => first | exact trivial | (fail)); rintro e w6 ⟨v321, rfl, ho0, hb⟩; refine ⟨_, rfl, ?_⟩; have n0_ := Aside0.mk (Kd.R_lower ho0 (keep_size (w := w) (g := g) (row := none) (by repeat (first | (with_reducible first | exact HK.out | apply KeepBut.set_ | apply keep_drewN | apply keep_drew | apply keep_alloc | refine keep_far ?_ GW319.out _) | exact HK.out)))); have n1_ := Aside0.mk (IsS36.below (by repeat (first | (with_reducible first | exact HI0.out | apply IsS36.alloc | apply IsS36.drewN | apply IsS36.drew | refine IsS36.far ?_ NB0_319.out _) | exact HI0.out)) hb); have n2_ := Aside0.mk (blk_below (g := gb319) (o := .cells #[.slice none 0 0, .slice none 0 0] 36 (0, 0)) (by (with_reducible repeat (first | refine blk_drewN ?_ _ | refine blk_drew ?_ | refine blk_alloc ?_ _)); exact BK319.out) hb); have n3_ := Aside0.mk (KeepBut.trans (by repeat (first | (with_reducible first | exact HK.out | apply KeepBut.set_ | apply keep_drewN | apply keep_drew | apply keep_alloc | refine keep_far ?_ GW319.out _) | exact HK.out)) (KeepBut.of_below hb g none) (.inl rfl)); have n4_ := Aside0.mk (below_step (by repeat (first | (with_reducible first | exact HB.out | apply below_alloc | apply pw_below_drewN | apply below_drew1 | refine below_set ?_ (IsS36.ge HI0.out) | refine below_set ?_ GE319.out) | exact HB.out)) hb); clear HI0; clear BK319; clear HK; clear HB; have HO322 := n0_; have HI0 := n1_; have BK319 := n2_; have HK := n3_; have HB := n4_; clear n0_ n1_ n2_ n3_ n4_; (try clear hb); (try clear hb2); (try clear hk); (try clear hi); (try clear ho0)) | ((with_reducible refine gate_dst (N := 13) rfl ?_); refine Kd.R_lit k55 _ 55 ?hg (N := 13) ?hd (xs := ([] : List (S55))) (inner := []) (ok := fun _ => True) (okp := fun _ => True) ?hr ?hp (fun _ hk => hk) trivial (Below.refl _ _) (Nat.le_refl _) (by simp) ?_; (case hd => rfl); (case hg => rfl); (case hr => first | (go_simp; done) | (go_simp; rfl)); (case hp => exact (Reps.none _ _)); intro v324 w7 ho8 hb hg_ hnew_; clear hg_ hnew_; (first | rw [← Ny323.out] at ho8 | (simp only [Int.reduceToNat] at ho8; rw [← Ny323.out] at ho8)); have n0_ := Aside0.mk (Kd.R_below (by (with_reducible repeat (first | apply Kd.R_alloc | apply Kd.R_drewN | apply Kd.R_drew)); exact HO322.out) hb); have n1_ := Aside0.mk (Kd.R_lower ho8 (keep_size (w := w) (g := g) (row := none) (by repeat (first | (with_reducible first | exact HK.out | apply KeepBut.set_ | apply keep_drewN | apply keep_drew | apply keep_alloc | refine keep_far ?_ GW319.out _) | exact HK.out)))); have n2_ := Aside0.mk (IsS36.below (by repeat (first | (with_reducible first | exact HI0.out | apply IsS36.alloc | apply IsS36.drewN | apply IsS36.drew | refine IsS36.far ?_ NB0_319.out _) | exact HI0.out)) hb); have n3_ := Aside0.mk (blk_below (g := gb319) (o := .cells #[.slice none 0 0, .slice none 0 0] 36 (0, 0)) (by (with_reducible repeat (first | refine blk_drewN ?_ _ | refine blk_drew ?_ | refine blk_alloc ?_ _)); exact BK319.out) hb); have n4_ := Aside0.mk (KeepBut.trans (by repeat (first | (with_reducible first | exact HK.out | apply KeepBut.set_ | apply keep_drewN | apply keep_drew | apply keep_alloc | refine keep_far ?_ GW319.out _) | exact HK.out)) (KeepBut.of_below hb g none) (.inl rfl)); have n5_ := Aside0.mk (below_step (by repeat (first | (with_reducible first | exact HB.out | apply below_alloc | apply pw_below_drewN | apply below_drew1 | refine below_set ?_ (IsS36.ge HI0.out) | refine below_set ?_ GE319.out) | exact HB.out)) hb); clear HO322; clear HI0; clear BK319; clear HK; clear HB; have HO322 := n0_; have HO325 := n1_; have HI0 := n2_; have BK319 := n3_; have HK := n4_; have HB := n5_; clear n0_ n1_ n2_ n3_ n4_ n5_; clear hb ho8; obtain ⟨Ao9, co9, eo9⟩ := Kd.R_slice HO325.out; subst eo9; obtain ⟨Ao10, co10, eo10⟩ := Kd.R_slice HO322.out; subst eo10) | ((with_reducible refine gate_dst (N := 5) rfl ?_); refine box_event ?hg (N := 5) ?hd (cs := #[.slice none 0 0, .slice none 0 0]) (t := 36) ?hr ?_; (case hd => rfl); (case hg => rfl); (case hr => first | (go_simp; done) | (go_simp; rfl)); intro gb326 hg w11 hbox hb; have n0_ := Aside0.mk (Kd.R_below (by (with_reducible repeat (first | apply Kd.R_alloc | apply Kd.R_drewN | apply Kd.R_drew)); exact HO322.out) hb); have n1_ := Aside0.mk (Kd.R_below (by (with_reducible repeat (first | apply Kd.R_alloc | apply Kd.R_drewN | apply Kd.R_drew)); exact HO325.out) hb); have n2_ := Aside0.mk (IsS36.below (by repeat (first | (with_reducible first | exact HI0.out | apply IsS36.alloc | apply IsS36.drewN | apply IsS36.drew | refine IsS36.far ?_ NB0_319.out _) | exact HI0.out)) hb); have n3_ := Aside0.mk (blk_below (g := gb319) (o := .cells #[.slice none 0 0, .slice none 0 0] 36 (0, 0)) (by (with_reducible repeat (first | refine blk_drewN ?_ _ | refine blk_drew ?_ | refine blk_alloc ?_ _)); exact BK319.out) hb); have n4_ := Aside0.mk (KeepBut.trans (by repeat (first | (with_reducible first | exact HK.out | apply KeepBut.set_ | apply keep_drewN | apply keep_drew | apply keep_alloc | refine keep_far ?_ GW319.out _) | exact HK.out)) (KeepBut.of_below hb g none) (.inl rfl)); have n5_ := Aside0.mk (below_step (by repeat (first | (with_reducible first | exact HB.out | apply below_alloc | apply pw_below_drewN | apply below_drew1 | refine below_set ?_ (IsS36.ge HI0.out) | refine below_set ?_ GE319.out) | exact HB.out)) hb); have n6_ := Aside0.mk (hbox); have n7_ := Aside0.mk ((by rw [hg]; exact (keep_size (w := w) (g := g) (row := none) (by repeat (first | (with_reducible first | exact HK.out | apply KeepBut.set_ | apply keep_drewN | apply keep_drew | apply keep_alloc | refine keep_far ?_ GW319.out _) | exact HK.out))) : w.heap.size ≤ gb326)); have n8_ := Aside0.mk ((Nat.le_trans HW0.out (by rw [hg]; exact (keep_size (w := w) (g := g) (row := none) (by repeat (first | (with_reducible first | exact HK.out | apply KeepBut.set_ | apply keep_drewN | apply keep_drew | apply keep_alloc | refine keep_far ?_ GW319.out _) | exact HK.out))) : w.heap.size ≤ gb326) : w0.heap.size ≤ gb326)); have n9_ := Aside0.mk ((by rw [hg]; exact Nat.ne_of_lt (blk_lt (g := gb319) (o := .cells #[.slice none 0 0, .slice none 0 0] 36 (0, 0)) (by (with_reducible repeat (first | refine blk_drewN ?_ _ | refine blk_drew ?_ | refine blk_alloc ?_ _)); exact BK319.out)) : gb319 ≠ gb326)); have n10_ := Aside0.mk ((by rw [hg]; exact Nat.ne_of_gt (blk_lt (g := gb319) (o := .cells #[.slice none 0 0, .slice none 0 0] 36 (0, 0)) (by (with_reducible repeat (first | refine blk_drewN ?_ _ | refine blk_drew ?_ | refine blk_alloc ?_ _)); exact BK319.out)) : gb326 ≠ gb319)); have n11_ := Aside0.mk ((by rw [hg]; exact Nat.ne_of_lt (IsS36.lt (show IsS36 w0 _ g s0_0 s0_1 from by repeat (first | (with_reducible first | exact HI0.out | apply IsS36.alloc | apply IsS36.drewN | apply IsS36.drew | refine IsS36.far ?_ NB0_319.out _) | exact HI0.out))) : g ≠ gb326)); have n12_ := Aside0.mk ((by rw [hg]; exact Nat.ne_of_gt (IsS36.lt (show IsS36 w0 _ g s0_0 s0_1 from by repeat (first | (with_reducible first | exact HI0.out | apply IsS36.alloc | apply IsS36.drewN | apply IsS36.drew | refine IsS36.far ?_ NB0_319.out _) | exact HI0.out))) : gb326 ≠ g)); clear HO322; clear HO325; clear HI0; clear BK319; clear HK; clear HB; have HO322 := n0_; have HO325 := n1_; have HI0 := n2_; have BK319 := n3_; have HK := n4_; have HB := n5_; have BK326 := n6_; have GW326 := n7_; have GE326 := n8_; have NB319_326 := n9_; have NB326_319 := n10_; have NB0_326 := n11_; have NB326_0 := n12_; clear n0_ n1_ n2_ n3_ n4_ n5_ n6_ n7_ n8_ n9_ n10_ n11_ n12_; clear hb hbox hg; have hnb12 := NB326_319.out; have hnc12 := NB319_326.out; have hnb13 := NB326_0.out; have hnc13 := NB0_326.out; have hcz14_0 : w11.cell? ⟨gb326, 0, none⟩ = some (.slice none 0 0) := (blk_cell BK326.out 0).trans rfl; have hcz14_1 : w11.cell? ⟨gb326, 1, none⟩ = some (.slice none 0 0) := (blk_cell BK326.out 1).trans rfl; have hfz14_0 := blk_frozen BK326.out 0; have hfz14_1 := blk_frozen BK326.out 1))
  go_loopg [6] k (fun kq v6 w' => ∃ (x6_1 : Int) (x327001_1 : List (S55)) (u327001 : Value), v6 = .int .i64 x6_1 ∧ Aside0 (spec_l08Moved.l0 kq l1 x6_1 s0_0 s0_1 t320 x327001_1 = some (r1, r2)) ∧ Aside0 (kq ≤ k) ∧ Aside0 (Kd.R (Kd.int .i64) 2 w' w.heap.size (fun _ => True) (.slice Ao10 t320.length co10) t320) ∧ Aside0 (Kd.R k55 55 w' w.heap.size (fun _ => True) u327001 x327001_1) ∧ Aside0 (w'.heap[gb319]? = some (.cells #[(.slice none 0 0), (.slice none 0 0)] 36 (0, 0))) ∧ Aside0 (w'.heap[gb326]? = some (.cells #[(.slice Ao10 t320.length co10), u327001] 36 (0, 0))) ∧ Aside0 (IsS36 w0 w' g s0_0 s0_1) ∧ Aside0 (KeepBut w w' g none) ∧ Aside0 (Below w0.heap.size w0 w'))
  case atStart => exact ⟨(0), (y323), (.slice Ao9 y323.length co9), (by first | rfl | (simp; done) | (simp [*]; done)), H', ⟨Nat.le_refl _⟩, ⟨by (with_reducible repeat (first | apply Kd.R_alloc | apply Kd.R_drewN | apply Kd.R_drew)); exact Kd.R_mono (Kd.R_far (p := ⟨gb326, 1, none⟩) (Kd.R_far (p := ⟨gb326, 0, none⟩) (Kd.R_types HO322.out BK326.out (by decide)) (fun _ hk => hk.2) (.slice Ao10 t320.length co10)) (fun _ hk => hk.2) (.slice Ao9 y323.length co9)) (fun _ hk => trivial)⟩, ⟨by (with_reducible repeat (first | apply Kd.R_alloc | apply Kd.R_drewN | apply Kd.R_drew)); exact Kd.R_mono (Kd.R_far (p := ⟨gb326, 1, none⟩) (Kd.R_far (p := ⟨gb326, 0, none⟩) (Kd.R_types HO325.out BK326.out (by decide)) (fun _ hk => hk.2) (.slice Ao10 t320.length co10)) (fun _ hk => hk.2) (.slice Ao9 y323.length co9)) (fun _ hk => trivial)⟩, ⟨by (with_reducible repeat (first | refine blk_drewN ?_ _ | refine blk_drew ?_ | refine blk_alloc ?_ _)); refine blk_far ?_ NB319_326.out _; (with_reducible repeat (first | refine blk_drewN ?_ _ | refine blk_drew ?_ | refine blk_alloc ?_ _)); refine blk_far ?_ NB319_326.out _; (with_reducible repeat (first | refine blk_drewN ?_ _ | refine blk_drew ?_ | refine blk_alloc ?_ _)); exact BK319.out⟩, ⟨by (with_reducible repeat (first | refine blk_drewN ?_ _ | refine blk_drew ?_ | refine blk_alloc ?_ _)); refine blk_put (cs := #[.slice Ao10 t320.length co10, .slice none 0 0]) ?_ 1 _ rfl; (with_reducible repeat (first | refine blk_drewN ?_ _ | refine blk_drew ?_ | refine blk_alloc ?_ _)); refine blk_put (cs := #[.slice none 0 0, .slice none 0 0]) ?_ 0 _ rfl; (with_reducible repeat (first | refine blk_drewN ?_ _ | refine blk_drew ?_ | refine blk_alloc ?_ _)); exact BK326.out⟩, ⟨by repeat (first | (with_reducible first | exact HI0.out | apply IsS36.alloc | apply IsS36.drewN | apply IsS36.drew | refine IsS36.far ?_ NB0_319.out _ | refine IsS36.far ?_ NB0_326.out _) | exact HI0.out)⟩, ⟨by repeat (first | (with_reducible first | exact HK.out | apply KeepBut.set_ | apply keep_drewN | apply keep_drew | apply keep_alloc | refine keep_far ?_ GW319.out _ | refine keep_far ?_ GW326.out _) | exact HK.out)⟩, ⟨by repeat (first | (with_reducible first | exact HB.out | apply below_alloc | apply pw_below_drewN | apply below_drew1 | refine below_set ?_ (IsS36.ge HI0.out) | refine below_set ?_ GE319.out | refine below_set ?_ GE326.out) | exact HB.out)⟩⟩
  case round =>
    clear H'
    try clear c1
    try clear p2
    try clear c6
    try clear c9
    try clear c12
    try clear c13
    try clear hcz14_0
    try clear hcz14_1
    try clear hcz5_0
    try clear hcz5_1
    try clear hfz14_0
    try clear hfz14_1
    obtain ⟨x6_1, x327001_1, u327001, rfl, HA, HK1, HO_327000, HO_327001, BK319, BK326, HI0, HK, HB⟩ := hrel
    cases gk with
    | zero => exact absurd HA.out (by simp [spec_l08Moved.l0])
    | succ k1 =>
      have H := HA.out
      clear HA
      simp only [spec_l08Moved.l0] at H
      by_cases c15 : x6_1 < (s0_1.length : Int)
      · rw [if_pos c15] at H
        have c15b0 : decide (x6_1 < (s0_1.length : Int)) = true := decide_eq_true c15
        clear c15
        by_cases c16 : 0 ≤ x6_1
        · rw [if_pos c16] at H
          have c16b0 : decide (0 ≤ x6_1) = true := decide_eq_true c16
          clear c16
          by_cases c17 : 0 ≤ ((rd_T55 s0_1 x6_1).f1)
          · rw [if_pos c17] at H
            have c17b0 : decide (0 ≤ ((rd_T55 s0_1 x6_1).f1)) = true := decide_eq_true c17
            clear c17
            by_cases c18 : ((rd_T55 s0_1 x6_1).f1) < (l1.length : Int)
            · rw [if_pos c18] at H
              have c18b0 : decide (((rd_T55 s0_1 x6_1).f1) < (l1.length : Int)) = true := decide_eq_true c18
              clear c18
              by_cases c19 : 0 ≤ ((rd_T55 s0_1 x6_1).f0)
              · rw [if_pos c19] at H
                have c19b0 : decide (0 ≤ ((rd_T55 s0_1 x6_1).f0)) = true := decide_eq_true c19
                clear c19
                by_cases c20 : ((rd_T55 s0_1 x6_1).f0) < (l1.length : Int)
                · rw [if_pos c20] at H
                  have c20b0 : decide (((rd_T55 s0_1 x6_1).f0) < (l1.length : Int)) = true := decide_eq_true c20
                  clear c20
                  by_cases c21 : x327001_1.length < 5864062014805
                  · rw [if_pos c21] at H
                    have LMc21 := Aside0.mk c21
                    clear c21
                    obtain ⟨y331, hy331⟩ : ∃ y_ : List (S55), y_ = (x327001_1 ++ [(⟨(rd_T55 s0_1 x6_1).f0, (rd_T55 s0_1 x6_1).f1, wrap64 ((wrap64 (((rd_T55 s0_1 x6_1).f2) + (rd l1 ((rd_T55 s0_1 x6_1).f1)))) - (rd l1 ((rd_T55 s0_1 x6_1).f0)))⟩ : S55)]) := ⟨_, rfl⟩
                    replace H : (spec_l08Moved.l0 k1 l1 (wrap64 (x6_1 + 1)) s0_0 s0_1 t320 y331) = some (r1, r2) := by first | (rw [hy331]; with_reducible exact H) | (have H2_ := (Option.bind_some _ _).symm.trans H; rw [hy331]; with_reducible exact H2_) | (have H2_ := (Option.bind_some _ _).symm.trans H; with_reducible exact H2_) | with_reducible exact H | (rw [hy331]; exact H) | exact H
                    have Ny331 := Aside0.mk hy331
                    clear hy331
                    have H' := Aside0.mk H
                    clear H
                    obtain ⟨ASz22_0, cSz22_0, ASz22_1, cSz22_1, HGz22, hgz22, HSz22_0, HSz22_1⟩ := HI0.out
                    have hcz22_0 := cellS36_0 HGz22
                    have hcz22_1 := cellS36_1 HGz22
                    clear HGz22 hgz22
                    have p327 : 0 ≤ (x6_1 : Int) := of_decide_eq_true (by first | (with_reducible assumption) | assumption)
                    have q327 : x6_1 < (s0_1.length : Int) := of_decide_eq_true (by first | (with_reducible assumption) | assumption)
                    obtain ⟨ad327, e327, hx327_0, hx327_1, hx327_2⟩ := at_T55 HSz22_1 x6_1 p327 q327
                    cases e327
                    replace hx327_0 := pw_cell_below HB.out hx327_0
                    replace hx327_1 := pw_cell_below HB.out hx327_1
                    replace hx327_2 := pw_cell_below HB.out hx327_2
                    replace p327 := eq_true p327
                    replace q327 := eq_true q327
                    try go_wp2_with (first | ((with_reducible refine gate_dst (N := 7) rfl ?_); refine box_event ?hg (N := 7) ?hd (cs := #[.int .i64 0, .int .i64 0, .int .i64 0]) (t := 55) ?hr ?_; (case hd => rfl); (case hg => rfl); (case hr => first | (go_simp; done) | (go_simp; rfl)); intro gb328 hg w23 hbox hb; have n0_ := Aside0.mk (Kd.R_below (by (with_reducible repeat (first | apply Kd.R_alloc | apply Kd.R_drewN | apply Kd.R_drew)); exact HO_327000.out) hb); have n1_ := Aside0.mk (Kd.R_below (Kd.R_elderB (by (with_reducible repeat (first | apply Kd.R_alloc | apply Kd.R_drewN | apply Kd.R_drew)); exact HO_327001.out) gb328 (Nat.le_of_eq hg.symm)) hb); have n2_ := Aside0.mk (blk_below (g := gb319) (o := .cells #[.slice none 0 0, .slice none 0 0] 36 (0, 0)) (by (with_reducible repeat (first | refine blk_drewN ?_ _ | refine blk_drew ?_ | refine blk_alloc ?_ _)); exact BK319.out) hb); have n3_ := Aside0.mk (blk_below (g := gb326) (o := .cells #[.slice Ao10 t320.length co10, u327001] 36 (0, 0)) (by (with_reducible repeat (first | refine blk_drewN ?_ _ | refine blk_drew ?_ | refine blk_alloc ?_ _)); exact BK326.out) hb); have n4_ := Aside0.mk (IsS36.below (by repeat (first | (with_reducible first | exact HI0.out | apply IsS36.alloc | apply IsS36.drewN | apply IsS36.drew | refine IsS36.far ?_ NB0_319.out _ | refine IsS36.far ?_ NB0_326.out _) | exact HI0.out)) hb); have n5_ := Aside0.mk (KeepBut.trans (by repeat (first | (with_reducible first | exact HK.out | apply KeepBut.set_ | apply keep_drewN | apply keep_drew | apply keep_alloc | refine keep_far ?_ GW319.out _ | refine keep_far ?_ GW326.out _) | exact HK.out)) (KeepBut.of_below hb g none) (.inl rfl)); have n6_ := Aside0.mk (below_step (by repeat (first | (with_reducible first | exact HB.out | apply below_alloc | apply pw_below_drewN | apply below_drew1 | refine below_set ?_ (IsS36.ge HI0.out) | refine below_set ?_ GE319.out | refine below_set ?_ GE326.out) | exact HB.out)) hb); have n7_ := Aside0.mk (hbox); have n8_ := Aside0.mk ((by rw [hg]; exact (keep_size (w := w) (g := g) (row := none) (by repeat (first | (with_reducible first | exact HK.out | apply KeepBut.set_ | apply keep_drewN | apply keep_drew | apply keep_alloc | refine keep_far ?_ GW319.out _ | refine keep_far ?_ GW326.out _) | exact HK.out))) : w.heap.size ≤ gb328)); have n9_ := Aside0.mk ((Nat.le_trans HW0.out (by rw [hg]; exact (keep_size (w := w) (g := g) (row := none) (by repeat (first | (with_reducible first | exact HK.out | apply KeepBut.set_ | apply keep_drewN | apply keep_drew | apply keep_alloc | refine keep_far ?_ GW319.out _ | refine keep_far ?_ GW326.out _) | exact HK.out))) : w.heap.size ≤ gb328) : w0.heap.size ≤ gb328)); have n10_ := Aside0.mk ((by rw [hg]; exact Nat.ne_of_lt (blk_lt (g := gb319) (o := .cells #[.slice none 0 0, .slice none 0 0] 36 (0, 0)) (by (with_reducible repeat (first | refine blk_drewN ?_ _ | refine blk_drew ?_ | refine blk_alloc ?_ _)); exact BK319.out)) : gb319 ≠ gb328)); have n11_ := Aside0.mk ((by rw [hg]; exact Nat.ne_of_gt (blk_lt (g := gb319) (o := .cells #[.slice none 0 0, .slice none 0 0] 36 (0, 0)) (by (with_reducible repeat (first | refine blk_drewN ?_ _ | refine blk_drew ?_ | refine blk_alloc ?_ _)); exact BK319.out)) : gb328 ≠ gb319)); have n12_ := Aside0.mk ((by rw [hg]; exact Nat.ne_of_lt (blk_lt (g := gb326) (o := .cells #[.slice Ao10 t320.length co10, u327001] 36 (0, 0)) (by (with_reducible repeat (first | refine blk_drewN ?_ _ | refine blk_drew ?_ | refine blk_alloc ?_ _)); exact BK326.out)) : gb326 ≠ gb328)); have n13_ := Aside0.mk ((by rw [hg]; exact Nat.ne_of_gt (blk_lt (g := gb326) (o := .cells #[.slice Ao10 t320.length co10, u327001] 36 (0, 0)) (by (with_reducible repeat (first | refine blk_drewN ?_ _ | refine blk_drew ?_ | refine blk_alloc ?_ _)); exact BK326.out)) : gb328 ≠ gb326)); have n14_ := Aside0.mk ((by rw [hg]; exact Nat.ne_of_lt (IsS36.lt (show IsS36 w0 _ g s0_0 s0_1 from by repeat (first | (with_reducible first | exact HI0.out | apply IsS36.alloc | apply IsS36.drewN | apply IsS36.drew | refine IsS36.far ?_ NB0_319.out _ | refine IsS36.far ?_ NB0_326.out _) | exact HI0.out))) : g ≠ gb328)); have n15_ := Aside0.mk ((by rw [hg]; exact Nat.ne_of_gt (IsS36.lt (show IsS36 w0 _ g s0_0 s0_1 from by repeat (first | (with_reducible first | exact HI0.out | apply IsS36.alloc | apply IsS36.drewN | apply IsS36.drew | refine IsS36.far ?_ NB0_319.out _ | refine IsS36.far ?_ NB0_326.out _) | exact HI0.out))) : gb328 ≠ g)); clear HO_327000; clear HO_327001; clear BK319; clear BK326; clear HI0; clear HK; clear HB; have HO_327000 := n0_; have HO_327001 := n1_; have BK319 := n2_; have BK326 := n3_; have HI0 := n4_; have HK := n5_; have HB := n6_; have BK328 := n7_; have GW328 := n8_; have GE328 := n9_; have NB319_328 := n10_; have NB328_319 := n11_; have NB326_328 := n12_; have NB328_326 := n13_; have NB0_328 := n14_; have NB328_0 := n15_; clear n0_ n1_ n2_ n3_ n4_ n5_ n6_ n7_ n8_ n9_ n10_ n11_ n12_ n13_ n14_ n15_; clear hb hbox hg; have hnb24 := NB328_319.out; have hnc24 := NB319_328.out; have hnb25 := NB328_326.out; have hnc25 := NB326_328.out; have hnb26 := NB328_0.out; have hnc26 := NB0_328.out; have hcz27_0 : w23.cell? ⟨gb328, 0, none⟩ = some (.int .i64 0) := (blk_cell BK328.out 0).trans rfl; have hcz27_1 : w23.cell? ⟨gb328, 1, none⟩ = some (.int .i64 0) := (blk_cell BK328.out 1).trans rfl; have hcz27_2 : w23.cell? ⟨gb328, 2, none⟩ = some (.int .i64 0) := (blk_cell BK328.out 2).trans rfl; have hfz27_0 := blk_frozen BK328.out 0; have hfz27_1 := blk_frozen BK328.out 1; have hfz27_2 := blk_frozen BK328.out 2))
                    have n0_ : Aside0 (Kd.R (Kd.int .i64) 2 (((w23.setCell ⟨gb328, 0, none⟩ (.int .i64 ((rd_T55 s0_1 x6_1).f0))).setCell ⟨gb328, 1, none⟩ (.int .i64 ((rd_T55 s0_1 x6_1).f1))).setCell ⟨gb328, 2, none⟩ (.int .i64 ((rd_T55 s0_1 x6_1).f2))) w.heap.size (fun _ => True) (.slice Ao10 t320.length co10) t320) := ⟨by (with_reducible repeat (first | apply Kd.R_alloc | apply Kd.R_drewN | apply Kd.R_drew)); exact Kd.R_mono (Kd.R_far (p := ⟨gb328, 2, none⟩) (Kd.R_far (p := ⟨gb328, 1, none⟩) (Kd.R_far (p := ⟨gb328, 0, none⟩) (Kd.R_types HO_327000.out BK328.out (by decide)) (fun _ hk => hk.2) (.int .i64 ((rd_T55 s0_1 x6_1).f0))) (fun _ hk => hk.2) (.int .i64 ((rd_T55 s0_1 x6_1).f1))) (fun _ hk => hk.2) (.int .i64 ((rd_T55 s0_1 x6_1).f2))) (fun _ hk => trivial)⟩
                    have n1_ : Aside0 (Kd.R k55 55 (((w23.setCell ⟨gb328, 0, none⟩ (.int .i64 ((rd_T55 s0_1 x6_1).f0))).setCell ⟨gb328, 1, none⟩ (.int .i64 ((rd_T55 s0_1 x6_1).f1))).setCell ⟨gb328, 2, none⟩ (.int .i64 ((rd_T55 s0_1 x6_1).f2))) w.heap.size (fun k_ => k_ ≠ gb328) u327001 x327001_1) := ⟨by (with_reducible repeat (first | apply Kd.R_alloc | apply Kd.R_drewN | apply Kd.R_drew)); exact Kd.R_mono (Kd.R_far (p := ⟨gb328, 2, none⟩) (Kd.R_far (p := ⟨gb328, 1, none⟩) (Kd.R_far (p := ⟨gb328, 0, none⟩) (Kd.R_mono HO_327001.out (fun k_ hk => (⟨hk, hk.2⟩ : _ ∧ k_ ≠ gb328))) (fun _ hk => hk.2) (.int .i64 ((rd_T55 s0_1 x6_1).f0))) (fun _ hk => hk.2) (.int .i64 ((rd_T55 s0_1 x6_1).f1))) (fun _ hk => hk.2) (.int .i64 ((rd_T55 s0_1 x6_1).f2))) (fun _ hk => hk.1.2)⟩
                    have n2_ : Aside0 ((((w23.setCell ⟨gb328, 0, none⟩ (.int .i64 ((rd_T55 s0_1 x6_1).f0))).setCell ⟨gb328, 1, none⟩ (.int .i64 ((rd_T55 s0_1 x6_1).f1))).setCell ⟨gb328, 2, none⟩ (.int .i64 ((rd_T55 s0_1 x6_1).f2))).heap[gb319]? = some (.cells #[.slice none 0 0, .slice none 0 0] 36 (0, 0))) := ⟨by (with_reducible repeat (first | refine blk_drewN ?_ _ | refine blk_drew ?_ | refine blk_alloc ?_ _)); refine blk_far ?_ NB319_328.out _; (with_reducible repeat (first | refine blk_drewN ?_ _ | refine blk_drew ?_ | refine blk_alloc ?_ _)); refine blk_far ?_ NB319_328.out _; (with_reducible repeat (first | refine blk_drewN ?_ _ | refine blk_drew ?_ | refine blk_alloc ?_ _)); refine blk_far ?_ NB319_328.out _; (with_reducible repeat (first | refine blk_drewN ?_ _ | refine blk_drew ?_ | refine blk_alloc ?_ _)); exact BK319.out⟩
                    have n3_ : Aside0 ((((w23.setCell ⟨gb328, 0, none⟩ (.int .i64 ((rd_T55 s0_1 x6_1).f0))).setCell ⟨gb328, 1, none⟩ (.int .i64 ((rd_T55 s0_1 x6_1).f1))).setCell ⟨gb328, 2, none⟩ (.int .i64 ((rd_T55 s0_1 x6_1).f2))).heap[gb326]? = some (.cells #[.slice Ao10 t320.length co10, u327001] 36 (0, 0))) := ⟨by (with_reducible repeat (first | refine blk_drewN ?_ _ | refine blk_drew ?_ | refine blk_alloc ?_ _)); refine blk_far ?_ NB326_328.out _; (with_reducible repeat (first | refine blk_drewN ?_ _ | refine blk_drew ?_ | refine blk_alloc ?_ _)); refine blk_far ?_ NB326_328.out _; (with_reducible repeat (first | refine blk_drewN ?_ _ | refine blk_drew ?_ | refine blk_alloc ?_ _)); refine blk_far ?_ NB326_328.out _; (with_reducible repeat (first | refine blk_drewN ?_ _ | refine blk_drew ?_ | refine blk_alloc ?_ _)); exact BK326.out⟩
                    have n4_ : Aside0 ((((w23.setCell ⟨gb328, 0, none⟩ (.int .i64 ((rd_T55 s0_1 x6_1).f0))).setCell ⟨gb328, 1, none⟩ (.int .i64 ((rd_T55 s0_1 x6_1).f1))).setCell ⟨gb328, 2, none⟩ (.int .i64 ((rd_T55 s0_1 x6_1).f2))).heap[gb328]? = some (.cells #[.int .i64 ((rd_T55 s0_1 x6_1).f0), .int .i64 ((rd_T55 s0_1 x6_1).f1), .int .i64 ((rd_T55 s0_1 x6_1).f2)] 55 (0, 0))) := ⟨by (with_reducible repeat (first | refine blk_drewN ?_ _ | refine blk_drew ?_ | refine blk_alloc ?_ _)); refine blk_put (cs := #[.int .i64 ((rd_T55 s0_1 x6_1).f0), .int .i64 ((rd_T55 s0_1 x6_1).f1), .int .i64 0]) ?_ 2 _ rfl; (with_reducible repeat (first | refine blk_drewN ?_ _ | refine blk_drew ?_ | refine blk_alloc ?_ _)); refine blk_put (cs := #[.int .i64 ((rd_T55 s0_1 x6_1).f0), .int .i64 0, .int .i64 0]) ?_ 1 _ rfl; (with_reducible repeat (first | refine blk_drewN ?_ _ | refine blk_drew ?_ | refine blk_alloc ?_ _)); refine blk_put (cs := #[.int .i64 0, .int .i64 0, .int .i64 0]) ?_ 0 _ rfl; (with_reducible repeat (first | refine blk_drewN ?_ _ | refine blk_drew ?_ | refine blk_alloc ?_ _)); exact BK328.out⟩
                    have n5_ : Aside0 (IsS36 w0 (((w23.setCell ⟨gb328, 0, none⟩ (.int .i64 ((rd_T55 s0_1 x6_1).f0))).setCell ⟨gb328, 1, none⟩ (.int .i64 ((rd_T55 s0_1 x6_1).f1))).setCell ⟨gb328, 2, none⟩ (.int .i64 ((rd_T55 s0_1 x6_1).f2))) g s0_0 s0_1) := ⟨by repeat (first | (with_reducible first | exact HI0.out | apply IsS36.alloc | apply IsS36.drewN | apply IsS36.drew | refine IsS36.far ?_ NB0_319.out _ | refine IsS36.far ?_ NB0_326.out _ | refine IsS36.far ?_ NB0_328.out _) | exact HI0.out)⟩
                    have n6_ : Aside0 (KeepBut w (((w23.setCell ⟨gb328, 0, none⟩ (.int .i64 ((rd_T55 s0_1 x6_1).f0))).setCell ⟨gb328, 1, none⟩ (.int .i64 ((rd_T55 s0_1 x6_1).f1))).setCell ⟨gb328, 2, none⟩ (.int .i64 ((rd_T55 s0_1 x6_1).f2))) g none) := ⟨by repeat (first | (with_reducible first | exact HK.out | apply KeepBut.set_ | apply keep_drewN | apply keep_drew | apply keep_alloc | refine keep_far ?_ GW319.out _ | refine keep_far ?_ GW326.out _ | refine keep_far ?_ GW328.out _) | exact HK.out)⟩
                    have n7_ : Aside0 (Below w0.heap.size w0 (((w23.setCell ⟨gb328, 0, none⟩ (.int .i64 ((rd_T55 s0_1 x6_1).f0))).setCell ⟨gb328, 1, none⟩ (.int .i64 ((rd_T55 s0_1 x6_1).f1))).setCell ⟨gb328, 2, none⟩ (.int .i64 ((rd_T55 s0_1 x6_1).f2)))) := ⟨by repeat (first | (with_reducible first | exact HB.out | apply below_alloc | apply pw_below_drewN | apply below_drew1 | refine below_set ?_ (IsS36.ge HI0.out) | refine below_set ?_ GE319.out | refine below_set ?_ GE326.out | refine below_set ?_ GE328.out) | exact HB.out)⟩
                    (try clear HO_327000)
                    (try clear HO_327001)
                    (try clear BK319)
                    (try clear BK326)
                    (try clear BK328)
                    (try clear HI0)
                    (try clear HK)
                    (try clear HB)
                    generalize (((w23.setCell ⟨gb328, 0, none⟩ (.int .i64 ((rd_T55 s0_1 x6_1).f0))).setCell ⟨gb328, 1, none⟩ (.int .i64 ((rd_T55 s0_1 x6_1).f1))).setCell ⟨gb328, 2, none⟩ (.int .i64 ((rd_T55 s0_1 x6_1).f2))) = w28 at n0_ n1_ n2_ n3_ n4_ n5_ n6_ n7_ ⊢
                    have HO_327000 := n0_
                    have HO_327001 := n1_
                    have BK319 := n2_
                    have BK326 := n3_
                    have BK328 := n4_
                    have HI0 := n5_
                    have HK := n6_
                    have HB := n7_
                    clear n0_ n1_ n2_ n3_ n4_ n5_ n6_ n7_
                    have n0_ := Aside0.mk (Kd.R_drew HO_327000.out)
                    have n1_ := Aside0.mk (Kd.R_drew HO_327001.out)
                    have n2_ := Aside0.mk (blk_drew BK319.out)
                    have n3_ := Aside0.mk (blk_drew BK326.out)
                    have n4_ := Aside0.mk (blk_drew BK328.out)
                    have n5_ := Aside0.mk (IsS36.drew HI0.out)
                    have n6_ := Aside0.mk (keep_drew HK.out)
                    have n7_ := Aside0.mk (below_drew1 HB.out)
                    clear HO_327000
                    clear HO_327001
                    clear BK319
                    clear BK326
                    clear BK328
                    clear HI0
                    clear HK
                    clear HB
                    have HO_327000 := n0_
                    have HO_327001 := n1_
                    have BK319 := n2_
                    have BK326 := n3_
                    have BK328 := n4_
                    have HI0 := n5_
                    have HK := n6_
                    have HB := n7_
                    clear n0_ n1_ n2_ n3_ n4_ n5_ n6_ n7_
                    have p329 : 0 ≤ (((rd_T55 s0_1 x6_1).f1) : Int) := of_decide_eq_true (by first | (with_reducible assumption) | assumption)
                    have q329 : ((rd_T55 s0_1 x6_1).f1) < (l1.length : Int) := of_decide_eq_true (by first | (with_reducible assumption) | assumption)
                    obtain ⟨ad329, e329, hx329_0⟩ := Kd.at_int HR1.out ((rd_T55 s0_1 x6_1).f1) p329 q329
                    have hw329_0 := hx329_0
                    cases e329
                    have hne329_0 := (show ((ad329.add (((rd_T55 s0_1 x6_1).f1)).toNat) : Addr).block ≠ g from by first | (rw [add_block]; exact hf1 ad329 rfl (by omega)) | (show (Addr.add _ _).block ≠ _; rw [add_block]; exact hf1 ad329 rfl (by omega)) | exact hf1 ad329 rfl (by omega))
                    replace hx329_0 := keep_cell HK.out hx329_0 (by first | (rw [add_block]; exact hf1 _ rfl (by omega)) | exact hf1 _ rfl (by omega) | exact hf1 ad329 rfl (by omega))
                    replace p329 := eq_true p329
                    replace q329 := eq_true q329
                    have p330 : 0 ≤ (((rd_T55 s0_1 x6_1).f0) : Int) := of_decide_eq_true (by first | (with_reducible assumption) | assumption)
                    have q330 : ((rd_T55 s0_1 x6_1).f0) < (l1.length : Int) := of_decide_eq_true (by first | (with_reducible assumption) | assumption)
                    obtain ⟨ad330, e330, hx330_0⟩ := Kd.at_int HR1.out ((rd_T55 s0_1 x6_1).f0) p330 q330
                    have hw330_0 := hx330_0
                    obtain rfl : ad329 = ad330 := (by injection e330)
                    have hne330_0 := (show ((ad329.add (((rd_T55 s0_1 x6_1).f0)).toNat) : Addr).block ≠ g from by first | (rw [add_block]; exact hf1 ad329 rfl (by omega)) | (show (Addr.add _ _).block ≠ _; rw [add_block]; exact hf1 ad329 rfl (by omega)) | exact hf1 ad329 rfl (by omega))
                    replace hx330_0 := keep_cell HK.out hx330_0 (by first | (rw [add_block]; exact hf1 _ rfl (by omega)) | exact hf1 _ rfl (by omega) | exact hf1 ad329 rfl (by omega))
                    replace p330 := eq_true p330
                    replace q330 := eq_true q330
                    refine start_ (n := 25) (S := fun w' => w'.cell? ⟨gb326, 0, none⟩ = some (.slice Ao10 t320.length co10) ∧ w'.cell? ⟨gb326, 1, none⟩ = some (u327001) ∧ w'.cell? ⟨gb328, 0, none⟩ = some (.int .i64 ((rd_T55 s0_1 x6_1).f0)) ∧ w'.cell? ⟨gb328, 1, none⟩ = some (.int .i64 ((rd_T55 s0_1 x6_1).f1)) ∧ w'.cell? ⟨gb328, 2, none⟩ = some (.int .i64 ((rd_T55 s0_1 x6_1).f2)) ∧ w'.cell? (ad329.add (((rd_T55 s0_1 x6_1).f1)).toNat) = some (.int .i64 (rd l1 ((rd_T55 s0_1 x6_1).f1))) ∧ w'.cell? (ad329.add (((rd_T55 s0_1 x6_1).f0)).toNat) = some (.int .i64 (rd l1 ((rd_T55 s0_1 x6_1).f0)))) (ds := [24]) #[false, false, false, false, false, false, false, false, false, false, false, false, false, false, false, false, false, false, false, false, false, false, false, false, false] (by kernel_rfl) rfl rfl ⟨(blk_cell BK326.out 0).trans rfl, (blk_cell BK326.out 1).trans rfl, (blk_cell BK328.out 0).trans rfl, (blk_cell BK328.out 1).trans rfl, (blk_cell BK328.out 2).trans rfl, (keep_cell HK.out hw329_0 hne329_0), (keep_cell HK.out hw330_0 hne330_0)⟩ (fun hHeld => ?_); refine with_tabW spec_l08Moved.tab6 spec_l08Moved.bits6 (fun HT_ HW_ => ?_)
                    generalize w28.drew = w29 at HO_327000 HO_327001 BK319 BK326 BK328 HI0 HK HB hx329_0 hx330_0 hHeld ⊢
                    refine pure_ (i := 0) (N := some 31) (v := ?_) (a' := ?_) #[true, false, false, false, false, false, false, false, false, false, false, false, false, false, false, false, false, false, false, false, false, false, false, false, false] rfl rfl (any_of HT_.out (by kernel_rfl)) (fun _ _ _ h => h) (Or.inl ⟨by rfl, ?_⟩) ?_ ?_
                    rotate_left
                    · intro w'
                      go_simp
                      with_reducible rfl
                    rotate_left
                    · simp only [Act.put, List.setIfInBounds_toArray, List.set_cons_zero, List.set_cons_succ, i64_w, i32_w]
                      rfl
                    refine pure_ (i := 2) (N := some 33) (v := ?_) (a' := ?_) #[true, false, true, false, false, false, false, false, false, false, false, false, false, false, false, false, false, false, false, false, false, false, false, false, false] rfl rfl (any_of HT_.out (by kernel_rfl)) (fun _ _ _ h => h) (Or.inl ⟨by rfl, ?_⟩) ?_ ?_
                    rotate_left
                    · intro w'
                      go_simp
                      with_reducible rfl
                    rotate_left
                    · simp only [Act.put, List.setIfInBounds_toArray, List.set_cons_zero, List.set_cons_succ, i64_w, i32_w]
                      rfl
                    refine pure_ (i := 4) (N := some 35) (v := ?_) (a' := ?_) #[true, false, true, false, true, false, false, false, false, false, false, false, false, false, false, false, false, false, false, false, false, false, false, false, false] rfl rfl (any_of HT_.out (by kernel_rfl)) (fun _ _ _ h => h) (Or.inl ⟨by rfl, ?_⟩) ?_ ?_
                    rotate_left
                    · intro w'
                      go_simp
                      with_reducible rfl
                    rotate_left
                    · simp only [Act.put, List.setIfInBounds_toArray, List.set_cons_zero, List.set_cons_succ, i64_w, i32_w]
                      rfl
                    refine pure_ (i := 6) (N := some 37) (v := ?_) (a' := ?_) #[true, false, true, false, true, false, true, false, false, false, false, false, false, false, false, false, false, false, false, false, false, false, false, false, false] rfl rfl (any_of HT_.out (by kernel_rfl)) (fun _ _ _ h => h) (Or.inl ⟨by rfl, ?_⟩) ?_ ?_
                    rotate_left
                    · intro w'
                      go_simp
                      with_reducible rfl
                    rotate_left
                    · simp only [Act.put, List.setIfInBounds_toArray, List.set_cons_zero, List.set_cons_succ, i64_w, i32_w]
                      rfl
                    refine pure_ (i := 8) (N := some 39) (v := ?_) (a' := ?_) #[true, false, true, false, true, false, true, false, true, false, false, false, false, false, false, false, false, false, false, false, false, false, false, false, false] rfl rfl (any_of HT_.out (by kernel_rfl)) (fun _ _ _ h => h) (Or.inl ⟨by rfl, ?_⟩) ?_ ?_
                    rotate_left
                    · intro w'
                      go_simp
                      with_reducible rfl
                    rotate_left
                    · simp only [Act.put, List.setIfInBounds_toArray, List.set_cons_zero, List.set_cons_succ, i64_w, i32_w]
                      rfl
                    refine pure_ (i := 9) (N := some 40) (v := ?_) (a' := ?_) #[true, false, true, false, true, false, true, false, true, true, false, false, false, false, false, false, false, false, false, false, false, false, false, false, false] rfl rfl (any_of HT_.out (by kernel_rfl)) (fun _ _ _ h => h) (Or.inl ⟨by rfl, ?_⟩) ?_ ?_
                    rotate_left
                    · intro w'
                      go_simp
                      with_reducible rfl
                    rotate_left
                    · simp only [Act.put, List.setIfInBounds_toArray, List.set_cons_zero, List.set_cons_succ, i64_w, i32_w]
                      rfl
                    refine pure_ (i := 14) (N := some 45) (v := ?_) (a' := ?_) #[true, false, true, false, true, false, true, false, true, true, false, false, false, false, true, false, false, false, false, false, false, false, false, false, false] rfl rfl (any_of HT_.out (by kernel_rfl)) (fun _ _ _ h => h) (Or.inl ⟨by rfl, ?_⟩) ?_ ?_
                    rotate_left
                    · intro w'
                      go_simp
                      with_reducible rfl
                    rotate_left
                    · simp only [Act.put, List.setIfInBounds_toArray, List.set_cons_zero, List.set_cons_succ, i64_w, i32_w]
                      rfl
                    refine pure_ (i := 15) (N := some 46) (v := ?_) (a' := ?_) #[true, false, true, false, true, false, true, false, true, true, false, false, false, false, true, true, false, false, false, false, false, false, false, false, false] rfl rfl (any_of HT_.out (by kernel_rfl)) (fun _ _ _ h => h) (Or.inl ⟨by rfl, ?_⟩) ?_ ?_
                    rotate_left
                    · intro w'
                      go_simp
                      with_reducible rfl
                    rotate_left
                    · simp only [Act.put, List.setIfInBounds_toArray, List.set_cons_zero, List.set_cons_succ, i64_w, i32_w]
                      rfl
                    refine take_ (i := 1) (N := some 32) (v := ?_) (a' := ?_) #[true, true, true, false, true, false, true, false, true, true, false, false, false, false, true, true, false, false, false, false, false, false, false, false, false] rfl rfl (take_ofW HT_.out HW_.out (by kernel_rfl)) (fun _ _ _ h => h) (Or.inl ⟨by rfl, ?_⟩) hHeld ?_ ?_
                    rotate_left
                    · rintro w' ⟨s0, s1, s2, s3, s4, s5, s6⟩
                      go_simp
                      with_reducible rfl
                    rotate_left
                    · simp only [Act.put, List.setIfInBounds_toArray, List.set_cons_zero, List.set_cons_succ, i64_w, i32_w]
                      rfl
                    refine take_ (i := 3) (N := some 34) (v := ?_) (a' := ?_) #[true, true, true, true, true, false, true, false, true, true, false, false, false, false, true, true, false, false, false, false, false, false, false, false, false] rfl rfl (take_ofW HT_.out HW_.out (by kernel_rfl)) (fun _ _ _ h => h) (Or.inl ⟨by rfl, ?_⟩) hHeld ?_ ?_
                    rotate_left
                    · rintro w' ⟨s0, s1, s2, s3, s4, s5, s6⟩
                      go_simp
                      with_reducible rfl
                    rotate_left
                    · simp only [Act.put, List.setIfInBounds_toArray, List.set_cons_zero, List.set_cons_succ, i64_w, i32_w]
                      rfl
                    refine take_ (i := 5) (N := some 36) (v := ?_) (a' := ?_) #[true, true, true, true, true, true, true, false, true, true, false, false, false, false, true, true, false, false, false, false, false, false, false, false, false] rfl rfl (take_ofW HT_.out HW_.out (by kernel_rfl)) (fun _ _ _ h => h) (Or.inl ⟨by rfl, ?_⟩) hHeld ?_ ?_
                    rotate_left
                    · rintro w' ⟨s0, s1, s2, s3, s4, s5, s6⟩
                      go_simp
                      with_reducible rfl
                    rotate_left
                    · simp only [Act.put, List.setIfInBounds_toArray, List.set_cons_zero, List.set_cons_succ, i64_w, i32_w]
                      rfl
                    refine take_ (i := 7) (N := some 38) (v := ?_) (a' := ?_) #[true, true, true, true, true, true, true, true, true, true, false, false, false, false, true, true, false, false, false, false, false, false, false, false, false] rfl rfl (take_ofW HT_.out HW_.out (by kernel_rfl)) (fun _ _ _ h => h) (Or.inl ⟨by rfl, ?_⟩) hHeld ?_ ?_
                    rotate_left
                    · rintro w' ⟨s0, s1, s2, s3, s4, s5, s6⟩
                      go_simp
                      with_reducible rfl
                    rotate_left
                    · simp only [Act.put, List.setIfInBounds_toArray, List.set_cons_zero, List.set_cons_succ, i64_w, i32_w]
                      rfl
                    refine take_ (i := 10) (N := some 41) (v := ?_) (a' := ?_) #[true, true, true, true, true, true, true, true, true, true, true, false, false, false, true, true, false, false, false, false, false, false, false, false, false] rfl rfl (take_ofW HT_.out HW_.out (by kernel_rfl)) (fun _ _ _ h => h) (Or.inl ⟨by rfl, ?_⟩) hHeld ?_ ?_
                    rotate_left
                    · rintro w' ⟨s0, s1, s2, s3, s4, s5, s6⟩
                      go_simp
                      with_reducible rfl
                    rotate_left
                    · simp only [Act.put, List.setIfInBounds_toArray, List.set_cons_zero, List.set_cons_succ, i64_w, i32_w]
                      rfl
                    refine pure_ (i := 11) (N := some 42) (v := ?_) (a' := ?_) #[true, true, true, true, true, true, true, true, true, true, true, true, false, false, true, true, false, false, false, false, false, false, false, false, false] rfl rfl (any_of HT_.out (by kernel_rfl)) (fun _ _ _ h => h) (Or.inl ⟨by rfl, ?_⟩) ?_ ?_
                    rotate_left
                    · intro w'
                      go_simp
                      with_reducible rfl
                    rotate_left
                    · simp only [Act.put, List.setIfInBounds_toArray, List.set_cons_zero, List.set_cons_succ, i64_w, i32_w]
                      rfl
                    refine take_ (i := 12) (N := some 43) (v := ?_) (a' := ?_) #[true, true, true, true, true, true, true, true, true, true, true, true, true, false, true, true, false, false, false, false, false, false, false, false, false] rfl rfl (take_ofW HT_.out HW_.out (by kernel_rfl)) (fun _ _ _ h => h) (Or.inl ⟨by rfl, ?_⟩) hHeld ?_ ?_
                    rotate_left
                    · rintro w' ⟨s0, s1, s2, s3, s4, s5, s6⟩
                      go_simp
                      with_reducible rfl
                    rotate_left
                    · simp only [Act.put, List.setIfInBounds_toArray, List.set_cons_zero, List.set_cons_succ, i64_w, i32_w]
                      rfl
                    refine pure_ (i := 13) (N := some 44) (v := ?_) (a' := ?_) #[true, true, true, true, true, true, true, true, true, true, true, true, true, true, true, true, false, false, false, false, false, false, false, false, false] rfl rfl (any_of HT_.out (by kernel_rfl)) (fun _ _ _ h => h) (Or.inl ⟨by rfl, ?_⟩) ?_ ?_
                    rotate_left
                    · intro w'
                      go_simp
                      with_reducible rfl
                    rotate_left
                    · simp only [Act.put, List.setIfInBounds_toArray, List.set_cons_zero, List.set_cons_succ, i64_w, i32_w]
                      rfl
                    refine take_ (i := 16) (N := some 47) (v := ?_) (a' := ?_) #[true, true, true, true, true, true, true, true, true, true, true, true, true, true, true, true, true, false, false, false, false, false, false, false, false] rfl rfl (take_ofW HT_.out HW_.out (by kernel_rfl)) (fun _ _ _ h => h) (Or.inl ⟨by rfl, ?_⟩) hHeld ?_ ?_
                    rotate_left
                    · rintro w' ⟨s0, s1, s2, s3, s4, s5, s6⟩
                      go_simp
                      with_reducible rfl
                    rotate_left
                    · simp only [Act.put, List.setIfInBounds_toArray, List.set_cons_zero, List.set_cons_succ, i64_w, i32_w]
                      rfl
                    refine pure_ (i := 17) (N := some 48) (v := ?_) (a' := ?_) #[true, true, true, true, true, true, true, true, true, true, true, true, true, true, true, true, true, true, false, false, false, false, false, false, false] rfl rfl (any_of HT_.out (by kernel_rfl)) (fun _ _ _ h => h) (Or.inl ⟨by rfl, ?_⟩) ?_ ?_
                    rotate_left
                    · intro w'
                      go_simp
                      with_reducible rfl
                    rotate_left
                    · simp only [Act.put, List.setIfInBounds_toArray, List.set_cons_zero, List.set_cons_succ, i64_w, i32_w]
                      rfl
                    refine take_ (i := 18) (N := some 49) (v := ?_) (a' := ?_) #[true, true, true, true, true, true, true, true, true, true, true, true, true, true, true, true, true, true, true, false, false, false, false, false, false] rfl rfl (take_ofW HT_.out HW_.out (by kernel_rfl)) (fun _ _ _ h => h) (Or.inl ⟨by rfl, ?_⟩) hHeld ?_ ?_
                    rotate_left
                    · rintro w' ⟨s0, s1, s2, s3, s4, s5, s6⟩
                      go_simp
                      with_reducible rfl
                    rotate_left
                    · simp only [Act.put, List.setIfInBounds_toArray, List.set_cons_zero, List.set_cons_succ, i64_w, i32_w]
                      rfl
                    refine pure_ (i := 19) (N := some 50) (v := ?_) (a' := ?_) #[true, true, true, true, true, true, true, true, true, true, true, true, true, true, true, true, true, true, true, true, false, false, false, false, false] rfl rfl (any_of HT_.out (by kernel_rfl)) (fun _ _ _ h => h) (Or.inl ⟨by rfl, ?_⟩) ?_ ?_
                    rotate_left
                    · intro w'
                      go_simp
                      with_reducible rfl
                    rotate_left
                    · simp only [Act.put, List.setIfInBounds_toArray, List.set_cons_zero, List.set_cons_succ, i64_w, i32_w]
                      rfl
                    refine pure_ (i := 20) (N := some 51) (v := ?_) (a' := ?_) #[true, true, true, true, true, true, true, true, true, true, true, true, true, true, true, true, true, true, true, true, true, false, false, false, false] rfl rfl (any_of HT_.out (by kernel_rfl)) (fun _ _ _ h => h) (Or.inl ⟨by rfl, ?_⟩) ?_ ?_
                    rotate_left
                    · intro w'
                      go_simp
                      with_reducible rfl
                    rotate_left
                    · simp only [Act.put, List.setIfInBounds_toArray, List.set_cons_zero, List.set_cons_succ, i64_w, i32_w]
                      rfl
                    refine one_ (i := 21) (N := some 52) #[true, true, true, true, true, true, true, true, true, true, true, true, true, true, true, true, true, true, true, true, true, true, false, false, false] rfl rfl (one_of HT_.out (by kernel_rfl)) (by decide) (fun K hK => ?_)
                    refine value_ (w1 := ?_) (v := ?_) (by rfl) rfl ?_ ?_
                    rotate_left 2
                    · go_simp
                      constructor
                      · rfl
                      · rfl
                    refine hK.out _ _ ⟨(blk_cell (blk_alloc BK326.out _) 0).trans rfl, (blk_cell (blk_alloc BK326.out _) 1).trans rfl, (blk_cell (blk_alloc BK328.out _) 0).trans rfl, (blk_cell (blk_alloc BK328.out _) 1).trans rfl, (blk_cell (blk_alloc BK328.out _) 2).trans rfl, (World.cell?_alloc_lt _ _ _ (World.block_lt_of_cell? _ _ ((keep_cell HK.out hw329_0 hne329_0)))).trans ((keep_cell HK.out hw329_0 hne329_0)), (World.cell?_alloc_lt _ _ _ (World.block_lt_of_cell? _ _ ((keep_cell HK.out hw330_0 hne330_0)))).trans ((keep_cell HK.out hw330_0 hne330_0))⟩ (fun hHeld => ?_)
                    clear hK K
                    refine norm_ (a' := ?_) ?_ ?_
                    rotate_left
                    · show Act.put _ (some 52) _ = _
                      simp only [Act.put, List.setIfInBounds_toArray, List.set_cons_zero, List.set_cons_succ, i64_w, i32_w]
                      rfl
                    refine one_ (i := 22) (N := some 53) #[true, true, true, true, true, true, true, true, true, true, true, true, true, true, true, true, true, true, true, true, true, true, true, false, false] rfl rfl (one_of HT_.out (by kernel_rfl)) (by decide) (fun K hK => ?_)
                    refine Kd.R_append_step k55 w.heap.size (by rfl) (.tmp 32) (.tmp 52) 34 55 (.agg #[(.int .i64 0), (.int .i64 0), (.int .i64 0)]) 24 rfl Try.underlying34 info55 rfl (by decide) (by omega) u327001 x327001_1 (⟨(rd_T55 s0_1 x6_1).f0, (rd_T55 s0_1 x6_1).f1, wrap64 ((wrap64 (((rd_T55 s0_1 x6_1).f2) + (rd l1 ((rd_T55 s0_1 x6_1).f1)))) - (rd l1 ((rd_T55 s0_1 x6_1).f0)))⟩ : S55) [.int .i64 ((rd_T55 s0_1 x6_1).f0), .int .i64 ((rd_T55 s0_1 x6_1).f1), .int .i64 (wrap64 ((wrap64 (((rd_T55 s0_1 x6_1).f2) + (rd l1 ((rd_T55 s0_1 x6_1).f1)))) - (rd l1 ((rd_T55 s0_1 x6_1).f0))))] (fun k_ => k_ ≠ gb328) (fun _ => False) rfl rfl ?aP (fun _ hk => hk.elim) ?aF ?aO (Below.refl _ _) ?aS ?aL ?_
                    (case aP => exact k55_mkM _ _ _ (⟨(rd_T55 s0_1 x6_1).f0, (rd_T55 s0_1 x6_1).f1, wrap64 ((wrap64 (((rd_T55 s0_1 x6_1).f2) + (rd l1 ((rd_T55 s0_1 x6_1).f1)))) - (rd l1 ((rd_T55 s0_1 x6_1).f0)))⟩ : S55))
                    (case aF => exact (fun k_ hk => Kd.freshB (g := gb328) (o := .cells #[.int .i64 ((rd_T55 s0_1 x6_1).f0), .int .i64 ((rd_T55 s0_1 x6_1).f1), .int .i64 ((rd_T55 s0_1 x6_1).f2)] 55 (0, 0)) (by (with_reducible repeat (first | refine blk_drewN ?_ _ | refine blk_drew ?_ | refine blk_alloc ?_ _)); exact BK328.out) k_ hk))
                    (case aO => exact (by (with_reducible repeat (first | apply Kd.R_alloc | apply Kd.R_drewN | apply Kd.R_drew)); exact HO_327001.out))
                    (case aS => exact (keep_size (w := w) (g := g) (row := none) (by repeat (first | (with_reducible first | exact HK.out | apply KeepBut.set_ | apply keep_drewN | apply keep_drew | apply keep_alloc | refine keep_far ?_ GW319.out _ | refine keep_far ?_ GW326.out _ | refine keep_far ?_ GW328.out _) | exact HK.out))))
                    (case aL => have := LMc21.out; omega)
                    intro v332 w30 ho hb hg hat
                    rw [← Ny331.out] at ho
                    have n0_ := Aside0.mk (Kd.R_over' (by (with_reducible repeat (first | apply Kd.R_alloc | apply Kd.R_drewN | apply Kd.R_drew)); exact HO_327000.out) (Kd.R_typed (by (with_reducible repeat (first | apply Kd.R_alloc | apply Kd.R_drewN | apply Kd.R_drew)); exact HO_327001.out)) (by decide) hg)
                    have n1_ := Aside0.mk (blk_grown (g := gb319) (o := .cells #[.slice none 0 0, .slice none 0 0] 36 (0, 0)) (by (with_reducible repeat (first | refine blk_drewN ?_ _ | refine blk_drew ?_ | refine blk_alloc ?_ _)); exact BK319.out) hg (Kd.R_ne HO_327001.out BK319.out (by decide)))
                    have n2_ := Aside0.mk (blk_grown (g := gb326) (o := .cells #[.slice Ao10 t320.length co10, u327001] 36 (0, 0)) (by (with_reducible repeat (first | refine blk_drewN ?_ _ | refine blk_drew ?_ | refine blk_alloc ?_ _)); exact BK326.out) hg (Kd.R_ne HO_327001.out BK326.out (by decide)))
                    have n3_ := Aside0.mk (IsS36.grown (by repeat (first | (with_reducible first | exact HI0.out | apply IsS36.alloc | apply IsS36.drewN | apply IsS36.drew | refine IsS36.far ?_ NB0_319.out _ | refine IsS36.far ?_ NB0_326.out _ | refine IsS36.far ?_ NB0_328.out _) | exact HI0.out)) hg (IsS36.own_ne HI0.out HO_327001.out (by decide)))
                    have n4_ := Aside0.mk (blk_grown (g := gb328) (o := .cells #[.int .i64 ((rd_T55 s0_1 x6_1).f0), .int .i64 ((rd_T55 s0_1 x6_1).f1), .int .i64 ((rd_T55 s0_1 x6_1).f2)] 55 (0, 0)) (by (with_reducible repeat (first | refine blk_drewN ?_ _ | refine blk_drew ?_ | refine blk_alloc ?_ _)); exact BK328.out) hg (Kd.R_away HO_327001.out (fun _ hk => hk)))
                    have n5_ := Aside0.mk (below_weaken (by repeat (first | (with_reducible first | exact HB.out | apply below_alloc | apply pw_below_drewN | apply below_drew1 | refine below_set ?_ (IsS36.ge HI0.out) | refine below_set ?_ GE319.out | refine below_set ?_ GE326.out | refine below_set ?_ GE328.out) | exact HB.out)) HL.out hb)
                    have n6_ := Aside0.mk (KeepBut.trans (by repeat (first | (with_reducible first | exact HK.out | apply KeepBut.set_ | apply keep_drewN | apply keep_drew | apply keep_alloc | refine keep_far ?_ GW319.out _ | refine keep_far ?_ GW326.out _ | refine keep_far ?_ GW328.out _) | exact HK.out)) (KeepBut.of_grown hg g) (Kd.R_base2 HO_327001.out))
                    have n7_ := Aside0.mk (ho)
                    clear HO_327000
                    clear BK319
                    clear BK326
                    clear HI0
                    clear BK328
                    clear HB
                    clear HK
                    clear HO_327001
                    have HO_327000 := n0_
                    have BK319 := n1_
                    have BK326 := n2_
                    have HI0 := n3_
                    have BK328 := n4_
                    have HB := n5_
                    have HK := n6_
                    have HO333 := n7_
                    clear n0_ n1_ n2_ n3_ n4_ n5_ n6_ n7_
                    clear ho hb hg hat
                    obtain ⟨Ao31, co31, eo31⟩ := Kd.R_slice HO333.out
                    (first | subst eo31 | (injection eo31 with f1_ f2_ f3_; have f4_ := f1_.symm; have f5_ := f3_.symm; clear f1_ f2_ f3_; subst f4_; subst f5_))
                    refine hK.out _ _ ⟨(blk_cell BK326.out 0).trans rfl, (blk_cell BK326.out 1).trans rfl, (blk_cell BK328.out 0).trans rfl, (blk_cell BK328.out 1).trans rfl, (blk_cell BK328.out 2).trans rfl, (keep_cell HK.out hw329_0 hne329_0), (keep_cell HK.out hw330_0 hne330_0)⟩ (fun hHeld => ?_)
                    clear hK K
                    refine norm_ (a' := ?_) ?_ ?_
                    rotate_left
                    · show Act.put _ (some 53) _ = _
                      simp only [Act.put, List.setIfInBounds_toArray, List.set_cons_zero, List.set_cons_succ, i64_w, i32_w]
                      rfl
                    refine pure_ (i := 23) (N := some 54) (v := ?_) (a' := ?_) #[true, true, true, true, true, true, true, true, true, true, true, true, true, true, true, true, true, true, true, true, true, true, true, true, false] rfl rfl (any_of HT_.out (by kernel_rfl)) (fun _ _ _ h => h) (Or.inl ⟨by rfl, ?_⟩) ?_ ?_
                    rotate_left
                    · intro w'
                      go_simp
                      with_reducible rfl
                    rotate_left
                    · simp only [Act.put, List.setIfInBounds_toArray, List.set_cons_zero, List.set_cons_succ, i64_w, i32_w]
                      rfl
                    refine last_ (i := 24) (N := none) #[true, true, true, true, true, true, true, true, true, true, true, true, true, true, true, true, true, true, true, true, true, true, true, true, true] rfl rfl (one_of HT_.out (by kernel_rfl)) (by decide) (fun K hK => ?_)
                    have hs32 : w30.cell? ⟨gb326, 1, none⟩ = some (u327001) := (blk_cell BK326.out 1).trans rfl
                    have hfs32 := blk_frozen BK326.out 1
                    have hns32_0 := NB319_326.out
                    have hns32_2 := NB328_326.out
                    have hms32_0 := NB326_319.out
                    have hms32_2 := NB326_328.out
                    refine skip_ (w1 := ?_) (by rfl) rfl ?_ ?_
                    rotate_left
                    · go_simp
                      rfl
                    refine hK.out _ _ ?_
                    clear hK K
                    refine done_ (done_of HT_.out (by kernel_rfl)) ?_
                    try go_wp2
                    go_roundg k1
                    case measure => have := HK1.out; omega
                    case rel => exact ⟨(wrap64 (x6_1 + 1)), (y331), (.slice Ao31 y331.length co31), (by first | rfl | (simp; done) | (simp [*]; done)), H', ⟨by have := HK1.out; omega⟩, ⟨by (with_reducible repeat (first | apply Kd.R_alloc | apply Kd.R_drewN | apply Kd.R_drew)); exact Kd.R_mono (Kd.R_far (p := ⟨gb326, 1, none⟩) (Kd.R_types HO_327000.out BK326.out (by decide)) (fun _ hk => hk.2) (.slice Ao31 y331.length co31)) (fun _ hk => trivial)⟩, ⟨by (with_reducible repeat (first | apply Kd.R_alloc | apply Kd.R_drewN | apply Kd.R_drew)); exact Kd.R_mono (Kd.R_far (p := ⟨gb326, 1, none⟩) (Kd.R_types HO333.out BK326.out (by decide)) (fun _ hk => hk.2) (.slice Ao31 y331.length co31)) (fun _ hk => trivial)⟩, ⟨by (with_reducible repeat (first | refine blk_drewN ?_ _ | refine blk_drew ?_ | refine blk_alloc ?_ _)); refine blk_far ?_ NB319_326.out _; (with_reducible repeat (first | refine blk_drewN ?_ _ | refine blk_drew ?_ | refine blk_alloc ?_ _)); exact BK319.out⟩, ⟨by (with_reducible repeat (first | refine blk_drewN ?_ _ | refine blk_drew ?_ | refine blk_alloc ?_ _)); refine blk_put (cs := #[.slice Ao10 t320.length co10, u327001]) ?_ 1 _ rfl; (with_reducible repeat (first | refine blk_drewN ?_ _ | refine blk_drew ?_ | refine blk_alloc ?_ _)); exact BK326.out⟩, ⟨by repeat (first | (with_reducible first | exact HI0.out | apply IsS36.alloc | apply IsS36.drewN | apply IsS36.drew | refine IsS36.far ?_ NB0_319.out _ | refine IsS36.far ?_ NB0_326.out _ | refine IsS36.far ?_ NB0_328.out _) | exact HI0.out)⟩, ⟨by repeat (first | (with_reducible first | exact HK.out | apply KeepBut.set_ | apply keep_drewN | apply keep_drew | apply keep_alloc | refine keep_far ?_ GW319.out _ | refine keep_far ?_ GW326.out _ | refine keep_far ?_ GW328.out _) | exact HK.out)⟩, ⟨by repeat (first | (with_reducible first | exact HB.out | apply below_alloc | apply pw_below_drewN | apply below_drew1 | refine below_set ?_ (IsS36.ge HI0.out) | refine below_set ?_ GE319.out | refine below_set ?_ GE326.out | refine below_set ?_ GE328.out) | exact HB.out)⟩⟩
                  · rw [if_neg c21] at H
                    exact absurd H (by simp)
                · rw [if_neg c20] at H
                  exact absurd H (by simp)
              · rw [if_neg c19] at H
                exact absurd H (by simp)
            · rw [if_neg c18] at H
              exact absurd H (by simp)
          · rw [if_neg c17] at H
            exact absurd H (by simp)
        · rw [if_neg c16] at H
          exact absurd H (by simp)
      · rw [if_neg c15] at H
        have c15b0 : decide (x6_1 < (s0_1.length : Int)) = false := decide_eq_false c15
        clear c15
        simp only [Option.some.injEq, Prod.mk.injEq] at H
        obtain ⟨rfl, rfl⟩ := H
        obtain ⟨ASz33_0, cSz33_0, ASz33_1, cSz33_1, HGz33, hgz33, HSz33_0, HSz33_1⟩ := HI0.out
        have hcz33_0 := cellS36_0 HGz33
        have hcz33_1 := cellS36_1 HGz33
        clear HGz33 hgz33
        have hnb34 := NB326_319.out
        have hnc34 := NB319_326.out
        have hnb35 := NB326_0.out
        have hnc35 := NB0_326.out
        have hcz36_0 : wr.cell? ⟨gb326, 0, none⟩ = some (.slice Ao10 t320.length co10) := (blk_cell BK326.out 0).trans rfl
        have hcz36_1 : wr.cell? ⟨gb326, 1, none⟩ = some (u327001) := (blk_cell BK326.out 1).trans rfl
        have hfz36_0 := blk_frozen BK326.out 0
        have hfz36_1 := blk_frozen BK326.out 1
        have hnb37 := NB319_0.out
        have hnc37 := NB0_319.out
        have hcz38_0 : wr.cell? ⟨gb319, 0, none⟩ = some (.slice none 0 0) := (blk_cell BK319.out 0).trans rfl
        have hcz38_1 : wr.cell? ⟨gb319, 1, none⟩ = some (.slice none 0 0) := (blk_cell BK319.out 1).trans rfl
        have hfz38_0 := blk_frozen BK319.out 0
        have hfz38_1 := blk_frozen BK319.out 1
        obtain ⟨Ao39, co39, eo39⟩ := Kd.R_slice HO_327001.out
        subst eo39
        go_wp2
        refine bodyPost_ret (results_cell_row rfl _ _ gb319 36 #[.slice Ao10 t320.length co10, .slice Ao39 x327001_1.length co39] (0, 0) _ rfl (by (with_reducible repeat (first | refine blk_drewN ?_ _ | refine blk_drew ?_ | refine blk_alloc ?_ _)); refine blk_put (cs := #[.slice Ao10 t320.length co10, .slice none 0 0]) ?_ 1 _ rfl; (with_reducible repeat (first | refine blk_drewN ?_ _ | refine blk_drew ?_ | refine blk_alloc ?_ _)); refine blk_put (cs := #[.slice none 0 0, .slice none 0 0]) ?_ 0 _ rfl; (with_reducible repeat (first | refine blk_drewN ?_ _ | refine blk_drew ?_ | refine blk_alloc ?_ _)); exact BK319.out) Try.underlying36 rfl (by kernel_rfl)) rfl ?_
        exact ⟨_, _, by first | rfl | (simp [errW_none, errW_some] <;> rfl) | (simp [*, errW_none, errW_some] <;> rfl), by (with_reducible repeat (first | apply Kd.R_alloc | apply Kd.R_drewN | apply Kd.R_drew)); exact Kd.R_mono (Kd.R_far (p := ⟨gb319, 1, none⟩) (Kd.R_far (p := ⟨gb319, 0, none⟩) (Kd.R_types HO_327000.out BK319.out (by decide)) (fun _ hk => hk.2) (.slice Ao10 t320.length co10)) (fun _ hk => hk.2) (.slice Ao39 x327001_1.length co39)) (fun _ hk => trivial), by (with_reducible repeat (first | apply Kd.R_alloc | apply Kd.R_drewN | apply Kd.R_drew)); exact Kd.R_mono (Kd.R_far (p := ⟨gb319, 1, none⟩) (Kd.R_far (p := ⟨gb319, 0, none⟩) (Kd.R_types HO_327001.out BK319.out (by decide)) (fun _ hk => hk.2) (.slice Ao10 t320.length co10)) (fun _ hk => hk.2) (.slice Ao39 x327001_1.length co39)) (fun _ hk => trivial), by repeat (first | (with_reducible first | exact HI0.out | apply IsS36.alloc | apply IsS36.drewN | apply IsS36.drew | refine IsS36.far ?_ NB0_319.out _ | refine IsS36.far ?_ NB0_326.out _) | exact HI0.out), by repeat (first | (with_reducible first | exact HB.out | apply below_alloc | apply pw_below_drewN | apply below_drew1 | refine below_set ?_ (IsS36.ge HI0.out) | refine below_set ?_ GE319.out | refine below_set ?_ GE326.out) | exact HB.out), by repeat (first | (with_reducible first | exact HK.out | apply KeepBut.set_ | apply keep_drewN | apply keep_drew | apply keep_alloc | refine keep_far ?_ GW319.out _ | refine keep_far ?_ GW326.out _) | exact HK.out)⟩
end Go.Proofs.Ytojpibpjieanhaa.X
end
section
/- The reference's l08Can. Conditions: none. -/
namespace Go.Proofs.Ytojpibpjieanhaa.X
open Go.RowKit Go.Proofs.YtojpibpjieanhaaW.PrintWords Go.Proofs.YtojpibpjieanhaaW.PrintLast Go.Proofs.YtojpibpjieanhaaW.PrintMore
set_option linter.unusedVariables false
set_option linter.unusedSimpArgs false
set_option maxHeartbeats 8000000 in
set_option maxRecDepth 100000 in
theorem l08Can_1 (k : Nat) (g : Nat) (l0 : List Int) (l1 : List S55) (A : Option Addr) (c : Nat) (m : List Int) (w0 w : World) (hI : IsS36 w0 w g l0 l1) (hB : Below w0.heap.size w0 w) (hm : Kd.C (Kd.int .i64) w A m.length m) (hc : m.length ≤ c) (hf : ∀ ad, A = some ad → 0 < m.length → ad.block ≠ g) (h1 : spec_l08Is.f k l0 l1 = some false) :
    Calls Try.prog 56 #[.pointer (some ⟨g, 0, none⟩), .slice A m.length c] w fun e w' => e = .returned (.bool false) ∧ IsS36 w0 w' g l0 l1 ∧ Below w0.heap.size w0 w' ∧ KeepBut w w' g none := by
  have HhI := Aside0.mk hI
  have HhB := Aside0.mk hB
  have Hhm := Aside0.mk hm
  have Hhc := Aside0.mk hc
  have Hhf := Aside0.mk hf
  have Hh1 := Aside0.mk h1
  clear hI hB hm hc hf h1
  have HI := HhI
  have HB := HhB
  have HK := Aside0.mk (KeepBut.refl w g none)
  clear HhI HhB
  go_enter Try.func56, Try.ntmps56
  go_wp2_with (first
    | (go_at_call 51; refine (spec_l08Is.calls k g l0 l1 false w0 _ HI.out HB.out Hh1.out).mono ?_; rintro e wn ⟨rfl, hi, hb, hk⟩; have n0_ := Aside0.mk (KeepBut.trans HK.out hk (.inl rfl)); clear HI HB HK hk; have HI := Aside0.mk hi; have HB := Aside0.mk hb; have HK := n0_; clear hi hb n0_; obtain ⟨Aa, ca, Ab, cb, hg, hgg, q0, q1⟩ := HI.out; have cg0 := cellS36_0 hg; clear hg hgg q0 q1))
  go_ret
  exact ⟨rfl, HI.out, HB.out, HK.out⟩
set_option maxHeartbeats 8000000 in
set_option maxRecDepth 100000 in
theorem l08Can_2 (k : Nat) (g : Nat) (l0 : List Int) (l1 : List S55) (A : Option Addr) (c : Nat) (m : List Int) (w0 w : World) (hI : IsS36 w0 w g l0 l1) (hB : Below w0.heap.size w0 w) (hm : Kd.C (Kd.int .i64) w A m.length m) (hc : m.length ≤ c) (hf : ∀ ad, A = some ad → 0 < m.length → ad.block ≠ g) (h1 : spec_l08Is.f k l0 l1 = some true) (h2 : spec_l08Moves.f k (l0.length : Int) m = some false) :
    Calls Try.prog 56 #[.pointer (some ⟨g, 0, none⟩), .slice A m.length c] w fun e w' => e = .returned (.bool false) ∧ IsS36 w0 w' g l0 l1 ∧ Below w0.heap.size w0 w' ∧ KeepBut w w' g none := by
  have HhI := Aside0.mk hI
  have HhB := Aside0.mk hB
  have Hhm := Aside0.mk hm
  have Hhc := Aside0.mk hc
  have Hhf := Aside0.mk hf
  have Hh1 := Aside0.mk h1
  have Hh2 := Aside0.mk h2
  clear hI hB hm hc hf h1 h2
  have HI := HhI
  have HB := HhB
  have HK := Aside0.mk (KeepBut.refl w g none)
  clear HhI HhB
  go_enter Try.func56, Try.ntmps56
  go_wp2_with (first
    | (go_at_call 51; refine (spec_l08Is.calls k g l0 l1 true w0 _ HI.out HB.out Hh1.out).mono ?_; rintro e wn ⟨rfl, hi, hb, hk⟩; have n0_ := Aside0.mk (KeepBut.trans HK.out hk (.inl rfl)); clear HI HB HK hk; have HI := Aside0.mk hi; have HB := Aside0.mk hb; have HK := n0_; clear hi hb n0_; obtain ⟨Aa, ca, Ab, cb, hg, hgg, q0, q1⟩ := HI.out; have cg0 := cellS36_0 hg; clear hg hgg q0 q1)
    | (go_at_call 46; refine (spec_l08Moves.calls k (l0.length : Int) A c m false _ (Kd.C_keep 0 Hhm.out HK.out Hhf.out) Hhc.out Hh2.out).mono ?_; rintro e wn ⟨rfl, hd⟩; obtain ⟨q, hq⟩ := hd; subst hq; have n0_ := Aside0.mk (keep_drewN HK.out q); have n1_ := Aside0.mk (IsS36.drewN HI.out q); have n2_ := Aside0.mk (pw_below_drewN HB.out q); clear HK HI HB cg0; have HK := n0_; have HI := n1_; have HB := n2_; clear n0_ n1_ n2_))
  go_ret
  exact ⟨rfl, HI.out, HB.out, HK.out⟩
set_option maxHeartbeats 8000000 in
set_option maxRecDepth 100000 in
theorem l08Can_3 (k : Nat) (g : Nat) (l0 : List Int) (l1 : List S55) (A : Option Addr) (c : Nat) (m : List Int) (r1 : List Int) (r2 : List S55) (b : Bool) (w0 w : World) (hI : IsS36 w0 w g l0 l1) (hB : Below w0.heap.size w0 w) (hm : Kd.C (Kd.int .i64) w A m.length m) (hc : m.length ≤ c) (hf : ∀ ad, A = some ad → 0 < m.length → ad.block ≠ g) (h1 : spec_l08Is.f k l0 l1 = some true) (h2 : spec_l08Moves.f k (l0.length : Int) m = some true) (h3 : spec_l08Moved.f k l0 l1 m = some (r1, r2)) (h4 : spec_l08Form.f k r1 r2 = some b) :
    Calls Try.prog 56 #[.pointer (some ⟨g, 0, none⟩), .slice A m.length c] w fun e w' => e = .returned (.bool b) ∧ IsS36 w0 w' g l0 l1 ∧ Below w0.heap.size w0 w' ∧ KeepBut w w' g none := by
  have HhI := Aside0.mk hI
  have HhB := Aside0.mk hB
  have Hhm := Aside0.mk hm
  have Hhc := Aside0.mk hc
  have Hhf := Aside0.mk hf
  have Hh1 := Aside0.mk h1
  have Hh2 := Aside0.mk h2
  have Hh3 := Aside0.mk h3
  have Hh4 := Aside0.mk h4
  clear hI hB hm hc hf h1 h2 h3 h4
  have HI := HhI
  have HB := HhB
  have HK := Aside0.mk (KeepBut.refl w g none)
  clear HhI HhB
  go_enter Try.func56, Try.ntmps56
  go_wp2_with (first
    | (go_at_call 51; refine (spec_l08Is.calls k g l0 l1 true w0 _ HI.out HB.out Hh1.out).mono ?_; rintro e wn ⟨rfl, hi, hb, hk⟩; have n0_ := Aside0.mk (KeepBut.trans HK.out hk (.inl rfl)); clear HI HB HK hk; have HI := Aside0.mk hi; have HB := Aside0.mk hb; have HK := n0_; clear hi hb n0_; obtain ⟨Aa, ca, Ab, cb, hg, hgg, q0, q1⟩ := HI.out; have cg0 := cellS36_0 hg; clear hg hgg q0 q1)
    | (go_at_call 46; refine (spec_l08Moves.calls k (l0.length : Int) A c m true _ (Kd.C_keep 0 Hhm.out HK.out Hhf.out) Hhc.out Hh2.out).mono ?_; rintro e wn ⟨rfl, hd⟩; obtain ⟨q, hq⟩ := hd; subst hq; have n0_ := Aside0.mk (keep_drewN HK.out q); have n1_ := Aside0.mk (IsS36.drewN HI.out q); have n2_ := Aside0.mk (pw_below_drewN HB.out q); clear HK HI HB cg0; have HK := n0_; have HI := n1_; have HB := n2_; clear n0_ n1_ n2_)
    | (go_at_call 63; refine (spec_l08Moved.calls k g l0 l1 A c m r1 r2 w0 _ HI.out HB.out (Kd.C_keep 0 Hhm.out HK.out Hhf.out) Hhc.out Hhf.out Hh3.out).mono ?_; rintro e wn ⟨v0, v1, rfl, hr0, hr1, hi, hb, hk⟩; have n0_ := Aside0.mk (KeepBut.trans HK.out hk (.inl rfl)); clear HI HB HK hk; have HI := Aside0.mk hi; have HB := Aside0.mk hb; have HK := n0_; clear hi hb n0_; obtain ⟨A0, c0, e0⟩ := Kd.R_slice hr0; subst e0; obtain ⟨A1, c1, e1⟩ := Kd.R_slice hr1; subst e1; have HO0 := Aside0.mk (Kd.R_reads' hr0).2.2; have HO1 := Aside0.mk (Kd.R_reads' hr1).2.2; clear hr0 hr1; obtain ⟨W3, hW3⟩ : ∃ W3, W3 = wn := ⟨_, rfl⟩; subst hW3)
    | ((with_reducible refine gate_dst (N := 5) rfl ?_); refine box_event ?hg (N := 5) ?hd (cs := #[.slice none 0 0, .slice none 0 0]) (t := 36) ?hr ?_; (case hd => rfl); (case hg => rfl); (case hr => first | (go_simp; done) | (go_simp; rfl)); intro g5 hg wb hbox hb; have HG := Aside0.mk hg; have BX := Aside0.mk hbox; have HBB := Aside0.mk hb; clear hg hbox hb; have z0 := blk_frozen BX.out 0; have z1 := blk_frozen BX.out 1; have x0 : wb.cell? ⟨g5, 0, none⟩ = some (.slice none 0 0) := (blk_cell BX.out 0).trans rfl; have x1 : wb.cell? ⟨g5, 1, none⟩ = some (.slice none 0 0) := (blk_cell BX.out 1).trans rfl)
    | (go_at_call 78; have P0 := blk_put (cs' := #[.slice A0 r1.length c0, .slice A1 r2.length c1]) (blk_put (cs' := #[.slice A0 r1.length c0, .slice none 0 0]) BX.out 0 (.slice A0 r1.length c0) rfl) 1 (.slice A1 r2.length c1) rfl; have PB := below_set (j := 1) (v := .slice A1 r2.length c1) (below_set (j := 0) (v := .slice A0 r1.length c0) HBB.out (Nat.le_of_eq HG.out.symm)) (Nat.le_of_eq HG.out.symm); refine (spec_l08Form.calls k g5 r1 r2 b _ _ ⟨A0, c0, A1, c1, P0, Nat.le_of_eq HG.out.symm, HO0.out, HO1.out⟩ PB Hh4.out).mono ?_; rintro e wz ⟨rfl, hi, hb, hk⟩; clear P0 PB hi hk; have HF := Aside0.mk hb; clear hb))
  go_ret
  exact ⟨rfl, IsS36.below HI.out HF.out, below_step HB.out HF.out, KeepBut.trans HK.out (KeepBut.of_below HF.out g none) (.inl rfl)⟩
def spec_l08Can.f (k : Nat) (l0 : List Int) (l1 : List S55) (m : List Int) : Option Bool :=
  (spec_l08Is.f k l0 l1).bind fun a => if a = true then (spec_l08Moves.f k (l0.length : Int) m).bind fun b => if b = true then (spec_l08Moved.f k l0 l1 m).bind fun r => spec_l08Form.f k r.1 r.2 else some false else some false
theorem spec_l08Can.mono : ∀ a0 a1 a2 k, LeO (spec_l08Can.f k a0 a1 a2) (spec_l08Can.f (k + 1) a0 a1 a2) := by
  intro a0 a1 a2 k
  unfold spec_l08Can.f
  refine LeO.bind (spec_l08Is.mono a0 a1 k) (fun a => ?_)
  split
  · refine LeO.bind (spec_l08Moves.mono _ a2 k) (fun b => ?_)
    split
    · exact LeO.bind (spec_l08Moved.mono a0 a1 a2 k) (fun r => spec_l08Form.mono r.1 r.2 k)
    · exact LeO.refl _
  · exact LeO.refl _
theorem spec_l08Can.calls (k : Nat) (g : Nat) (s0_0 : List Int) (s0_1 : List (S55)) (A1 : Option Addr) (c1 : Nat) (l1 : List Int) (r : Bool) (w0 w : World) (hI : IsS36 w0 w g s0_0 s0_1) (hB : Below w0.heap.size w0 w) (hr1 : Kd.C (Kd.int .i64) w A1 l1.length l1) (hc1 : l1.length ≤ c1) (hf1 : ∀ ad, A1 = some ad → 0 < l1.length → ad.block ≠ g) (h : spec_l08Can.f k s0_0 s0_1 l1 = some r) :
    Calls Try.prog 56 #[.pointer (some ⟨g, 0, none⟩), .slice A1 l1.length c1] w fun e w' => e = .returned (.bool r) ∧ IsS36 w0 w' g s0_0 s0_1 ∧ Below w0.heap.size w0 w' ∧ KeepBut w w' g none := by
  unfold spec_l08Can.f at h
  obtain ⟨a, ha, h⟩ := Option.bind_eq_some_iff.mp h
  cases a with
  | false =>
    rw [if_neg (by simp)] at h
    obtain rfl := Option.some.inj h
    exact l08Can_1 k g s0_0 s0_1 A1 c1 l1 w0 w hI hB hr1 hc1 hf1 ha
  | true =>
    rw [if_pos rfl] at h
    obtain ⟨b, hb, h⟩ := Option.bind_eq_some_iff.mp h
    cases b with
    | false =>
      rw [if_neg (by simp)] at h
      obtain rfl := Option.some.inj h
      exact l08Can_2 k g s0_0 s0_1 A1 c1 l1 w0 w hI hB hr1 hc1 hf1 ha hb
    | true =>
      rw [if_pos rfl] at h
      obtain ⟨⟨r1, r2⟩, hr, h⟩ := Option.bind_eq_some_iff.mp h
      exact l08Can_3 k g s0_0 s0_1 A1 c1 l1 r1 r2 r w0 w hI hB hr1 hc1 hf1 ha hb hr h
end Go.Proofs.Ytojpibpjieanhaa.X
end
section
/- The reference's IsMove and MoveFlow. Conditions: none. -/
namespace Go.Proofs.Ytojpibpjieanhaa.X
open Go.RowKit Go.Proofs.YtojpibpjieanhaaW.PrintWords Go.Proofs.YtojpibpjieanhaaW.PrintLast Go.Proofs.YtojpibpjieanhaaW.PrintMore
set_option linter.unusedVariables false
set_option linter.unusedSimpArgs false
set_option maxHeartbeats 8000000 in
set_option maxRecDepth 100000 in
theorem sIsMove (k : Nat) (A0 : Option Addr) (c0 : Nat) (l0 : List Int) (A1 : Option Addr) (c1 : Nat) (l1 : List S55) (A2 : Option Addr) (c2 : Nat) (m : List Int) (r : Bool) (w : World) (hr0 : Kd.C (Kd.int .i64) w A0 l0.length l0) (hr1 : Kd.C k55 w A1 l1.length l1) (hm : Kd.C (Kd.int .i64) w A2 m.length m) (hc : m.length ≤ c2) (h1 : spec_l08Can.f k l0 l1 m = some r) :
    Calls Try.prog 27 #[.agg #[.slice A0 l0.length c0, .slice A1 l1.length c1], .slice A2 m.length c2] w fun e w' => e = .returned (.bool r) ∧ Below w.heap.size w w' := by
  have Hhr0 := Aside0.mk hr0
  have Hhr1 := Aside0.mk hr1
  have Hhm := Aside0.mk hm
  have Hhc := Aside0.mk hc
  have Hh1 := Aside0.mk h1
  clear hr0 hr1 hm hc h1
  have HB := Aside0.mk (Below.refl w.heap.size w)
  go_enter Try.func27, Try.ntmps27
  go_wp2_with (first
    | ((with_reducible refine gate_dst (N := 2) rfl ?_); refine box_event ?hg (N := 2) ?hd (cs := #[.slice A0 l0.length c0, .slice A1 l1.length c1]) (t := 36) ?hr ?_; (case hd => rfl); (case hg => rfl); (case hr => first | (go_simp; done) | (go_simp; rfl)); intro g2 hg wn hbox hb; have G2 := Aside0.mk (show w.heap.size ≤ g2 by rw [hg]; exact below_size HB.out); clear hg; have HI : Aside0 (IsS36 w wn g2 l0 l1) := ⟨A0, c0, A1, c1, hbox, G2.out, Hhr0.out, Hhr1.out⟩; have n0_ := Aside0.mk (below_step HB.out hb); clear HB hb hbox; have HB := n0_; clear n0_; have HK := Aside0.mk (KeepBut.refl wn g2 none); have HM := Aside0.mk (Kd.C_below Hhm.out HB.out); have HF := Aside0.mk (Kd.far_C 0 Hhm.out G2.out); obtain ⟨wk, hwk⟩ : ∃ wk, wk = wn := ⟨_, rfl⟩; subst hwk)
    | (go_at_call 56; refine (spec_l08Can.calls k g2 l0 l1 A2 c2 m r w _ HI.out HB.out HM.out Hhc.out HF.out Hh1.out).mono ?_; rintro e wn ⟨rfl, hi, hb, hk⟩; clear HI HB HK; have HI := Aside0.mk hi; have HB := Aside0.mk hb; have n0_ := Aside0.mk (Kd.C_keep 0 HM.out hk HF.out); clear HM; have HM := n0_; clear n0_ hi hb hk))
  go_ret
  exact ⟨rfl, HB.out⟩
def spec_IsMove.f (k : Nat) (l0 : List Int) (l1 : List S55) (m : List Int) : Option Bool := spec_l08Can.f k l0 l1 m
theorem spec_IsMove.mono : ∀ a0 a1 a2 k, LeO (spec_IsMove.f k a0 a1 a2) (spec_IsMove.f (k + 1) a0 a1 a2) := fun a0 a1 a2 k => spec_l08Can.mono a0 a1 a2 k
theorem spec_IsMove.calls (k : Nat) (A0_0 : Option Addr) (c0_0 : Nat) (l0_0 : List Int) (A0_1 : Option Addr) (c0_1 : Nat) (l0_1 : List (S55)) (A1 : Option Addr) (c1 : Nat) (l1 : List Int) (r : Bool) (w : World) (hr0_0 : Kd.C (Kd.int .i64) w A0_0 l0_0.length l0_0) (hc0_0 : l0_0.length ≤ c0_0) (hr0_1 : Kd.C k55 w A0_1 l0_1.length l0_1) (hc0_1 : l0_1.length ≤ c0_1) (hr1 : Kd.C (Kd.int .i64) w A1 l1.length l1) (hc1 : l1.length ≤ c1) (h : spec_IsMove.f k l0_0 l0_1 l1 = some r) :
    Calls Try.prog 27 #[.agg #[.slice A0_0 l0_0.length c0_0, .slice A0_1 l0_1.length c0_1], .slice A1 l1.length c1] w fun e w' => e = .returned (.bool r) ∧ Below w.heap.size w w' := sIsMove k A0_0 c0_0 l0_0 A0_1 c0_1 l0_1 A1 c1 l1 r w hr0_0 hr0_1 hr1 hc1 h
set_option maxHeartbeats 8000000 in
set_option maxRecDepth 100000 in
theorem sMoveFlow_no (k : Nat) (A0 : Option Addr) (c0 : Nat) (l0 : List Int) (A1 : Option Addr) (c1 : Nat) (l1 : List S55) (A2 : Option Addr) (c2 : Nat) (m : List Int) (w : World) (hr0 : Kd.C (Kd.int .i64) w A0 l0.length l0) (hr1 : Kd.C k55 w A1 l1.length l1) (hm : Kd.C (Kd.int .i64) w A2 m.length m) (hc : m.length ≤ c2) (h1 : spec_l08Can.f k l0 l1 m = some false) :
    Calls Try.prog 33 #[.agg #[.slice A0 l0.length c0, .slice A1 l1.length c1], .slice A2 m.length c2] w fun e w' => ∃ v0_ v1_ : Value, e = .returned (.tuple #[.agg #[v0_, v1_], .bool false]) ∧ Kd.R (Kd.int .i64) 2 w' w.heap.size (fun _ => True) v0_ [] ∧ Kd.R k55 55 w' w.heap.size (fun _ => True) v1_ [] ∧ Below w.heap.size w w' := by
  have Hhr0 := Aside0.mk hr0
  have Hhr1 := Aside0.mk hr1
  have Hhm := Aside0.mk hm
  have Hhc := Aside0.mk hc
  have Hh1 := Aside0.mk h1
  clear hr0 hr1 hm hc h1
  have HB := Aside0.mk (Below.refl w.heap.size w)
  go_enter Try.func33, Try.ntmps33
  go_wp2_with (first
    | ((with_reducible refine gate_dst (N := 2) rfl ?_); refine box_event ?hg (N := 2) ?hd (cs := #[.slice A0 l0.length c0, .slice A1 l1.length c1]) (t := 36) ?hr ?_; (case hd => rfl); (case hg => rfl); (case hr => first | (go_simp; done) | (go_simp; rfl)); intro g2 hg wn hbox hb; have G2 := Aside0.mk (show w.heap.size ≤ g2 by rw [hg]; exact below_size HB.out); clear hg; have HI : Aside0 (IsS36 w wn g2 l0 l1) := ⟨A0, c0, A1, c1, hbox, G2.out, Hhr0.out, Hhr1.out⟩; have n0_ := Aside0.mk (below_step HB.out hb); clear HB hb hbox; have HB := n0_; clear n0_; have HK := Aside0.mk (KeepBut.refl wn g2 none); have HM := Aside0.mk (Kd.C_below Hhm.out HB.out); have HF := Aside0.mk (Kd.far_C 0 Hhm.out G2.out); obtain ⟨wk, hwk⟩ : ∃ wk, wk = wn := ⟨_, rfl⟩; subst hwk)
    | ((with_reducible refine gate_dst (N := 4) rfl ?_); refine box_event ?hg (N := 4) ?hd (cs := #[.slice none 0 0, .slice none 0 0]) (t := 36) ?hr ?_; (case hd => rfl); (case hg => rfl); (case hr => first | (go_simp; done) | (go_simp; rfl)); intro g4 hg wn hbox hb; have G4 := Aside0.mk (show w.heap.size ≤ g4 by rw [hg]; exact below_size HB.out); have NE := Aside0.mk (show g4 ≠ g2 by rw [hg]; obtain ⟨_, _, _, _, q, _, _, _⟩ := HI.out; have := blk_lt q; omega); clear hg; have n0_ := Aside0.mk (below_step HB.out hb); have n1_ := Aside0.mk (IsS36.below HI.out hb); have n2_ := Aside0.mk (Kd.C_below HM.out hb); clear HB HI HM HK hb; have HB := n0_; have HI := n1_; have HM := n2_; clear n0_ n1_ n2_; have BX := Aside0.mk hbox; clear hbox)
    | (go_at_call 56; refine (spec_l08Can.calls k g2 l0 l1 A2 c2 m false w _ HI.out HB.out HM.out Hhc.out HF.out Hh1.out).mono ?_; rintro e wn ⟨rfl, hi, hb, hk⟩; have nx_ := Aside0.mk (hk.blk BX.out NE.out (by simp)); clear BX; have BX := nx_; clear nx_; clear HI HB; have HI := Aside0.mk hi; have HB := Aside0.mk hb; have n0_ := Aside0.mk (Kd.C_keep 0 HM.out hk HF.out); clear HM; have HM := n0_; clear n0_ hi hb hk; have z0 := blk_frozen BX.out 0; have z1 := blk_frozen BX.out 1; have x0 : wn.cell? ⟨g4, 0, none⟩ = some (.slice none 0 0) := (blk_cell BX.out 0).trans rfl; have x1 : wn.cell? ⟨g4, 1, none⟩ = some (.slice none 0 0) := (blk_cell BX.out 1).trans rfl))
  refine bodyPost_ret (results_ct rfl _ _ g4 36 #[.slice none 0 0, .slice none 0 0] (0, 0) _ rfl (blk_put (cs := #[.slice none 0 0, .slice none 0 0]) (blk_put (cs := #[.slice none 0 0, .slice none 0 0]) BX.out 0 _ rfl) 1 _ rfl) Try.underlying36 rfl (by kernel_rfl)) rfl ?_
  exact ⟨_, _, rfl, Kd.R_nil _ _ _ _ _, Kd.R_nil _ _ _ _ _, below_set (below_set HB.out G4.out) G4.out⟩
set_option maxHeartbeats 8000000 in
set_option maxRecDepth 100000 in
theorem sMoveFlow_yes (k : Nat) (A0 : Option Addr) (c0 : Nat) (l0 : List Int) (A1 : Option Addr) (c1 : Nat) (l1 : List S55) (A2 : Option Addr) (c2 : Nat) (m : List Int) (r1 : List Int) (r2 : List S55) (w : World) (hr0 : Kd.C (Kd.int .i64) w A0 l0.length l0) (hr1 : Kd.C k55 w A1 l1.length l1) (hm : Kd.C (Kd.int .i64) w A2 m.length m) (hc : m.length ≤ c2) (h1 : spec_l08Can.f k l0 l1 m = some true) (h2 : spec_l08Moved.f k l0 l1 m = some (r1, r2)) :
    Calls Try.prog 33 #[.agg #[.slice A0 l0.length c0, .slice A1 l1.length c1], .slice A2 m.length c2] w fun e w' => ∃ v0_ v1_ : Value, e = .returned (.tuple #[.agg #[v0_, v1_], .bool true]) ∧ Kd.R (Kd.int .i64) 2 w' w.heap.size (fun _ => True) v0_ r1 ∧ Kd.R k55 55 w' w.heap.size (fun _ => True) v1_ r2 ∧ Below w.heap.size w w' := by
  have Hhr0 := Aside0.mk hr0
  have Hhr1 := Aside0.mk hr1
  have Hhm := Aside0.mk hm
  have Hhc := Aside0.mk hc
  have Hh1 := Aside0.mk h1
  have Hh2 := Aside0.mk h2
  clear hr0 hr1 hm hc h1 h2
  have HB := Aside0.mk (Below.refl w.heap.size w)
  go_enter Try.func33, Try.ntmps33
  go_wp2_with (first
    | ((with_reducible refine gate_dst (N := 2) rfl ?_); refine box_event ?hg (N := 2) ?hd (cs := #[.slice A0 l0.length c0, .slice A1 l1.length c1]) (t := 36) ?hr ?_; (case hd => rfl); (case hg => rfl); (case hr => first | (go_simp; done) | (go_simp; rfl)); intro g2 hg wn hbox hb; have G2 := Aside0.mk (show w.heap.size ≤ g2 by rw [hg]; exact below_size HB.out); clear hg; have HI : Aside0 (IsS36 w wn g2 l0 l1) := ⟨A0, c0, A1, c1, hbox, G2.out, Hhr0.out, Hhr1.out⟩; have n0_ := Aside0.mk (below_step HB.out hb); clear HB hb hbox; have HB := n0_; clear n0_; have HK := Aside0.mk (KeepBut.refl wn g2 none); have HM := Aside0.mk (Kd.C_below Hhm.out HB.out); have HF := Aside0.mk (Kd.far_C 0 Hhm.out G2.out); obtain ⟨wk, hwk⟩ : ∃ wk, wk = wn := ⟨_, rfl⟩; subst hwk)
    | ((with_reducible refine gate_dst (N := 4) rfl ?_); refine box_event ?hg (N := 4) ?hd (cs := #[.slice none 0 0, .slice none 0 0]) (t := 36) ?hr ?_; (case hd => rfl); (case hg => rfl); (case hr => first | (go_simp; done) | (go_simp; rfl)); intro g4 hg wn hbox hb; have G4 := Aside0.mk (show w.heap.size ≤ g4 by rw [hg]; exact below_size HB.out); have NE := Aside0.mk (show g4 ≠ g2 by rw [hg]; obtain ⟨_, _, _, _, q, _, _, _⟩ := HI.out; have := blk_lt q; omega); clear hg; have n0_ := Aside0.mk (below_step HB.out hb); have n1_ := Aside0.mk (IsS36.below HI.out hb); have n2_ := Aside0.mk (Kd.C_below HM.out hb); clear HB HI HM HK hb; have HB := n0_; have HI := n1_; have HM := n2_; clear n0_ n1_ n2_; have BX := Aside0.mk hbox; clear hbox)
    | (go_at_call 56; refine (spec_l08Can.calls k g2 l0 l1 A2 c2 m true w _ HI.out HB.out HM.out Hhc.out HF.out Hh1.out).mono ?_; rintro e wn ⟨rfl, hi, hb, hk⟩; have nx_ := Aside0.mk (hk.blk BX.out NE.out (by simp)); clear BX; have BX := nx_; clear nx_; clear HI HB; have HI := Aside0.mk hi; have HB := Aside0.mk hb; have n0_ := Aside0.mk (Kd.C_keep 0 HM.out hk HF.out); clear HM; have HM := n0_; clear n0_ hi hb hk; have z0 := blk_frozen BX.out 0; have z1 := blk_frozen BX.out 1; have x0 : wn.cell? ⟨g4, 0, none⟩ = some (.slice none 0 0) := (blk_cell BX.out 0).trans rfl; have x1 : wn.cell? ⟨g4, 1, none⟩ = some (.slice none 0 0) := (blk_cell BX.out 1).trans rfl)
    | (go_at_call 63; refine (spec_l08Moved.calls k g2 l0 l1 A2 c2 m r1 r2 w _ HI.out HB.out HM.out Hhc.out HF.out Hh2.out).mono ?_; rintro e wn ⟨v0, v1, rfl, hr0, hr1, hi, hb, hk⟩; clear z0 z1 x0 x1; have nx_ := Aside0.mk (hk.blk BX.out NE.out (by simp)); clear BX; have BX := nx_; clear nx_; have n0_ := Aside0.mk (below_size HB.out); clear HI HB hi hk; have HB := Aside0.mk hb; clear hb; obtain ⟨Aa, ca, e0⟩ := Kd.R_slice hr0; subst e0; obtain ⟨Ab, cb, e1⟩ := Kd.R_slice hr1; subst e1; have HO0 := Aside0.mk (Kd.R_lower hr0 n0_.out); have HO1 := Aside0.mk (Kd.R_lower hr1 n0_.out); clear hr0 hr1 n0_; have z0 := blk_frozen BX.out 0; have z1 := blk_frozen BX.out 1; have x0 : wn.cell? ⟨g4, 0, none⟩ = some (.slice none 0 0) := (blk_cell BX.out 0).trans rfl; have x1 : wn.cell? ⟨g4, 1, none⟩ = some (.slice none 0 0) := (blk_cell BX.out 1).trans rfl))
  refine bodyPost_ret (results_ct rfl _ _ g4 36 #[.slice Aa r1.length ca, .slice Ab r2.length cb] (0, 0) _ rfl (blk_put (cs := #[.slice Aa r1.length ca, .slice none 0 0]) (blk_put (cs := #[.slice none 0 0, .slice none 0 0]) BX.out 0 _ rfl) 1 _ rfl) Try.underlying36 rfl (by kernel_rfl)) rfl ?_
  exact ⟨_, _, rfl, Kd.R_mono (Kd.R_far (p := ⟨g4, 1, none⟩) (Kd.R_far (p := ⟨g4, 0, none⟩) (Kd.R_types HO0.out BX.out (by decide)) (fun _ hk => hk.2) (.slice Aa r1.length ca)) (fun _ hk => hk.2) (.slice Ab r2.length cb)) (fun _ hk => trivial), Kd.R_mono (Kd.R_far (p := ⟨g4, 1, none⟩) (Kd.R_far (p := ⟨g4, 0, none⟩) (Kd.R_types HO1.out BX.out (by decide)) (fun _ hk => hk.2) (.slice Aa r1.length ca)) (fun _ hk => hk.2) (.slice Ab r2.length cb)) (fun _ hk => trivial), below_set (below_set HB.out G4.out) G4.out⟩
def spec_MoveFlow.f (k : Nat) (l0 : List Int) (l1 : List S55) (m : List Int) : Option (List Int × List S55 × Bool) :=
  (spec_l08Can.f k l0 l1 m).bind fun b => if b = true then (spec_l08Moved.f k l0 l1 m).bind fun r => some (r.1, r.2, true) else some ([], [], false)
theorem spec_MoveFlow.mono : ∀ a0 a1 a2 k, LeO (spec_MoveFlow.f k a0 a1 a2) (spec_MoveFlow.f (k + 1) a0 a1 a2) := by
  intro a0 a1 a2 k
  unfold spec_MoveFlow.f
  refine LeO.bind (spec_l08Can.mono a0 a1 a2 k) (fun b => ?_)
  split
  · exact LeO.bind (spec_l08Moved.mono a0 a1 a2 k) (fun _ => LeO.refl _)
  · exact LeO.refl _
theorem spec_MoveFlow.calls (k : Nat) (A0_0 : Option Addr) (c0_0 : Nat) (l0_0 : List Int) (A0_1 : Option Addr) (c0_1 : Nat) (l0_1 : List (S55)) (A1 : Option Addr) (c1 : Nat) (l1 : List Int) (r1 : List Int) (r2 : List (S55)) (r3 : Bool) (w : World) (hr0_0 : Kd.C (Kd.int .i64) w A0_0 l0_0.length l0_0) (hc0_0 : l0_0.length ≤ c0_0) (hr0_1 : Kd.C k55 w A0_1 l0_1.length l0_1) (hc0_1 : l0_1.length ≤ c0_1) (hr1 : Kd.C (Kd.int .i64) w A1 l1.length l1) (hc1 : l1.length ≤ c1) (h : spec_MoveFlow.f k l0_0 l0_1 l1 = some (r1, r2, r3)) :
    Calls Try.prog 33 #[.agg #[.slice A0_0 l0_0.length c0_0, .slice A0_1 l0_1.length c0_1], .slice A1 l1.length c1] w fun e w' => ∃ v0_ v1_ : Value, e = .returned (.tuple #[.agg #[v0_, v1_], .bool r3]) ∧ Kd.R (Kd.int .i64) 2 w' w.heap.size (fun _ => True) v0_ r1 ∧ Kd.R k55 55 w' w.heap.size (fun _ => True) v1_ r2 ∧ Below w.heap.size w w' := by
  unfold spec_MoveFlow.f at h
  obtain ⟨b, hb, h⟩ := Option.bind_eq_some_iff.mp h
  cases b with
  | false =>
    rw [if_neg (by simp)] at h
    simp only [Option.some.injEq, Prod.mk.injEq] at h
    obtain ⟨rfl, rfl, rfl⟩ := h
    exact sMoveFlow_no k A0_0 c0_0 l0_0 A0_1 c0_1 l0_1 A1 c1 l1 w hr0_0 hr0_1 hr1 hc1 hb
  | true =>
    rw [if_pos rfl] at h
    obtain ⟨⟨x1, x2⟩, hx, h⟩ := Option.bind_eq_some_iff.mp h
    simp only [Option.some.injEq, Prod.mk.injEq] at h
    obtain ⟨rfl, rfl, rfl⟩ := h
    exact sMoveFlow_yes k A0_0 c0_0 l0_0 A0_1 c0_1 l0_1 A1 c1 l1 x1 x2 w hr0_0 hr0_1 hr1 hc1 hb hx
end Go.Proofs.Ytojpibpjieanhaa.X
end
section
/- Moves of registers: both ways tell the same. Conditions: as each lemma says. -/
namespace Go.Proofs.Ytojpibpjieanhaa.X
open Go.RowKit Go.Proofs.YtojpibpjieanhaaW.PrintWords Go.Proofs.YtojpibpjieanhaaW.PrintLast Go.Proofs.YtojpibpjieanhaaW.PrintMore Go.Proofs.Ytojpibpjieanhaa.FlowMath
set_option linter.unusedVariables false
set_option linter.unusedSimpArgs false
def mvW (m : List Int) (w : S55) : S55 := ⟨w.f0, w.f1, wrap64 ((wrap64 (w.f2 + rd m w.f1)) - rd m w.f0)⟩
theorem imoved_loop (m : List Int) (ws : List S55) (d0 : List Int) (hm : ws.length ≤ 16) (hw : ∀ w, w ∈ ws → WireOk m.length w) : ∀ (e i k : Nat) (out : List S55), i + e = ws.length → out.length ≤ i → e < k →
    impl_Flow_moved.l0 k m ws (ws.length : Int) i d0 out = some (d0, out ++ (ws.drop i).map (mvW m))
  | 0, i, k, out, hi, ho, hk => by
    cases k with
    | zero => omega
    | succ k => rw [impl_Flow_moved.l0, if_neg (by omega), List.drop_of_length_le (by omega)]; simp
  | e + 1, i, k, out, hi, ho, hk => by
    cases k with
    | zero => omega
    | succ k =>
      have hlt : i < ws.length := by omega
      obtain ⟨o1, o2, o3, o4, o5, o6⟩ := hw _ (List.getElem_mem hlt)
      have ih := imoved_loop m ws d0 hm hw e (i + 1) k (out ++ [mvW m ws[i]]) (by omega) (by simp; omega) (by omega)
      rw [Int.natCast_add, Int.natCast_one] at ih
      rw [impl_Flow_moved.l0, if_pos (by omega), if_pos (by omega), if_pos (by omega), rdT_at ws i hlt, w64 (n := (i : Int) + 1) (by omega) (by omega), if_pos (by omega), if_pos (by omega), if_pos (by omega), if_pos (by omega), if_pos (by omega), List.drop_eq_getElem_cons hlt, List.map_cons]
      have e1 : (⟨ws[i].f0, ws[i].f1, wrap64 ((wrap64 (ws[i].f2 + rd m ws[i].f1)) - rd m ws[i].f0)⟩ : S55) = mvW m ws[i] := rfl
      rw [e1, ih]; simp
theorem smoved_loop (m : List Int) (ws : List S55) (l0 d0 : List Int) (hm : ws.length ≤ 16) (hw : ∀ w, w ∈ ws → WireOk m.length w) : ∀ (e i k : Nat) (out : List S55), i + e = ws.length → out.length ≤ i → e < k →
    spec_l08Moved.l0 k m i l0 ws d0 out = some (d0, out ++ (ws.drop i).map (mvW m))
  | 0, i, k, out, hi, ho, hk => by
    cases k with
    | zero => omega
    | succ k => rw [spec_l08Moved.l0, if_neg (by omega), List.drop_of_length_le (by omega)]; simp
  | e + 1, i, k, out, hi, ho, hk => by
    cases k with
    | zero => omega
    | succ k =>
      have hlt : i < ws.length := by omega
      obtain ⟨o1, o2, o3, o4, o5, o6⟩ := hw _ (List.getElem_mem hlt)
      have ih := smoved_loop m ws l0 d0 hm hw e (i + 1) k (out ++ [mvW m ws[i]]) (by omega) (by simp; omega) (by omega)
      rw [Int.natCast_add, Int.natCast_one] at ih
      rw [spec_l08Moved.l0, if_pos (by omega), if_pos (by omega), rdT_at ws i hlt, w64 (n := (i : Int) + 1) (by omega) (by omega), if_pos (by omega), if_pos (by omega), if_pos (by omega), if_pos (by omega), if_pos (by omega), List.drop_eq_getElem_cons hlt, List.map_cons]
      have e1 : (⟨ws[i].f0, ws[i].f1, wrap64 ((wrap64 (ws[i].f2 + rd m ws[i].f1)) - rd m ws[i].f0)⟩ : S55) = mvW m ws[i] := rfl
      rw [e1, ih]; simp
theorem imoved_eq (k : Nat) (l0 : List Int) (ws : List S55) (m : List Int) (h0 : l0.length ≤ 8) (hm : ws.length ≤ 16) (hw : ∀ w, w ∈ ws → WireOk m.length w) (hk : 100 < k) : impl_Flow_moved.f k l0 ws m = some (l0, ws.map (mvW m)) := by
  unfold impl_Flow_moved.f slices_Clone_int64_int64.f
  have := imoved_loop m ws l0 hm hw ws.length 0 k [] (by omega) (by simp) (by omega)
  rw [show ((0 : Nat) : Int) = 0 from rfl] at this
  rw [if_pos (by omega), Option.bind_some, this]; simp
theorem smoved_eq (k : Nat) (l0 : List Int) (ws : List S55) (m : List Int) (h0 : l0.length ≤ 8) (hm : ws.length ≤ 16) (hw : ∀ w, w ∈ ws → WireOk m.length w) (hk : 100 < k) : spec_l08Moved.f k l0 ws m = some (l0, ws.map (mvW m)) := by
  unfold spec_l08Moved.f spec_l00Own.f
  have := smoved_loop m ws l0 l0 hm hw ws.length 0 k [] (by omega) (by simp) (by omega)
  rw [show ((0 : Nat) : Int) = 0 from rfl] at this
  rw [Option.bind_some, if_pos (by simp; omega), Option.bind_some, List.nil_append, this]; simp
noncomputable def canB (l0 : List Int) (ws : List S55) (m : List Int) : Bool := validB l0 ws && (decide (m.length = l0.length) && (m.all mv && formB l0 (ws.map (mvW m))))
theorem valid_ok {l0 : List Int} {ws : List S55} (h : validB l0 ws = true) : (1 ≤ l0.length ∧ l0.length ≤ 8) ∧ ws.length ≤ 16 ∧ (∀ d, d ∈ l0 → 0 ≤ d ∧ d ≤ 100) ∧ ∀ w, w ∈ ws → WireOk l0.length w := by
  unfold validB at h
  rw [Bool.and_eq_true] at h
  exact form_ok h.1
theorem spec_can (k : Nat) (l0 : List Int) (ws : List S55) (m : List Int) (h0 : l0.length ≤ 2000000) (h1 : ws.length ≤ 2000000) (hm : m.length ≤ 2000000) (hk : 4000000 < k) : spec_l08Can.f k l0 ws m = some (canB l0 ws m) := by
  unfold spec_l08Can.f canB
  rw [spec_is k l0 ws (by omega) (by omega) (by omega), Option.bind_some]
  cases hv : validB l0 ws with
  | false => rfl
  | true =>
    obtain ⟨hn, hl, -, hw⟩ := valid_ok hv
    rw [if_pos rfl, Bool.true_and]
    by_cases hq : m.length = l0.length
    · rw [← hq, moves_eq k m (by omega) (by omega), Option.bind_some, decide_eq_true rfl, Bool.true_and]
      cases hmv : m.all mv with
      | false => rfl
      | true =>
        rw [if_pos rfl, Bool.true_and, smoved_eq k l0 ws m (by omega) hl (by rw [hq]; exact hw) (by omega), Option.bind_some]
        exact sform_eq k l0 _ (by omega) (by simp; omega) (by omega)
    · have : spec_l08Moves.f k (l0.length : Int) m = some false := by unfold spec_l08Moves.f; rw [if_neg (by omega)]
      rw [this, decide_eq_false hq]; rfl
theorem impl_can (k : Nat) (l0 : List Int) (ws : List S55) (m : List Int) (hm : m.length ≤ 2000000) (hk : 4000000 < k) : impl_IsMove.f k l0 ws m = some (canB l0 ws m) := by
  unfold impl_IsMove.f canB
  rw [impl_valid k l0 ws (by omega), Option.bind_some]
  cases hv : validB l0 ws with
  | false => rfl
  | true =>
    obtain ⟨hn, hl, -, hw⟩ := valid_ok hv
    rw [if_pos rfl, Bool.true_and]
    by_cases hq : m.length = l0.length
    · rw [if_pos (by omega), are_eq k m (by omega) (by omega), Option.bind_some, decide_eq_true hq, Bool.true_and]
      cases hmv : m.all mv with
      | false => rfl
      | true =>
        rw [if_pos rfl, Bool.true_and, imoved_eq k l0 ws m (by omega) hl (by rw [hq]; exact hw) (by omega), Option.bind_some, iform_eq k l0 _ (by omega), Option.bind_some]
    · rw [if_neg (by omega), decide_eq_false hq]; rfl
end Go.Proofs.Ytojpibpjieanhaa.X
end
section
-- Written by a program of this session out of the kit's print of the loaded functions: a plain function of a Go function, and its contract.
namespace Go.Proofs.Ytojpibpjieanhaa.X
open Go.RowKit Go.Proofs.YtojpibpjieanhaaW.PrintWords Go.Proofs.YtojpibpjieanhaaW.PrintLast Go.Proofs.YtojpibpjieanhaaW.PrintMore
attribute [local go_sem] max2_int min2_int max_two min_two max_three min_three max_four min_four   -- for this text's walks alone
set_option linter.unusedVariables false
set_option linter.unusedSimpArgs false
/-! ### laws_markWireS: function 64 -/
def laws_markWireS.l0 : Nat → List (S55) → Int → Int → Option (Int × (List (S55)))
  | 0, _, _, _ => none
  | k + 1, x0, x1, x5 => if x5 < (x0.length : Int) then (if 0 ≤ x5 then ((some (x0.set (x5 : Int).toNat (⟨x1, (rd_T55 x0 x5).f1, (rd_T55 x0 x5).f2⟩ : S55) : List (S55))).bind fun y516 => ((some (y516.set (x5 : Int).toNat (⟨(rd_T55 y516 x5).f0, wrap64 (x1 + 1), (rd_T55 y516 x5).f2⟩ : S55) : List (S55))).bind fun y517 => (laws_markWireS.l0 k (y517.set (x5 : Int).toNat (⟨(rd_T55 y517 x5).f0, (rd_T55 y517 x5).f1, wrap64 ((wrap64 (x1 + 1)) + 1)⟩ : S55)) (wrap64 ((wrap64 ((wrap64 (x1 + 1)) + 1)) + 1)) (wrap64 (x5 + 1))))) else (none)) else (some (x1, x0))
def laws_markWireS.f (k : Nat) (l0 : List (S55)) (a1 : Int) : Option (Int × (List (S55))) := laws_markWireS.l0 k l0 a1 0
theorem laws_markWireS.mono_l : ∀ k, (∀ y0 y1 y2, LeO (laws_markWireS.l0 k y0 y1 y2) (laws_markWireS.l0 (k + 1) y0 y1 y2))
  | 0 => fun _ _ _ r h => by simp [laws_markWireS.l0] at h
  | k + 1 => by
    have ih0 := laws_markWireS.mono_l k
    · intro y0 y1 y2
      unfold laws_markWireS.l0
      repeat' first
      | (with_reducible exact ih0 _ _ _)
      | (with_reducible exact LeO.refl _)
      | (with_reducible exact LeO.none _)
      | (with_reducible refine LeO.ite ?_ ?_)
      | (with_reducible refine LeO.bind ?_ (fun _ => ?_))
      | exact ih0 _ _ _
      | exact LeO.none _
      | refine LeO.ite ?_ ?_
      | refine LeO.bind ?_ (fun _ => ?_)
theorem laws_markWireS.mono : ∀ a0 a1 k, LeO (laws_markWireS.f k a0 a1) (laws_markWireS.f (k + 1) a0 a1) := by
  intro a0 a1 k
  have ih0 := laws_markWireS.mono_l k
  unfold laws_markWireS.f
  repeat' first
      | (with_reducible exact ih0 _ _ _)
      | (with_reducible exact LeO.refl _)
      | (with_reducible exact LeO.none _)
      | (with_reducible refine LeO.ite ?_ ?_)
      | (with_reducible refine LeO.bind ?_ (fun _ => ?_))
      | exact ih0 _ _ _
      | exact LeO.none _
      | refine LeO.ite ?_ ?_
      | refine LeO.bind ?_ (fun _ => ?_)
set_option maxHeartbeats 8000000 in
set_option maxRecDepth 100000 in
theorem laws_markWireS.calls (k : Nat) (P0_ : Nat → Prop) (u9000_ : Value) (l0 : List (S55)) (a1 : Int) (r1 : Int) (r2 : List (S55)) (w0 w : World) (hB : Below w0.heap.size w0 w) (ho0 : Kd.R k55 55 w w0.heap.size P0_ u9000_ l0) (h : laws_markWireS.f k l0 a1 = some (r1, r2)) :
    Calls Try.prog 64 #[u9000_, .int .i64 a1] w fun e w' => e = .returned (.int .i64 r1) ∧ Kd.R k55 55 w' w0.heap.size (fun k_ => (P0_ k_ ∨ w.heap.size ≤ k_)) u9000_ r2 ∧ Below w0.heap.size w0 w' ∧ Kept w w' (fun k_ => P0_ k_) := by
  have HO0 := Aside0.mk (show Kd.R k55 55 w w0.heap.size (fun k_ => (P0_ k_ ∨ w.heap.size ≤ k_)) u9000_ l0 from Kd.R_mono ho0 (fun k_ hk => (.inl hk)))
  have HK := Aside0.mk (Kept.refl w (fun k_ => P0_ k_))
  have HW0 := Aside0.mk hB.size
  have HB := Aside0.mk hB
  clear hB
  have H : (laws_markWireS.l0 k l0 a1 0) = some (r1, r2) := h
  clear h
  have H' := Aside0.mk H
  clear H
  go_enter Try.func64, Try.ntmps64
  go_wp2
  go_loopg [1, 5] k (fun kq v1 v5 w' => ∃ (x0_1 : List (S55)) (x1_1 : Int) (x5_1 : Int), v1 = .int .i64 x1_1 ∧ v5 = .int .i64 x5_1 ∧ Aside0 (laws_markWireS.l0 kq x0_1 x1_1 x5_1 = some (r1, r2)) ∧ Aside0 (kq ≤ k) ∧ Aside0 (Kd.R k55 55 w' w0.heap.size (fun k_ => (P0_ k_ ∨ w.heap.size ≤ k_)) u9000_ x0_1) ∧ Aside0 (Kept w w' (fun k_ => P0_ k_)) ∧ Aside0 (Below w0.heap.size w0 w'))
  case atStart => exact ⟨(l0), (a1), (0), (by first | rfl | (simp; done) | (simp [*]; done)), (by first | rfl | (simp; done) | (simp [*]; done)), H', ⟨Nat.le_refl _⟩, ⟨by (with_reducible repeat (first | apply Kd.R_alloc | apply Kd.R_drewN | apply Kd.R_drew)); exact HO0.out⟩, ⟨by repeat (first | (with_reducible first | exact HK.out | apply Kept.alloc | apply Kept.drewN | apply Kept.drew) | exact HK.out)⟩, ⟨by repeat (first | (with_reducible first | exact HB.out | apply below_alloc | apply pw_below_drewN | apply below_drew1) | exact HB.out)⟩⟩
  case round =>
    clear H'
    try clear p2
    obtain ⟨x0_1, x1_1, x5_1, rfl, rfl, HA, HK1, HO_0, HK, HB⟩ := hrel
    cases gk with
    | zero => exact absurd HA.out (by simp [laws_markWireS.l0])
    | succ k1 =>
      have H := HA.out
      clear HA
      simp only [laws_markWireS.l0] at H
      by_cases c3 : x5_1 < (x0_1.length : Int)
      · rw [if_pos c3] at H
        have c3b0 : decide (x5_1 < (x0_1.length : Int)) = true := decide_eq_true c3
        clear c3
        by_cases c4 : 0 ≤ x5_1
        · rw [if_pos c4] at H
          have c4b0 : decide (0 ≤ x5_1) = true := decide_eq_true c4
          clear c4
          obtain ⟨y516, hy516⟩ : ∃ y_ : List (S55), y_ = (x0_1.set (x5_1 : Int).toNat (⟨x1_1, (rd_T55 x0_1 x5_1).f1, (rd_T55 x0_1 x5_1).f2⟩ : S55)) := ⟨_, rfl⟩
          replace H : ((some (y516.set (x5_1 : Int).toNat (⟨(rd_T55 y516 x5_1).f0, wrap64 (x1_1 + 1), (rd_T55 y516 x5_1).f2⟩ : S55) : List (S55))).bind fun y517 => (laws_markWireS.l0 k1 (y517.set (x5_1 : Int).toNat (⟨(rd_T55 y517 x5_1).f0, (rd_T55 y517 x5_1).f1, wrap64 ((wrap64 (x1_1 + 1)) + 1)⟩ : S55)) (wrap64 ((wrap64 ((wrap64 (x1_1 + 1)) + 1)) + 1)) (wrap64 (x5_1 + 1)))) = some (r1, r2) := by first | (rw [hy516]; with_reducible exact H) | (have H2_ := (Option.bind_some _ _).symm.trans H; rw [hy516]; with_reducible exact H2_) | (have H2_ := (Option.bind_some _ _).symm.trans H; with_reducible exact H2_) | with_reducible exact H | (rw [hy516]; exact H) | exact H
          have Ny516 := Aside0.mk hy516
          clear hy516
          obtain ⟨y517, hy517⟩ : ∃ y_ : List (S55), y_ = (y516.set (x5_1 : Int).toNat (⟨(rd_T55 y516 x5_1).f0, wrap64 (x1_1 + 1), (rd_T55 y516 x5_1).f2⟩ : S55)) := ⟨_, rfl⟩
          replace H : (laws_markWireS.l0 k1 (y517.set (x5_1 : Int).toNat (⟨(rd_T55 y517 x5_1).f0, (rd_T55 y517 x5_1).f1, wrap64 ((wrap64 (x1_1 + 1)) + 1)⟩ : S55)) (wrap64 ((wrap64 ((wrap64 (x1_1 + 1)) + 1)) + 1)) (wrap64 (x5_1 + 1))) = some (r1, r2) := by first | (rw [hy517]; with_reducible exact H) | (have H2_ := (Option.bind_some _ _).symm.trans H; rw [hy517]; with_reducible exact H2_) | (have H2_ := (Option.bind_some _ _).symm.trans H; with_reducible exact H2_) | with_reducible exact H | (rw [hy517]; exact H) | exact H
          have Ny517 := Aside0.mk hy517
          clear hy517
          obtain ⟨y518, hy518⟩ : ∃ y_ : List (S55), y_ = (y517.set (x5_1 : Int).toNat (⟨(rd_T55 y517 x5_1).f0, (rd_T55 y517 x5_1).f1, wrap64 ((wrap64 (x1_1 + 1)) + 1)⟩ : S55)) := ⟨_, rfl⟩
          replace H : (laws_markWireS.l0 k1 y518 (wrap64 ((wrap64 ((wrap64 (x1_1 + 1)) + 1)) + 1)) (wrap64 (x5_1 + 1))) = some (r1, r2) := by first | (rw [hy518]; with_reducible exact H) | (have H2_ := (Option.bind_some _ _).symm.trans H; rw [hy518]; with_reducible exact H2_) | (have H2_ := (Option.bind_some _ _).symm.trans H; with_reducible exact H2_) | with_reducible exact H | (rw [hy518]; exact H) | exact H
          have Ny518 := Aside0.mk hy518
          clear hy518
          have H' := Aside0.mk H
          clear H
          obtain ⟨Ao8, co8, eo8⟩ := Kd.R_slice HO_0.out
          subst eo8
          have p5 : 0 ≤ (x5_1 : Int) := of_decide_eq_true (by first | (with_reducible assumption) | assumption)
          have q5 : (x5_1 : Int) < ((x0_1.length : Int) : Int) := of_decide_eq_true (by first | (with_reducible assumption) | assumption)
          obtain ⟨go5, co5, eo5, gb5, gl5, cl5, HG5⟩ := Kd.R_form HO_0.out (by omega)
          (first | cases eo5 | (injection eo5 with ea_ en_ ec_; (first | subst ea_ | (injection ea_ with ea_; subst ea_)); subst ec_; clear en_))
          have GB5 := Aside0.mk gb5
          have GG5 := Aside0.mk HG5
          clear gb5 gl5 HG5
          have HMgo5 := Aside0.mk (show (P0_ go5 ∨ w.heap.size ≤ go5) from (HO_0.out.1 _ rfl))
          obtain ⟨ce5, hcl5, hM5, hcc5, hfr5⟩ := Kd.R_elem HO_0.out z55 (x5_1 : Int) p5 q5
          obtain rfl := k55_openM hM5
          have hx5_0 : wr.cell? ⟨go5, (x5_1 : Int).toNat * 3, none⟩ = some (.int .i64 ((rd_T55 x0_1 x5_1).f0)) := hcc5 0 _ rfl
          have hx5_1 : wr.cell? ⟨go5, (x5_1 : Int).toNat * 3 + 1, none⟩ = some (.int .i64 ((rd_T55 x0_1 x5_1).f1)) := hcc5 1 _ rfl
          have hx5_2 : wr.cell? ⟨go5, (x5_1 : Int).toNat * 3 + 2, none⟩ = some (.int .i64 ((rd_T55 x0_1 x5_1).f2)) := hcc5 2 _ rfl
          have hf5_0 : wr.frozen? ⟨go5, (x5_1 : Int).toNat * 3, none⟩ = false := hfr5 0
          have hf5_1 : wr.frozen? ⟨go5, (x5_1 : Int).toNat * 3 + 1, none⟩ = false := hfr5 1
          have hf5_2 : wr.frozen? ⟨go5, (x5_1 : Int).toNat * 3 + 2, none⟩ = false := hfr5 2
          clear hcl5 hcc5 hfr5 hM5
          replace p5 := eq_true p5
          replace q5 := eq_true q5
          have HX9 := Aside0.mk (show Kd.R k55 55 wr w0.heap.size (fun k_ => (P0_ k_ ∨ w.heap.size ≤ k_)) (.slice (some ⟨go5, 0, none⟩) x0_1.length co8) x0_1 from (by (with_reducible repeat (first | apply Kd.R_alloc | apply Kd.R_drewN | apply Kd.R_drew)); exact HO_0.out))
          obtain ⟨ce9, hcl9, hM9, hcc9, hfr9⟩ := Kd.R_elem HX9.out z55 (x5_1 : Int) (of_decide_eq_true (by first | (with_reducible assumption) | assumption)) (by have h_ : (x5_1 : Int) < ((x0_1.length : Int) : Int) := of_decide_eq_true (by first | (with_reducible assumption) | assumption); first | exact h_ | (have e_ := (Kd.R_reads' HO_0.out).1; omega) | simpa using h_)
          obtain rfl := k55_openM hM9
          have HP9 := Kd.R_seg HX9.out (x5_1 : Int) (of_decide_eq_true (by first | (with_reducible assumption) | assumption)) (by have h_ : (x5_1 : Int) < ((x0_1.length : Int) : Int) := of_decide_eq_true (by first | (with_reducible assumption) | assumption); first | exact h_ | (have e_ := (Kd.R_reads' HO_0.out).1; omega) | simpa using h_) (seg := [.int .i64 x1_1]) (j := 0) hcl9 hcc9 (show 1 ≤ 3 from by decide) (x' := (⟨x1_1, (rd_T55 x0_1 x5_1).f1, (rd_T55 x0_1 x5_1).f2⟩ : S55)) (k55_mkM _ _ _ (⟨x1_1, (rd_T55 x0_1 x5_1).f1, (rd_T55 x0_1 x5_1).f2⟩ : S55) ) (fun _ hk => hk)
          have hx9_0 := hcc9 0 _ rfl
          (try simp only [show (k55).sz = 3 from rfl, Nat.mul_one, Nat.add_zero] at hx9_0)
          have hf9_0 := hfr9 0
          (try simp only [show (k55).sz = 3 from rfl, Nat.mul_one, Nat.add_zero] at hf9_0)
          clear hcl9 hcc9 hfr9 hM9
          go_wp2_with (first | ((with_reducible refine gate_store (t := 2) (p := 16) rfl ?_); refine store_event (t := 2) (p := 16) (v := ?vo_w10) (w1 := (wr.setCell ⟨go5, (x5_1 : Int).toNat * 3, none⟩ (.int .i64 x1_1))) ?hg ?ho ?hn ?hr ?_; (case ho => rfl); (case hg => rfl); (case hn => rfl); (case hr => first | (go_simp; done) | (go_simp; rfl)); intro w10 hw; have hg : wr.grownBy w10 (some go5) := (by rw [hw]; exact HP9.2); have hp_ : Kd.R k55 55 w10 w0.heap.size (fun k_ => (P0_ k_ ∨ w.heap.size ≤ k_)) (.slice (some ⟨go5, 0, none⟩) x0_1.length co8) y516 := (by rw [hw, Ny516.out]; exact HP9.1); clear HP9; have n0_ := Aside0.mk (hp_); have n1_ := Aside0.mk ((by rw [hw]; exact below_set (HB.out) GB5.out : Below w0.heap.size w0 w10)); have n2_ := Aside0.mk (Kept.of_grown (S := (fun k_ => P0_ k_)) hg (by repeat (first | (with_reducible first | exact HK.out | apply Kept.alloc | apply Kept.drewN | apply Kept.drew) | exact HK.out)) (fun k_ e_ => (HO_0.out.1 k_ e_))); clear HO_0; clear HB; clear HK; have HO_0 := n0_; have HB := n1_; have HK := n2_; clear n0_ n1_ n2_; clear hg hw hp_; have p6 : 0 ≤ (x5_1 : Int) := of_decide_eq_true (by first | (with_reducible assumption) | assumption); have q6 : (x5_1 : Int) < ((x0_1.length : Int) : Int) := of_decide_eq_true (by first | (with_reducible assumption) | assumption); obtain ⟨ce6, hcl6, hM6, hcc6, hfr6⟩ := Kd.R_elem HO_0.out z55 (x5_1 : Int) p6 q6; obtain rfl := k55_openM hM6; have hx6_0 : w10.cell? ⟨go5, (x5_1 : Int).toNat * 3, none⟩ = some (.int .i64 ((rd_T55 y516 x5_1).f0)) := hcc6 0 _ rfl; have hx6_1 : w10.cell? ⟨go5, (x5_1 : Int).toNat * 3 + 1, none⟩ = some (.int .i64 ((rd_T55 y516 x5_1).f1)) := hcc6 1 _ rfl; have hx6_2 : w10.cell? ⟨go5, (x5_1 : Int).toNat * 3 + 2, none⟩ = some (.int .i64 ((rd_T55 y516 x5_1).f2)) := hcc6 2 _ rfl; have hf6_0 : w10.frozen? ⟨go5, (x5_1 : Int).toNat * 3, none⟩ = false := hfr6 0; have hf6_1 : w10.frozen? ⟨go5, (x5_1 : Int).toNat * 3 + 1, none⟩ = false := hfr6 1; have hf6_2 : w10.frozen? ⟨go5, (x5_1 : Int).toNat * 3 + 2, none⟩ = false := hfr6 2; clear hcl6 hcc6 hfr6 hM6; replace p6 := eq_true p6; replace q6 := eq_true q6; have HX11 := Aside0.mk (show Kd.R k55 55 w10 w0.heap.size (fun k_ => (P0_ k_ ∨ w.heap.size ≤ k_)) (.slice (some ⟨go5, 0, none⟩) x0_1.length co8) y516 from (by (with_reducible repeat (first | apply Kd.R_alloc | apply Kd.R_drewN | apply Kd.R_drew)); exact HO_0.out)); obtain ⟨ce11, hcl11, hM11, hcc11, hfr11⟩ := Kd.R_elem HX11.out z55 (x5_1 : Int) (of_decide_eq_true (by first | (with_reducible assumption) | assumption)) (by have h_ : (x5_1 : Int) < ((x0_1.length : Int) : Int) := of_decide_eq_true (by first | (with_reducible assumption) | assumption); first | exact h_ | (have e_ := (Kd.R_reads' HO_0.out).1; omega) | simpa using h_); obtain rfl := k55_openM hM11; have HP11 := Kd.R_seg HX11.out (x5_1 : Int) (of_decide_eq_true (by first | (with_reducible assumption) | assumption)) (by have h_ : (x5_1 : Int) < ((x0_1.length : Int) : Int) := of_decide_eq_true (by first | (with_reducible assumption) | assumption); first | exact h_ | (have e_ := (Kd.R_reads' HO_0.out).1; omega) | simpa using h_) (seg := [.int .i64 (wrap64 (x1_1 + 1))]) (j := 1) hcl11 hcc11 (show 2 ≤ 3 from by decide) (x' := (⟨(rd_T55 y516 x5_1).f0, wrap64 (x1_1 + 1), (rd_T55 y516 x5_1).f2⟩ : S55)) (k55_mkM _ _ _ (⟨(rd_T55 y516 x5_1).f0, wrap64 (x1_1 + 1), (rd_T55 y516 x5_1).f2⟩ : S55) ) (fun _ hk => hk); have hx11_1 := hcc11 1 _ rfl; (try simp only [show (k55).sz = 3 from rfl, Nat.mul_one, Nat.add_zero] at hx11_1); have hf11_1 := hfr11 1; (try simp only [show (k55).sz = 3 from rfl, Nat.mul_one, Nat.add_zero] at hf11_1); clear hcl11 hcc11 hfr11 hM11) | ((with_reducible refine gate_store (t := 2) (p := 23) rfl ?_); refine store_event (t := 2) (p := 23) (v := ?vo_w12) (w1 := (w10.setCell ⟨go5, (x5_1 : Int).toNat * 3 + 1, none⟩ (.int .i64 (wrap64 (x1_1 + 1))))) ?hg ?ho ?hn ?hr ?_; (case ho => rfl); (case hg => rfl); (case hn => rfl); (case hr => first | (go_simp; done) | (go_simp; rfl)); intro w12 hw; have hg : w10.grownBy w12 (some go5) := (by rw [hw]; exact HP11.2); have hp_ : Kd.R k55 55 w12 w0.heap.size (fun k_ => (P0_ k_ ∨ w.heap.size ≤ k_)) (.slice (some ⟨go5, 0, none⟩) x0_1.length co8) y517 := (by rw [hw, Ny517.out]; exact HP11.1); clear HP11; have n0_ := Aside0.mk (hp_); have n1_ := Aside0.mk ((by rw [hw]; exact below_set (HB.out) GB5.out : Below w0.heap.size w0 w12)); have n2_ := Aside0.mk (Kept.of_grown (S := (fun k_ => P0_ k_)) hg (by repeat (first | (with_reducible first | exact HK.out | apply Kept.alloc | apply Kept.drewN | apply Kept.drew) | exact HK.out)) (fun k_ e_ => (HO_0.out.1 k_ e_))); clear HO_0; clear HB; clear HK; have HO_0 := n0_; have HB := n1_; have HK := n2_; clear n0_ n1_ n2_; clear hg hw hp_; have p7 : 0 ≤ (x5_1 : Int) := of_decide_eq_true (by first | (with_reducible assumption) | assumption); have q7 : (x5_1 : Int) < ((x0_1.length : Int) : Int) := of_decide_eq_true (by first | (with_reducible assumption) | assumption); obtain ⟨ce7, hcl7, hM7, hcc7, hfr7⟩ := Kd.R_elem HO_0.out z55 (x5_1 : Int) p7 q7; obtain rfl := k55_openM hM7; have hx7_0 : w12.cell? ⟨go5, (x5_1 : Int).toNat * 3, none⟩ = some (.int .i64 ((rd_T55 y517 x5_1).f0)) := hcc7 0 _ rfl; have hx7_1 : w12.cell? ⟨go5, (x5_1 : Int).toNat * 3 + 1, none⟩ = some (.int .i64 ((rd_T55 y517 x5_1).f1)) := hcc7 1 _ rfl; have hx7_2 : w12.cell? ⟨go5, (x5_1 : Int).toNat * 3 + 2, none⟩ = some (.int .i64 ((rd_T55 y517 x5_1).f2)) := hcc7 2 _ rfl; have hf7_0 : w12.frozen? ⟨go5, (x5_1 : Int).toNat * 3, none⟩ = false := hfr7 0; have hf7_1 : w12.frozen? ⟨go5, (x5_1 : Int).toNat * 3 + 1, none⟩ = false := hfr7 1; have hf7_2 : w12.frozen? ⟨go5, (x5_1 : Int).toNat * 3 + 2, none⟩ = false := hfr7 2; clear hcl7 hcc7 hfr7 hM7; replace p7 := eq_true p7; replace q7 := eq_true q7; have HX13 := Aside0.mk (show Kd.R k55 55 w12 w0.heap.size (fun k_ => (P0_ k_ ∨ w.heap.size ≤ k_)) (.slice (some ⟨go5, 0, none⟩) x0_1.length co8) y517 from (by (with_reducible repeat (first | apply Kd.R_alloc | apply Kd.R_drewN | apply Kd.R_drew)); exact HO_0.out)); obtain ⟨ce13, hcl13, hM13, hcc13, hfr13⟩ := Kd.R_elem HX13.out z55 (x5_1 : Int) (of_decide_eq_true (by first | (with_reducible assumption) | assumption)) (by have h_ : (x5_1 : Int) < ((x0_1.length : Int) : Int) := of_decide_eq_true (by first | (with_reducible assumption) | assumption); first | exact h_ | (have e_ := (Kd.R_reads' HO_0.out).1; omega) | simpa using h_); obtain rfl := k55_openM hM13; have HP13 := Kd.R_seg HX13.out (x5_1 : Int) (of_decide_eq_true (by first | (with_reducible assumption) | assumption)) (by have h_ : (x5_1 : Int) < ((x0_1.length : Int) : Int) := of_decide_eq_true (by first | (with_reducible assumption) | assumption); first | exact h_ | (have e_ := (Kd.R_reads' HO_0.out).1; omega) | simpa using h_) (seg := [.int .i64 (wrap64 ((wrap64 (x1_1 + 1)) + 1))]) (j := 2) hcl13 hcc13 (show 3 ≤ 3 from by decide) (x' := (⟨(rd_T55 y517 x5_1).f0, (rd_T55 y517 x5_1).f1, wrap64 ((wrap64 (x1_1 + 1)) + 1)⟩ : S55)) (k55_mkM _ _ _ (⟨(rd_T55 y517 x5_1).f0, (rd_T55 y517 x5_1).f1, wrap64 ((wrap64 (x1_1 + 1)) + 1)⟩ : S55) ) (fun _ hk => hk); have hx13_2 := hcc13 2 _ rfl; (try simp only [show (k55).sz = 3 from rfl, Nat.mul_one, Nat.add_zero] at hx13_2); have hf13_2 := hfr13 2; (try simp only [show (k55).sz = 3 from rfl, Nat.mul_one, Nat.add_zero] at hf13_2); clear hcl13 hcc13 hfr13 hM13) | ((with_reducible refine gate_store (t := 2) (p := 30) rfl ?_); refine store_event (t := 2) (p := 30) (v := ?vo_w14) (w1 := (w12.setCell ⟨go5, (x5_1 : Int).toNat * 3 + 2, none⟩ (.int .i64 (wrap64 ((wrap64 (x1_1 + 1)) + 1))))) ?hg ?ho ?hn ?hr ?_; (case ho => rfl); (case hg => rfl); (case hn => rfl); (case hr => first | (go_simp; done) | (go_simp; rfl)); intro w14 hw; have hg : w12.grownBy w14 (some go5) := (by rw [hw]; exact HP13.2); have hp_ : Kd.R k55 55 w14 w0.heap.size (fun k_ => (P0_ k_ ∨ w.heap.size ≤ k_)) (.slice (some ⟨go5, 0, none⟩) x0_1.length co8) y518 := (by rw [hw, Ny518.out]; exact HP13.1); clear HP13; have n0_ := Aside0.mk (hp_); have n1_ := Aside0.mk ((by rw [hw]; exact below_set (HB.out) GB5.out : Below w0.heap.size w0 w14)); have n2_ := Aside0.mk (Kept.of_grown (S := (fun k_ => P0_ k_)) hg (by repeat (first | (with_reducible first | exact HK.out | apply Kept.alloc | apply Kept.drewN | apply Kept.drew) | exact HK.out)) (fun k_ e_ => (HO_0.out.1 k_ e_))); clear HO_0; clear HB; clear HK; have HO_0 := n0_; have HB := n1_; have HK := n2_; clear n0_ n1_ n2_; clear hg hw hp_))
          go_roundg k1
          case measure => have := HK1.out; omega
          case rel => exact ⟨(y518), (wrap64 ((wrap64 ((wrap64 (x1_1 + 1)) + 1)) + 1)), (wrap64 (x5_1 + 1)), (by first | rfl | (simp; done) | (simp [*]; done)), (by first | rfl | (simp; done) | (simp [*]; done)), H', ⟨by have := HK1.out; omega⟩, ⟨by (with_reducible repeat (first | apply Kd.R_alloc | apply Kd.R_drewN | apply Kd.R_drew)); exact HO_0.out⟩, ⟨by repeat (first | (with_reducible first | exact HK.out | apply Kept.alloc | apply Kept.drewN | apply Kept.drew) | exact HK.out)⟩, ⟨by repeat (first | (with_reducible first | exact HB.out | apply below_alloc | apply pw_below_drewN | apply below_drew1) | exact HB.out)⟩⟩
        · rw [if_neg c4] at H
          exact absurd H (by simp)
      · rw [if_neg c3] at H
        have c3b0 : decide (x5_1 < (x0_1.length : Int)) = false := decide_eq_false c3
        clear c3
        simp only [Option.some.injEq, Prod.mk.injEq] at H
        obtain ⟨rfl, rfl⟩ := H
        obtain ⟨Ao15, co15, eo15⟩ := Kd.R_slice HO_0.out
        subst eo15
        go_wp2
        go_ret
        exact ⟨by first | rfl | (simp [errW_none, errW_some] <;> rfl) | (simp [*, errW_none, errW_some] <;> rfl), by (with_reducible repeat (first | apply Kd.R_alloc | apply Kd.R_drewN | apply Kd.R_drew)); exact HO_0.out, by repeat (first | (with_reducible first | exact HB.out | apply below_alloc | apply pw_below_drewN | apply below_drew1) | exact HB.out), by repeat (first | (with_reducible first | exact HK.out | apply Kept.alloc | apply Kept.drewN | apply Kept.drew) | exact HK.out)⟩
end Go.Proofs.Ytojpibpjieanhaa.X
end
section
-- Written by a program of this session out of the kit's print of the loaded functions: a plain function of a Go function, and its contract.
namespace Go.Proofs.Ytojpibpjieanhaa.X
open Go.RowKit Go.Proofs.YtojpibpjieanhaaW.PrintWords Go.Proofs.YtojpibpjieanhaaW.PrintLast Go.Proofs.YtojpibpjieanhaaW.PrintMore
attribute [local go_sem] max2_int min2_int max_two min_two max_three min_three max_four min_four   -- for this text's walks alone
set_option linter.unusedVariables false
set_option linter.unusedSimpArgs false
/-! ### laws_markFlow: function 35 -/
def laws_markFlow.f (k : Nat) (l0_0 : List Int) (l0_1 : List (S55)) (a1 : Int) : Option (Int × List Int × (List (S55))) := (laws_markInt64S.f k l0_0 a1).bind fun bt520 => ((laws_markWireS.f k l0_1 bt520.1).bind fun bt522 => (some (bt522.1, bt520.2, bt522.2)))
theorem laws_markFlow.mono : ∀ a0 a1 a2 k, LeO (laws_markFlow.f k a0 a1 a2) (laws_markFlow.f (k + 1) a0 a1 a2) := by
  intro a0 a1 a2 k
  unfold laws_markFlow.f
  repeat' first
      | (with_reducible exact laws_markInt64S.mono _ _ _)
      | (with_reducible exact laws_markWireS.mono _ _ _)
      | (with_reducible exact LeO.refl _)
      | (with_reducible exact LeO.none _)
      | (with_reducible refine LeO.ite ?_ ?_)
      | (with_reducible refine LeO.bind ?_ (fun _ => ?_))
      | exact laws_markInt64S.mono _ _ _
      | exact laws_markWireS.mono _ _ _
      | exact LeO.none _
      | refine LeO.ite ?_ ?_
      | refine LeO.bind ?_ (fun _ => ?_)
set_option maxHeartbeats 8000000 in
set_option maxRecDepth 100000 in
theorem laws_markFlow.calls (k : Nat) (P0_0_ : Nat → Prop) (u9000_ : Value) (l0_0 : List Int) (P0_1_ : Nat → Prop) (u9001_ : Value) (l0_1 : List (S55)) (a1 : Int) (r1 : Int) (r2 : List Int) (r3 : List (S55)) (w0 w : World) (hB : Below w0.heap.size w0 w) (ho0_0 : Kd.R (Kd.int .i64) 2 w w0.heap.size P0_0_ u9000_ l0_0) (ho0_1 : Kd.R k55 55 w w0.heap.size P0_1_ u9001_ l0_1) (h : laws_markFlow.f k l0_0 l0_1 a1 = some (r1, r2, r3)) :
    Calls Try.prog 35 #[.agg #[u9000_, u9001_], .int .i64 a1] w fun e w' => e = .returned (.int .i64 r1) ∧ Kd.R (Kd.int .i64) 2 w' w0.heap.size (fun k_ => ((P0_0_ k_ ∨ P0_1_ k_) ∨ w.heap.size ≤ k_)) u9000_ r2 ∧ Kd.R k55 55 w' w0.heap.size (fun k_ => ((P0_0_ k_ ∨ P0_1_ k_) ∨ w.heap.size ≤ k_)) u9001_ r3 ∧ Below w0.heap.size w0 w' ∧ Kept w w' (fun k_ => P0_0_ k_ ∨ P0_1_ k_) := by
  have hu36 := Try.underlying36
  have HO0_0 := Aside0.mk (show Kd.R (Kd.int .i64) 2 w w0.heap.size (fun k_ => ((P0_0_ k_ ∨ P0_1_ k_) ∨ w.heap.size ≤ k_)) u9000_ l0_0 from Kd.R_mono ho0_0 (fun k_ hk => (.inl (.inl hk))))
  have HO0_1 := Aside0.mk (show Kd.R k55 55 w w0.heap.size (fun k_ => ((P0_0_ k_ ∨ P0_1_ k_) ∨ w.heap.size ≤ k_)) u9001_ l0_1 from Kd.R_mono ho0_1 (fun k_ hk => (.inl (.inr hk))))
  have HK := Aside0.mk (Kept.refl w (fun k_ => P0_0_ k_ ∨ P0_1_ k_))
  have HW0 := Aside0.mk hB.size
  have HB := Aside0.mk hB
  clear hB
  have H : ((laws_markInt64S.f k l0_0 a1).bind fun bt520 => ((laws_markWireS.f k l0_1 bt520.1).bind fun bt522 => (some (bt522.1, bt520.2, bt522.2)))) = some (r1, r2, r3) := h
  clear h
  replace H := Option.bind_eq_some_iff.mp H
  obtain ⟨⟨t520, t521⟩, A30, H⟩ := H
  replace H : ((laws_markWireS.f k l0_1 t520).bind fun bt522 => (some (bt522.1, t521, bt522.2))) = some (r1, r2, r3) := H
  have A3 := Aside0.mk A30
  clear A30
  replace H := Option.bind_eq_some_iff.mp H
  obtain ⟨⟨t522, t523⟩, A40, H⟩ := H
  replace H : (some (t522, t521, t523)) = some (r1, r2, r3) := H
  have A4 := Aside0.mk A40
  clear A40
  simp only [Option.some.injEq, Prod.mk.injEq] at H
  obtain ⟨rfl, rfl, rfl⟩ := H
  obtain ⟨Ao5, co5, eo5⟩ := Kd.R_slice HO0_0.out
  subst eo5
  obtain ⟨Ao6, co6, eo6⟩ := Kd.R_slice HO0_1.out
  subst eo6
  go_enter Try.func35, Try.ntmps35
  go_wp2_with (first | ((with_reducible refine gate_dst (N := 2) rfl ?_); refine box_event ?hg (N := 2) ?hd (cs := #[.slice Ao5 l0_0.length co5, .slice Ao6 l0_1.length co6]) (t := 36) ?hr ?_; (case hd => rfl); (case hg => rfl); (case hr => first | (go_simp; done) | (go_simp; rfl)); intro gb519 hg w7 hbox hb; have n0_ := Aside0.mk (Kd.R_below (by (with_reducible repeat (first | apply Kd.R_alloc | apply Kd.R_drewN | apply Kd.R_drew)); exact HO0_0.out) hb); have n1_ := Aside0.mk (Kd.R_below (by (with_reducible repeat (first | apply Kd.R_alloc | apply Kd.R_drewN | apply Kd.R_drew)); exact HO0_1.out) hb); have n2_ := Aside0.mk (Kept.below (S := (fun k_ => P0_0_ k_ ∨ P0_1_ k_)) (by repeat (first | (with_reducible first | exact HK.out | apply Kept.alloc | apply Kept.drewN | apply Kept.drew) | exact HK.out)) hb); have n3_ := Aside0.mk (below_step (by repeat (first | (with_reducible first | exact HB.out | apply below_alloc | apply pw_below_drewN | apply below_drew1) | exact HB.out)) hb); have n4_ := Aside0.mk (hbox); have n5_ := Aside0.mk ((by rw [hg]; exact (by first | exact HK.out.1 | exact (show Kept w _ (fun k_ => P0_0_ k_ ∨ P0_1_ k_) from by repeat (first | (with_reducible first | exact HK.out | apply Kept.alloc | apply Kept.drewN | apply Kept.drew) | exact HK.out)).1) : w.heap.size ≤ gb519)); have n6_ := Aside0.mk ((by rw [hg]; exact (below_size (by repeat (first | (with_reducible first | exact HB.out | apply below_alloc | apply pw_below_drewN | apply below_drew1) | exact HB.out))) : w0.heap.size ≤ gb519)); clear HO0_0; clear HO0_1; clear HK; clear HB; have HO0_0 := n0_; have HO0_1 := n1_; have HK := n2_; have HB := n3_; have BK519 := n4_; have GW519 := n5_; have GE519 := n6_; clear n0_ n1_ n2_ n3_ n4_ n5_ n6_; clear hb hbox hg; have hcz8_0 : w7.cell? ⟨gb519, 0, none⟩ = some (.slice Ao5 l0_0.length co5) := (blk_cell BK519.out 0).trans rfl; have hcz8_1 : w7.cell? ⟨gb519, 1, none⟩ = some (.slice Ao6 l0_1.length co6) := (blk_cell BK519.out 1).trans rfl; have hfz8_0 := blk_frozen BK519.out 0; have hfz8_1 := blk_frozen BK519.out 1) | ((with_reducible refine gate_callee (f := 18) rfl ?_); refine goesL_ (some 8) rfl rfl Try.func18 (by kernel_rfl) rfl #[.slice Ao5 l0_0.length co5, .int .i64 a1] rfl (by (try simp only [List.map_toArray, List.map_cons, List.map_nil]); first | done | rfl | (simp only [List.length_drop, List.length_take]; rfl)) ?_; (with_reducible refine (laws_markInt64S.calls k (fun k_ => some k_ = (.slice Ao5 l0_0.length co5 : Value).ownBlock) (.slice Ao5 l0_0.length co5) l0_0 a1 t520 t521 w0 _ ?side1 ?side2 A3.out).mono ?_); (case side1 => repeat (first | (with_reducible first | exact HB.out | apply below_alloc | apply pw_below_drewN | apply below_drew1 | refine below_set ?_ GE519.out) | exact HB.out)); (case side2 => exact Kd.R_tight rfl HO0_0.out); rintro e w9 ⟨rfl, hy0, hb, hkp⟩; refine ⟨_, rfl, ?_⟩; have n0_ := Aside0.mk (Kd.R_reok rfl hy0 (fun k_ e_ => HO0_0.out.1 k_ e_)); have n1_ := Aside0.mk (Kd.R_mono (ok' := fun k_ => ((P0_0_ k_ ∨ P0_1_ k_) ∨ w.heap.size ≤ k_)) (Kd.R_keptB ((Kd.R_apart' HO0_1.out (Kd.R_typed HO0_0.out) (by decide))) hkp (fun k_ hk_ hs_ => (hk_.2) hs_)) (fun k_ hk_ => hk_.1.1)); have n2_ := Aside0.mk (blk_kept (by (with_reducible repeat (first | refine blk_drewN ?_ _ | refine blk_drew ?_ | refine blk_alloc ?_ _)); exact BK519.out) hkp (fun hs_ => (fun e_ => (Kd.R_ne HO0_0.out BK519.out (by decide)) e_) hs_)); have n3_ := Aside0.mk (Kept.then_ (S := (fun k_ => P0_0_ k_ ∨ P0_1_ k_)) (by repeat (first | (with_reducible first | exact HK.out | apply Kept.alloc | apply Kept.drewN | apply Kept.drew | refine Kept.setCell ?_ (.inr GW519.out) _) | exact HK.out)) hkp (fun k_ hs_ => (fun e_ => (HO0_0.out.1 k_ e_.symm)) hs_)); have n4_ := Aside0.mk (hb); clear HO0_0; clear HO0_1; clear BK519; clear HK; clear HB; have HO0_0 := n0_; have HO0_1 := n1_; have BK519 := n2_; have HK := n3_; have HB := n4_; clear n0_ n1_ n2_ n3_ n4_; (try clear hb); (try clear hkp); (try clear hy0); have hcz10_0 : w9.cell? ⟨gb519, 0, none⟩ = some (.slice Ao5 l0_0.length co5) := (blk_cell BK519.out 0).trans rfl; have hcz10_1 : w9.cell? ⟨gb519, 1, none⟩ = some (.slice Ao6 l0_1.length co6) := (blk_cell BK519.out 1).trans rfl; have hfz10_0 := blk_frozen BK519.out 0; have hfz10_1 := blk_frozen BK519.out 1) | ((with_reducible refine gate_callee (f := 64) rfl ?_); refine goesL_ (some 12) rfl rfl Try.func64 (by kernel_rfl) rfl #[.slice Ao6 l0_1.length co6, .int .i64 t520] rfl (by (try simp only [List.map_toArray, List.map_cons, List.map_nil]); first | done | rfl | (simp only [List.length_drop, List.length_take]; rfl)) ?_; (with_reducible refine (laws_markWireS.calls k (fun k_ => some k_ = (.slice Ao6 l0_1.length co6 : Value).ownBlock) (.slice Ao6 l0_1.length co6) l0_1 t520 t522 t523 w0 _ ?side1 ?side2 A4.out).mono ?_); (case side1 => repeat (first | (with_reducible first | exact HB.out | apply below_alloc | apply pw_below_drewN | apply below_drew1 | refine below_set ?_ GE519.out) | exact HB.out)); (case side2 => exact Kd.R_tight rfl HO0_1.out); rintro e w11 ⟨rfl, hy0, hb, hkp⟩; refine ⟨_, rfl, ?_⟩; have n0_ := Aside0.mk (Kd.R_mono (ok' := fun k_ => ((P0_0_ k_ ∨ P0_1_ k_) ∨ w.heap.size ≤ k_)) (Kd.R_keptB ((Kd.R_apart' HO0_0.out (Kd.R_typed HO0_1.out) (by decide))) hkp (fun k_ hk_ hs_ => (hk_.2) hs_)) (fun k_ hk_ => hk_.1.1)); have n1_ := Aside0.mk (Kd.R_reok rfl hy0 (fun k_ e_ => HO0_1.out.1 k_ e_)); have n2_ := Aside0.mk (blk_kept (by (with_reducible repeat (first | refine blk_drewN ?_ _ | refine blk_drew ?_ | refine blk_alloc ?_ _)); exact BK519.out) hkp (fun hs_ => (fun e_ => (Kd.R_ne HO0_1.out BK519.out (by decide)) e_) hs_)); have n3_ := Aside0.mk (Kept.then_ (S := (fun k_ => P0_0_ k_ ∨ P0_1_ k_)) (by repeat (first | (with_reducible first | exact HK.out | apply Kept.alloc | apply Kept.drewN | apply Kept.drew | refine Kept.setCell ?_ (.inr GW519.out) _) | exact HK.out)) hkp (fun k_ hs_ => (fun e_ => (HO0_1.out.1 k_ e_.symm)) hs_)); have n4_ := Aside0.mk (hb); clear HO0_0; clear HO0_1; clear BK519; clear HK; clear HB; have HO0_0 := n0_; have HO0_1 := n1_; have BK519 := n2_; have HK := n3_; have HB := n4_; clear n0_ n1_ n2_ n3_ n4_; (try clear hb); (try clear hkp); (try clear hy0)))
  go_ret
  exact ⟨by first | rfl | (simp [errW_none, errW_some] <;> rfl) | (simp [*, errW_none, errW_some] <;> rfl), by (with_reducible repeat (first | apply Kd.R_alloc | apply Kd.R_drewN | apply Kd.R_drew)); exact HO0_0.out, by (with_reducible repeat (first | apply Kd.R_alloc | apply Kd.R_drewN | apply Kd.R_drew)); exact HO0_1.out, by repeat (first | (with_reducible first | exact HB.out | apply below_alloc | apply pw_below_drewN | apply below_drew1 | refine below_set ?_ GE519.out) | exact HB.out), by repeat (first | (with_reducible first | exact HK.out | apply Kept.alloc | apply Kept.drewN | apply Kept.drew | refine Kept.setCell ?_ (.inr GW519.out) _) | exact HK.out)⟩
end Go.Proofs.Ytojpibpjieanhaa.X
end
